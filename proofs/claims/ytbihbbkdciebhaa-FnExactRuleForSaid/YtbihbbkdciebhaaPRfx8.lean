/- Plain Lean functions of a law's Go functions, their contracts, by a program of this session (wip/pr.py over the kit's print). -/
import Derived.Test.YtbihbbkdciebhaaPRfx0
import Derived.Test.YtbihbbkdciebhaaPRfx1
import Derived.Test.YtbihbbkdciebhaaPRfx3
import Derived.Test.YtbihbbkdciebhaaPRfx6
import Derived.Test.YtbihbbkdciebhaaPRfx7
namespace Go.Proofs.Ytbihbbkdciebhaa.PRf
open Go.RowKit Go.Proofs.YtbihbbkdciebhaaW.PrintWords Go.Proofs.YtbihbbkdciebhaaW.PrintLast Go.Proofs.YtbihbbkdciebhaaW.PrintMore
attribute [local go_sem] max2_int min2_int max_two min_two max_three min_three max_four min_four   -- for this text's walks alone
set_option linter.unusedVariables false
set_option linter.unusedSimpArgs false

attribute [local go_sem high] eqA34
/-! ### impl_isByte: function 53 -/
def impl_isByte.f (a0 : Int) : Option (Bool) := (impl_within.f a0 0 255).bind fun t410 => (some t410)
set_option maxHeartbeats 8000000 in
set_option maxRecDepth 100000 in
theorem impl_isByte.calls (a0 : Int) (r : Bool) (w : World) (h : impl_isByte.f a0 = some r) :
  Calls Try.prog 53 #[.int .i64 a0] w fun e w' => e = .returned (.bool r) ∧ Drawn0 w w' := by
 have H : ((impl_within.f a0 0 255).bind fun t410 => (some t410)) = some r := h
 clear h
 replace H := Option.bind_eq_some_iff.mp H
 obtain ⟨t410, A20, H⟩ := H
 replace H : (some t410) = some r := H
 have A2 := Gv.a0 A20
 clear A20
 obtain rfl := Option.some.inj H
 go_enter Try.func53, Try.ntmps53
 go_wp2_with (first | ((with_reducible refine gate_callee (f := 46) rfl ?_); refine goesL_ (some 4) rfl rfl Try.func46 (by kernel_rfl) rfl #[.int .i64 a0, .int .i64 0, .int .i64 255] rfl Gv.lm ?_; (with_reducible refine (impl_within.calls a0 0 255 t410 _ A2.out).mono ?_); rintro e w' ⟨rfl, ⟨nd, rfl⟩⟩; refine ⟨_, rfl, ?_⟩))
 go_ret
 exact ⟨by first | rfl | (simp; done) | (simp [Int.tdiv_eq_ediv_of_nonneg]; done) | (simp [*]; done), by repeat (first | exact Drawn0.refl _ | apply Drawn0.step)⟩

/-! ### impl_isWord: function 71 -/
def impl_isWord.f (a0 : Int) : Option (Bool) := (impl_within.f a0 0 65535).bind fun t411 => (some t411)
set_option maxHeartbeats 8000000 in
set_option maxRecDepth 100000 in
theorem impl_isWord.calls (a0 : Int) (r : Bool) (w : World) (h : impl_isWord.f a0 = some r) :
  Calls Try.prog 71 #[.int .i64 a0] w fun e w' => e = .returned (.bool r) ∧ Drawn0 w w' := by
 have H : ((impl_within.f a0 0 65535).bind fun t411 => (some t411)) = some r := h
 clear h
 replace H := Option.bind_eq_some_iff.mp H
 obtain ⟨t411, A20, H⟩ := H
 replace H : (some t411) = some r := H
 have A2 := Gv.a0 A20
 clear A20
 obtain rfl := Option.some.inj H
 go_enter Try.func71, Try.ntmps71
 go_wp2_with (first | ((with_reducible refine gate_callee (f := 46) rfl ?_); refine goesL_ (some 4) rfl rfl Try.func46 (by kernel_rfl) rfl #[.int .i64 a0, .int .i64 0, .int .i64 65535] rfl Gv.lm ?_; (with_reducible refine (impl_within.calls a0 0 65535 t411 _ A2.out).mono ?_); rintro e w' ⟨rfl, ⟨nd, rfl⟩⟩; refine ⟨_, rfl, ?_⟩))
 go_ret
 exact ⟨by first | rfl | (simp; done) | (simp [Int.tdiv_eq_ediv_of_nonneg]; done) | (simp [*]; done), by repeat (first | exact Drawn0.refl _ | apply Drawn0.step)⟩

/-! ### impl_areWords: function 54 -/
def impl_areWords.l0 : Nat → List Int → Int → Int → Option (Bool)
 | 0, _, _, _ => none
 | k + 1, x5, x6, x7 => if x7 < x6 then (if 0 ≤ x7 then (if x7 < (x5.length : Int) then ((impl_isWord.f (rd x5 x7)).bind fun t413 => (if t413 = true then (impl_areWords.l0 k x5 x6 (wrap64 (x7 + 1))) else (some false))) else (none)) else (none)) else (some true)
def impl_areWords.f (k : Nat) (l0 : List Int) : Option (Bool) := impl_areWords.l0 k l0 (l0.length : Int) 0
theorem impl_areWords.mono_l : ∀ k, (∀ y0 y1 y2, LeO (impl_areWords.l0 k y0 y1 y2) (impl_areWords.l0 (k + 1) y0 y1 y2))
 | 0 => fun _ _ _ r h => by simp [impl_areWords.l0] at h
 | k + 1 => by
  have ih0 := impl_areWords.mono_l k
  ·intro y0 y1 y2
   unfold impl_areWords.l0
   repeat' first
   | (with_reducible exact ih0 _ _ _)
   | (with_reducible exact LeO.refl _)
   | (with_reducible exact LeO.none _)
   | (with_reducible refine LeO.ite ?_ ?_)
   | (with_reducible refine LeO.bind ?_ (fun _ => ?_))
   | exact ih0 _ _ _
   | exact LeO.none _
   | refine LeO.ite ?_ ?_
   | refine LeO.bind ?_ (fun _ => ?_)
theorem impl_areWords.mono : ∀ a0 k, LeO (impl_areWords.f k a0) (impl_areWords.f (k + 1) a0) := by
 intro a0 k
 have ih0 := impl_areWords.mono_l k
 unfold impl_areWords.f
 repeat' first
   | (with_reducible exact ih0 _ _ _)
   | (with_reducible exact LeO.refl _)
   | (with_reducible exact LeO.none _)
   | (with_reducible refine LeO.ite ?_ ?_)
   | (with_reducible refine LeO.bind ?_ (fun _ => ?_))
   | exact ih0 _ _ _
   | exact LeO.none _
   | refine LeO.ite ?_ ?_
   | refine LeO.bind ?_ (fun _ => ?_)
set_option maxHeartbeats 8000000 in
set_option maxRecDepth 100000 in
theorem impl_areWords.calls (k : Nat) (A0 : Option Addr) (c0 : Nat) (l0 : List Int) (r : Bool) (w : World) (hr0 : Kd.C (Kd.int .i64) w A0 l0.length l0) (hc0 : l0.length ≤ c0) (h : impl_areWords.f k l0 = some r) :
  Calls Try.prog 54 #[.slice A0 l0.length c0] w fun e w' => e = .returned (.bool r) ∧ Drawn0 w w' := by
 have HR0 := Gv.a0 hr0
 have HC0 := Gv.a0 hc0
 clear hr0 hc0
 have H : (impl_areWords.l0 k l0 (l0.length : Int) 0) = some r := h
 clear h
 have H' := Gv.a0 H
 clear H
 go_enter Try.func54, Try.ntmps54
 go_wp2
 go_loopg [7] k (fun kq v7 w' => ∃ (x7_1 : Int), v7 = .int .i64 x7_1 ∧ Aside0 (impl_areWords.l0 kq l0 (l0.length : Int) x7_1 = some r) ∧ Aside0 (kq ≤ k) ∧ Drawn0 w w')
 case atStart => exact ⟨(0), Gv.rq, H', ⟨Nat.le_refl _⟩, by repeat (first | exact Drawn0.refl _ | apply Drawn0.step)⟩
 case round =>
  clear H'
  obtain ⟨x7_1, rfl, HA, HK1, ⟨m1, rfl⟩⟩ := hrel
  cases gk with
  | zero => exact absurd HA.out (by simp [impl_areWords.l0])
  | succ k1 =>
   have H := HA.out
   clear HA
   simp only [impl_areWords.l0] at H
   by_cases c2 : x7_1 < (l0.length : Int)
   ·rw [if_pos c2] at H
    have c2b0 : decide (x7_1 < (l0.length : Int)) = true := decide_eq_true c2
    clear c2
    by_cases c3 : 0 ≤ x7_1
    ·rw [if_pos c3] at H
     have c3b0 : decide (0 ≤ x7_1) = true := decide_eq_true c3
     clear c3
     by_cases c4 : x7_1 < (l0.length : Int)
     ·rw [if_pos c4] at H
      have c4b0 : decide (x7_1 < (l0.length : Int)) = true := decide_eq_true c4
      clear c4
      replace H := Option.bind_eq_some_iff.mp H
      obtain ⟨t413, A50, H⟩ := H
      replace H : (if t413 = true then (impl_areWords.l0 k1 l0 (l0.length : Int) (wrap64 (x7_1 + 1))) else (some false)) = some r := H
      have A5 := Gv.a0 A50
      clear A50
      by_cases c6 : t413 = true
      ·subst c6
       have H1 : (impl_areWords.l0 k1 l0 (l0.length : Int) (wrap64 (x7_1 + 1))) = some r := by rw [if_pos rfl] at H; exact H
       clear H
       have H := H1
       clear H1
       have H' := Gv.a0 H
       clear H
       have p412 : 0 ≤ (x7_1 : Int) := of_decide_eq_true (by first | (with_reducible assumption) | assumption)
       have q412 : x7_1 < (l0.length : Int) := of_decide_eq_true (by first | (with_reducible assumption) | assumption)
       obtain ⟨ad412, e412, hx412_0⟩ := Kd.at_int HR0.out x7_1 p412 q412
       cases e412
       replace p412 := eq_true p412
       replace q412 := eq_true q412
       go_wp2_with (first | ((with_reducible refine gate_callee (f := 71) rfl ?_); refine goesL_ (some 12) rfl rfl Try.func71 (by kernel_rfl) rfl #[.int .i64 (rd l0 x7_1)] rfl Gv.lm ?_; (with_reducible refine (impl_isWord.calls (rd l0 x7_1) true _ A5.out).mono ?_); rintro e w' ⟨rfl, ⟨nd, rfl⟩⟩; refine ⟨_, rfl, ?_⟩))
       go_roundg k1
       case measure => have := HK1.out; omega
       case rel => exact ⟨(wrap64 (x7_1 + 1)), Gv.rq, H', ⟨by have := HK1.out; omega⟩, by repeat (first | exact Drawn0.refl _ | apply Drawn0.step)⟩
      ·replace c6 := Bool.eq_false_iff.mpr c6
       subst c6
       have H1 : (some false) = some r := by rw [if_neg (show ¬ (false = true) by decide)] at H; exact H
       clear H
       have H := H1
       clear H1
       obtain rfl := Option.some.inj H
       have p412 : 0 ≤ (x7_1 : Int) := of_decide_eq_true (by first | (with_reducible assumption) | assumption)
       have q412 : x7_1 < (l0.length : Int) := of_decide_eq_true (by first | (with_reducible assumption) | assumption)
       obtain ⟨ad412, e412, hx412_0⟩ := Kd.at_int HR0.out x7_1 p412 q412
       cases e412
       replace p412 := eq_true p412
       replace q412 := eq_true q412
       go_wp2_with (first | ((with_reducible refine gate_callee (f := 71) rfl ?_); refine goesL_ (some 12) rfl rfl Try.func71 (by kernel_rfl) rfl #[.int .i64 (rd l0 x7_1)] rfl Gv.lm ?_; (with_reducible refine (impl_isWord.calls (rd l0 x7_1) false _ A5.out).mono ?_); rintro e w' ⟨rfl, ⟨nd, rfl⟩⟩; refine ⟨_, rfl, ?_⟩))
       go_ret
       exact ⟨by first | rfl | (simp; done) | (simp [Int.tdiv_eq_ediv_of_nonneg]; done) | (simp [*]; done), by repeat (first | exact Drawn0.refl _ | apply Drawn0.step)⟩
     ·rw [if_neg c4] at H
      exact absurd H (by simp)
    ·rw [if_neg c3] at H
     exact absurd H (by simp)
   ·rw [if_neg c2] at H
    have c2b0 : decide (x7_1 < (l0.length : Int)) = false := decide_eq_false c2
    clear c2
    obtain rfl := Option.some.inj H
    go_wp2
    go_ret
    exact ⟨by first | rfl | (simp; done) | (simp [Int.tdiv_eq_ediv_of_nonneg]; done) | (simp [*]; done), by repeat (first | exact Drawn0.refl _ | apply Drawn0.step)⟩

/-! ### impl_KeyOk: function 33 -/
def impl_KeyOk.f (k : Nat) (a0_0 : Int) (a0_1 : Int) (a0_2 : Int) (a0_3 : Int) (a0_4 : Int) (a0_5 : Int) (a0_6 : Int) (a0_7 : Int) (a0_8 : Int) (a0_9 : Int) (a0_10 : Int) (a0_11 : Int) (a0_12 : Int) : Option (Bool) := (impl_areBoth.f a0_0 a0_1 a0_2 a0_3 a0_4 a0_5 a0_6 a0_7 a0_8 a0_9).bind fun t415 => (if t415 = true then ((impl_isByte.f a0_10).bind fun t416 => (if t416 = true then ((impl_areWords.f k (([a0_11, a0_12] : List Int))).bind fun t420 => (some t420)) else (some false))) else (some false))
theorem impl_KeyOk.mono : ∀ a0 a1 a2 a3 a4 a5 a6 a7 a8 a9 a10 a11 a12 k, LeO (impl_KeyOk.f k a0 a1 a2 a3 a4 a5 a6 a7 a8 a9 a10 a11 a12) (impl_KeyOk.f (k + 1) a0 a1 a2 a3 a4 a5 a6 a7 a8 a9 a10 a11 a12) := by
 intro a0 a1 a2 a3 a4 a5 a6 a7 a8 a9 a10 a11 a12 k
 unfold impl_KeyOk.f
 repeat' first
   | (with_reducible exact impl_areWords.mono _ _)
   | (with_reducible exact LeO.refl _)
   | (with_reducible exact LeO.none _)
   | (with_reducible refine LeO.ite ?_ ?_)
   | (with_reducible refine LeO.bind ?_ (fun _ => ?_))
   | exact impl_areWords.mono _ _
   | exact LeO.none _
   | refine LeO.ite ?_ ?_
   | refine LeO.bind ?_ (fun _ => ?_)
set_option maxHeartbeats 8000000 in
set_option maxRecDepth 100000 in
theorem impl_KeyOk.calls (k : Nat) (a0_0 : Int) (a0_1 : Int) (a0_2 : Int) (a0_3 : Int) (a0_4 : Int) (a0_5 : Int) (a0_6 : Int) (a0_7 : Int) (a0_8 : Int) (a0_9 : Int) (a0_10 : Int) (a0_11 : Int) (a0_12 : Int) (r : Bool) (w : World) (h : impl_KeyOk.f k a0_0 a0_1 a0_2 a0_3 a0_4 a0_5 a0_6 a0_7 a0_8 a0_9 a0_10 a0_11 a0_12 = some r) :
  Calls Try.prog 33 #[.agg #[.int .i64 a0_0, .int .i64 a0_1, .int .i64 a0_2, .int .i64 a0_3, .int .i64 a0_4, .int .i64 a0_5, .int .i64 a0_6, .int .i64 a0_7, .int .i64 a0_8, .int .i64 a0_9, .int .i64 a0_10, .int .i64 a0_11, .int .i64 a0_12]] w fun e w' => e = .returned (.bool r) ∧ Below w.heap.size w w' := by
 have hu36 := Try.underlying36
 have hu34 := Try.underlying34
 have HB := Gv.a0 (Below.refl w.heap.size w)
 have H : ((impl_areBoth.f a0_0 a0_1 a0_2 a0_3 a0_4 a0_5 a0_6 a0_7 a0_8 a0_9).bind fun t415 => (if t415 = true then ((impl_isByte.f a0_10).bind fun t416 => (if t416 = true then ((impl_areWords.f k (([a0_11, a0_12] : List Int))).bind fun t420 => (some t420)) else (some false))) else (some false))) = some r := h
 clear h
 replace H := Option.bind_eq_some_iff.mp H
 obtain ⟨t415, A20, H⟩ := H
 replace H : (if t415 = true then ((impl_isByte.f a0_10).bind fun t416 => (if t416 = true then ((impl_areWords.f k (([a0_11, a0_12] : List Int))).bind fun t420 => (some t420)) else (some false))) else (some false)) = some r := H
 have A2 := Gv.a0 A20
 clear A20
 by_cases c3 : t415 = true
 ·subst c3
  have H1 : ((impl_isByte.f a0_10).bind fun t416 => (if t416 = true then ((impl_areWords.f k (([a0_11, a0_12] : List Int))).bind fun t420 => (some t420)) else (some false))) = some r := by rw [if_pos rfl] at H; exact H
  clear H
  have H := H1
  clear H1
  replace H := Option.bind_eq_some_iff.mp H
  obtain ⟨t416, A40, H⟩ := H
  replace H : (if t416 = true then ((impl_areWords.f k (([a0_11, a0_12] : List Int))).bind fun t420 => (some t420)) else (some false)) = some r := H
  have A4 := Gv.a0 A40
  clear A40
  by_cases c5 : t416 = true
  ·subst c5
   have H1 : ((impl_areWords.f k (([a0_11, a0_12] : List Int))).bind fun t420 => (some t420)) = some r := by rw [if_pos rfl] at H; exact H
   clear H
   have H := H1
   clear H1
   obtain ⟨y417, hy417⟩ : ∃ y_ : List Int, y_ = (([a0_11, a0_12] : List Int)) := ⟨_, rfl⟩
   replace H : ((impl_areWords.f k y417).bind fun t420 => (some t420)) = some r := by first | (rw [hy417]; with_reducible exact H) | (have H2_ := (Option.bind_some _ _).symm.trans H; rw [hy417]; with_reducible exact H2_) | (have H2_ := (Option.bind_some _ _).symm.trans H; with_reducible exact H2_) | with_reducible exact H | (rw [hy417]; exact H) | exact H
   have Ny417 := Gv.a0 hy417
   clear hy417
   replace H := Option.bind_eq_some_iff.mp H
   obtain ⟨t420, A60, H⟩ := H
   replace H : (some t420) = some r := H
   have A6 := Gv.a0 A60
   clear A60
   obtain rfl := Option.some.inj H
   go_enter Try.func33, Try.ntmps33
   go_wp2_with (first | ((with_reducible refine gate_dst (N := 1) rfl ?_); (try (refine gate_guard (by rfl) ?_; dsimp only)); refine box_event ?hg (N := 1) ?hd (cs := #[.int .i64 a0_0, .int .i64 a0_1, .int .i64 a0_2, .int .i64 a0_3, .int .i64 a0_4, .int .i64 a0_5, .int .i64 a0_6, .int .i64 a0_7, .int .i64 a0_8, .int .i64 a0_9, .int .i64 a0_10, .int .i64 a0_11, .int .i64 a0_12]) (t := 36) ?hr ?_; (case hd => rfl); (case hg => rfl); (case hr => first | (go_simp; done) | (go_simp; rfl)); intro gb414 hg w7 hbox hb; have n0_ := Gv.a0 (below_step Gv.bw hb); have n1_ := Gv.a0 (hbox); have n2_ := Gv.a0 ((Gv.ble hg Gv.bw : w.heap.size ≤ gb414)); have n3_ := Gv.a0 ((Gv.ble hg Gv.bw : w.heap.size ≤ gb414)); clear HB; have HB := n0_; have BK414 := n1_; have GW414 := n2_; have GE414 := n3_; clear n0_ n1_ n2_ n3_; clear hb hbox hg; obtain ⟨hcz8_0, hcz8_1, hcz8_2, hcz8_3, hcz8_4, hcz8_5, hcz8_6, hcz8_7, hcz8_8, hcz8_9, hcz8_10, hcz8_11, hcz8_12⟩ := Gv.c13 BK414.out; obtain ⟨hfz8_0, hfz8_1, hfz8_2, hfz8_3, hfz8_4, hfz8_5, hfz8_6, hfz8_7, hfz8_8, hfz8_9, hfz8_10, hfz8_11, hfz8_12⟩ := Gv.f13 BK414.out) | ((with_reducible refine gate_callee (f := 52) rfl ?_); refine goesL_ (some 7) rfl rfl Try.func52 (by kernel_rfl) rfl #[.agg #[.int .i64 a0_0, .int .i64 a0_1, .int .i64 a0_2, .int .i64 a0_3, .int .i64 a0_4], .agg #[.int .i64 a0_5, .int .i64 a0_6, .int .i64 a0_7, .int .i64 a0_8, .int .i64 a0_9]] rfl Gv.lm ?_; (with_reducible refine (impl_areBoth.calls a0_0 a0_1 a0_2 a0_3 a0_4 a0_5 a0_6 a0_7 a0_8 a0_9 true _ A2.out).mono ?_); rintro e w9 ⟨rfl, hb⟩; refine ⟨_, rfl, ?_⟩; have n0_ := Gv.a0 (Gv.bb BK414.out hb); have n1_ := Gv.a0 (below_step Gv.bw hb); clear BK414; clear HB; have BK414 := n0_; have HB := n1_; clear n0_ n1_; (try clear hb); (try clear hb2); (try clear hk); (try clear hi); obtain ⟨hcz10_0, hcz10_1, hcz10_2, hcz10_3, hcz10_4, hcz10_5, hcz10_6, hcz10_7, hcz10_8, hcz10_9, hcz10_10, hcz10_11, hcz10_12⟩ := Gv.c13 BK414.out; obtain ⟨hfz10_0, hfz10_1, hfz10_2, hfz10_3, hfz10_4, hfz10_5, hfz10_6, hfz10_7, hfz10_8, hfz10_9, hfz10_10, hfz10_11, hfz10_12⟩ := Gv.f13 BK414.out) | (go_at_call 53; (with_reducible refine (impl_isByte.calls a0_10 true _ A4.out).mono ?_); rintro e w' ⟨rfl, ⟨nd, rfl⟩⟩) | ((with_reducible refine gate_dst (N := 18) rfl ?_); (try (refine gate_guard (by rfl) ?_; dsimp only)); refine Kd.R_lit (Kd.int .i64) _ 3 ?hg (N := 18) ?hd (xs := ([a0_11, a0_12] : List Int)) (inner := [.int .i64 a0_11, .int .i64 a0_12]) (ok := fun _ => True) (okp := fun _ => True) ?hr ?hp (fun _ hk => hk) trivial (Below.refl _ _) (Nat.le_refl _) (by simp) ?_; (case hd => rfl); (case hg => rfl); (case hr => first | (go_simp; done) | (go_simp; rfl)); (case hp => exact (Reps.one (show Kd.M (Kd.int .i64) _ _ _ a0_11 [.int .i64 a0_11] from rfl) (Reps.one (show Kd.M (Kd.int .i64) _ _ _ a0_12 [.int .i64 a0_12] from rfl) (Reps.none _ _)))); intro v418 w11 ho12 hb hg_ hnew_; clear hg_ hnew_; (first | rw [← Ny417.out] at ho12 | (simp only [Int.reduceToNat] at ho12; rw [← Ny417.out] at ho12)); have n0_ := Gv.a0 (Kd.R_lower ho12 (below_size Gv.bw)); have n1_ := Gv.a0 (Gv.bb BK414.out hb); have n2_ := Gv.a0 (below_step Gv.bw hb); clear BK414; clear HB; have HO419 := n0_; have BK414 := n1_; have HB := n2_; clear n0_ n1_ n2_; clear hb ho12; obtain ⟨Ao13, co13, eo13⟩ := Kd.R_slice HO419.out; subst eo13) | (go_at_call 54; (with_reducible refine (impl_areWords.calls k _ _ y417 t420 _ ?side1 ?side2 A6.out).mono ?_); (case side1 => repeat (first | exact (Kd.R_reads' HO419.out).2.2 | (with_reducible refine Kd.C_alloc ?_ _) | (with_reducible refine Kd.C_drewN ?_ _) | (with_reducible refine Kd.C_drew ?_))); (case side2 => exact (Kd.R_reads' HO419.out).2.1); rintro e w' ⟨rfl, ⟨nd, rfl⟩⟩))
   go_ret
   exact ⟨Gv.rt, Gv.bw⟩
  ·replace c5 := Bool.eq_false_iff.mpr c5
   subst c5
   have H1 : (some false) = some r := by rw [if_neg (show ¬ (false = true) by decide)] at H; exact H
   clear H
   have H := H1
   clear H1
   obtain rfl := Option.some.inj H
   go_enter Try.func33, Try.ntmps33
   go_wp2_with (first | ((with_reducible refine gate_dst (N := 1) rfl ?_); (try (refine gate_guard (by rfl) ?_; dsimp only)); refine box_event ?hg (N := 1) ?hd (cs := #[.int .i64 a0_0, .int .i64 a0_1, .int .i64 a0_2, .int .i64 a0_3, .int .i64 a0_4, .int .i64 a0_5, .int .i64 a0_6, .int .i64 a0_7, .int .i64 a0_8, .int .i64 a0_9, .int .i64 a0_10, .int .i64 a0_11, .int .i64 a0_12]) (t := 36) ?hr ?_; (case hd => rfl); (case hg => rfl); (case hr => first | (go_simp; done) | (go_simp; rfl)); intro gb414 hg w14 hbox hb; have n0_ := Gv.a0 (below_step Gv.bw hb); have n1_ := Gv.a0 (hbox); have n2_ := Gv.a0 ((Gv.ble hg Gv.bw : w.heap.size ≤ gb414)); have n3_ := Gv.a0 ((Gv.ble hg Gv.bw : w.heap.size ≤ gb414)); clear HB; have HB := n0_; have BK414 := n1_; have GW414 := n2_; have GE414 := n3_; clear n0_ n1_ n2_ n3_; clear hb hbox hg; obtain ⟨hcz15_0, hcz15_1, hcz15_2, hcz15_3, hcz15_4, hcz15_5, hcz15_6, hcz15_7, hcz15_8, hcz15_9, hcz15_10, hcz15_11, hcz15_12⟩ := Gv.c13 BK414.out; obtain ⟨hfz15_0, hfz15_1, hfz15_2, hfz15_3, hfz15_4, hfz15_5, hfz15_6, hfz15_7, hfz15_8, hfz15_9, hfz15_10, hfz15_11, hfz15_12⟩ := Gv.f13 BK414.out) | ((with_reducible refine gate_callee (f := 52) rfl ?_); refine goesL_ (some 7) rfl rfl Try.func52 (by kernel_rfl) rfl #[.agg #[.int .i64 a0_0, .int .i64 a0_1, .int .i64 a0_2, .int .i64 a0_3, .int .i64 a0_4], .agg #[.int .i64 a0_5, .int .i64 a0_6, .int .i64 a0_7, .int .i64 a0_8, .int .i64 a0_9]] rfl Gv.lm ?_; (with_reducible refine (impl_areBoth.calls a0_0 a0_1 a0_2 a0_3 a0_4 a0_5 a0_6 a0_7 a0_8 a0_9 true _ A2.out).mono ?_); rintro e w16 ⟨rfl, hb⟩; refine ⟨_, rfl, ?_⟩; have n0_ := Gv.a0 (Gv.bb BK414.out hb); have n1_ := Gv.a0 (below_step Gv.bw hb); clear BK414; clear HB; have BK414 := n0_; have HB := n1_; clear n0_ n1_; (try clear hb); (try clear hb2); (try clear hk); (try clear hi); obtain ⟨hcz17_0, hcz17_1, hcz17_2, hcz17_3, hcz17_4, hcz17_5, hcz17_6, hcz17_7, hcz17_8, hcz17_9, hcz17_10, hcz17_11, hcz17_12⟩ := Gv.c13 BK414.out; obtain ⟨hfz17_0, hfz17_1, hfz17_2, hfz17_3, hfz17_4, hfz17_5, hfz17_6, hfz17_7, hfz17_8, hfz17_9, hfz17_10, hfz17_11, hfz17_12⟩ := Gv.f13 BK414.out) | (go_at_call 53; (with_reducible refine (impl_isByte.calls a0_10 false _ A4.out).mono ?_); rintro e w' ⟨rfl, ⟨nd, rfl⟩⟩))
   go_ret
   exact ⟨Gv.rt, Gv.bw⟩
 ·replace c3 := Bool.eq_false_iff.mpr c3
  subst c3
  have H1 : (some false) = some r := by rw [if_neg (show ¬ (false = true) by decide)] at H; exact H
  clear H
  have H := H1
  clear H1
  obtain rfl := Option.some.inj H
  go_enter Try.func33, Try.ntmps33
  go_wp2_with (first | ((with_reducible refine gate_dst (N := 1) rfl ?_); (try (refine gate_guard (by rfl) ?_; dsimp only)); refine box_event ?hg (N := 1) ?hd (cs := #[.int .i64 a0_0, .int .i64 a0_1, .int .i64 a0_2, .int .i64 a0_3, .int .i64 a0_4, .int .i64 a0_5, .int .i64 a0_6, .int .i64 a0_7, .int .i64 a0_8, .int .i64 a0_9, .int .i64 a0_10, .int .i64 a0_11, .int .i64 a0_12]) (t := 36) ?hr ?_; (case hd => rfl); (case hg => rfl); (case hr => first | (go_simp; done) | (go_simp; rfl)); intro gb414 hg w18 hbox hb; have n0_ := Gv.a0 (below_step Gv.bw hb); have n1_ := Gv.a0 (hbox); have n2_ := Gv.a0 ((Gv.ble hg Gv.bw : w.heap.size ≤ gb414)); have n3_ := Gv.a0 ((Gv.ble hg Gv.bw : w.heap.size ≤ gb414)); clear HB; have HB := n0_; have BK414 := n1_; have GW414 := n2_; have GE414 := n3_; clear n0_ n1_ n2_ n3_; clear hb hbox hg; obtain ⟨hcz19_0, hcz19_1, hcz19_2, hcz19_3, hcz19_4, hcz19_5, hcz19_6, hcz19_7, hcz19_8, hcz19_9, hcz19_10, hcz19_11, hcz19_12⟩ := Gv.c13 BK414.out; obtain ⟨hfz19_0, hfz19_1, hfz19_2, hfz19_3, hfz19_4, hfz19_5, hfz19_6, hfz19_7, hfz19_8, hfz19_9, hfz19_10, hfz19_11, hfz19_12⟩ := Gv.f13 BK414.out) | ((with_reducible refine gate_callee (f := 52) rfl ?_); refine goesL_ (some 7) rfl rfl Try.func52 (by kernel_rfl) rfl #[.agg #[.int .i64 a0_0, .int .i64 a0_1, .int .i64 a0_2, .int .i64 a0_3, .int .i64 a0_4], .agg #[.int .i64 a0_5, .int .i64 a0_6, .int .i64 a0_7, .int .i64 a0_8, .int .i64 a0_9]] rfl Gv.lm ?_; (with_reducible refine (impl_areBoth.calls a0_0 a0_1 a0_2 a0_3 a0_4 a0_5 a0_6 a0_7 a0_8 a0_9 false _ A2.out).mono ?_); rintro e w20 ⟨rfl, hb⟩; refine ⟨_, rfl, ?_⟩; have n0_ := Gv.a0 (Gv.bb BK414.out hb); have n1_ := Gv.a0 (below_step Gv.bw hb); clear BK414; clear HB; have BK414 := n0_; have HB := n1_; clear n0_ n1_; (try clear hb); (try clear hb2); (try clear hk); (try clear hi)))
  go_ret
  exact ⟨Gv.rt, Gv.bw⟩

/-! ### impl_Prefix_has: function 55 -/
def impl_Prefix_has.f (k : Nat) (a0_0 : Int) (a0_1 : Int) (a0_2 : Int) (a0_3 : Int) (a0_4 : Int) (a0_5 : Int) (a1_0 : Int) (a1_1 : Int) (a1_2 : Int) (a1_3 : Int) (a1_4 : Int) : Option (Bool) := (impl_isAny.f a0_0 a0_1 a0_2 a0_3 a0_4 a0_5).bind fun t423 => (if t423 = true then (some true) else (if a1_0 = a0_0 then ((impl_Cut.f k a1_0 a1_1 a1_2 a1_3 a1_4 a0_5).bind fun bt424 => (some (bt424.1 == a0_0 && (bt424.2.1 == a0_1 && (bt424.2.2.1 == a0_2 && (bt424.2.2.2.1 == a0_3 && (bt424.2.2.2.2 == a0_4))))))) else (some false)))
theorem impl_Prefix_has.mono : ∀ a0 a1 a2 a3 a4 a5 a6 a7 a8 a9 a10 k, LeO (impl_Prefix_has.f k a0 a1 a2 a3 a4 a5 a6 a7 a8 a9 a10) (impl_Prefix_has.f (k + 1) a0 a1 a2 a3 a4 a5 a6 a7 a8 a9 a10) := by
 intro a0 a1 a2 a3 a4 a5 a6 a7 a8 a9 a10 k
 unfold impl_Prefix_has.f
 repeat' first
   | (with_reducible exact impl_Cut.mono _ _ _ _ _ _ _)
   | (with_reducible exact LeO.refl _)
   | (with_reducible exact LeO.none _)
   | (with_reducible refine LeO.ite ?_ ?_)
   | (with_reducible refine LeO.bind ?_ (fun _ => ?_))
   | exact impl_Cut.mono _ _ _ _ _ _ _
   | exact LeO.none _
   | refine LeO.ite ?_ ?_
   | refine LeO.bind ?_ (fun _ => ?_)
def impl_Prefix_has.T1 : Bool × List (List Nat × List Nat) := (true, [([], []), ([0], [0]), ([1, 1], [1]), ([2], [2]), ([3, 2], [2, 3]), ([2], [2]), ([5, 2], [2, 5]), ([6, 2], [2, 6]), ([4, 7, 2], [2, 4, 7]), ([8, 2, 2], [2, 8]), ([9], [9]), ([9], [9]), ([11, 9], [9, 11]), ([10, 12, 9, 9], [9, 10, 12]), ([9], [9]), ([14, 9], [9, 14]), ([13, 15, 9], [9, 13, 15]), ([9, 16, 2], [2, 9, 16]), ([2, 17], [2, 17]), ([18, 13, 0, 1, 2, 3, 4, 5, 6, 7, 8, 9, 10, 11, 12, 13, 14, 15, 16, 17, 18], [18])])
def impl_Prefix_has.B1 : List Nat := [0, 1, 3, 7, 15, 7, 39, 103, 255, 511, 1023, 1023, 3071, 8191, 1023, 17407, 65535, 131071, 262143, 524287]
theorem impl_Prefix_has.tab1 : rtab .any (opsOf Try.f55 1) = impl_Prefix_has.T1 := by kernel_rfl
theorem impl_Prefix_has.bits1 : waitsOk impl_Prefix_has.T1.2 impl_Prefix_has.B1 = true := by kernel_rfl
set_option maxHeartbeats 8000000 in
set_option maxRecDepth 100000 in
theorem impl_Prefix_has.calls (k : Nat) (a0_0 : Int) (a0_1 : Int) (a0_2 : Int) (a0_3 : Int) (a0_4 : Int) (a0_5 : Int) (a1_0 : Int) (a1_1 : Int) (a1_2 : Int) (a1_3 : Int) (a1_4 : Int) (r : Bool) (w : World) (h : impl_Prefix_has.f k a0_0 a0_1 a0_2 a0_3 a0_4 a0_5 a1_0 a1_1 a1_2 a1_3 a1_4 = some r) :
  Calls Try.prog 55 #[.agg #[.int .i64 a0_0, .int .i64 a0_1, .int .i64 a0_2, .int .i64 a0_3, .int .i64 a0_4, .int .i64 a0_5], .agg #[.int .i64 a1_0, .int .i64 a1_1, .int .i64 a1_2, .int .i64 a1_3, .int .i64 a1_4]] w fun e w' => e = .returned (.bool r) ∧ Below w.heap.size w w' := by
 have hu53 := Try.underlying53
 have hu34 := Try.underlying34
 have HB := Gv.a0 (Below.refl w.heap.size w)
 have H : ((impl_isAny.f a0_0 a0_1 a0_2 a0_3 a0_4 a0_5).bind fun t423 => (if t423 = true then (some true) else (if a1_0 = a0_0 then ((impl_Cut.f k a1_0 a1_1 a1_2 a1_3 a1_4 a0_5).bind fun bt424 => (some (bt424.1 == a0_0 && (bt424.2.1 == a0_1 && (bt424.2.2.1 == a0_2 && (bt424.2.2.2.1 == a0_3 && (bt424.2.2.2.2 == a0_4))))))) else (some false)))) = some r := h
 clear h
 replace H := Option.bind_eq_some_iff.mp H
 obtain ⟨t423, A30, H⟩ := H
 replace H : (if t423 = true then (some true) else (if a1_0 = a0_0 then ((impl_Cut.f k a1_0 a1_1 a1_2 a1_3 a1_4 a0_5).bind fun bt424 => (some (bt424.1 == a0_0 && (bt424.2.1 == a0_1 && (bt424.2.2.1 == a0_2 && (bt424.2.2.2.1 == a0_3 && (bt424.2.2.2.2 == a0_4))))))) else (some false))) = some r := H
 have A3 := Gv.a0 A30
 clear A30
 by_cases c4 : t423 = true
 ·subst c4
  have H1 : (some true) = some r := by rw [if_pos rfl] at H; exact H
  clear H
  have H := H1
  clear H1
  obtain rfl := Option.some.inj H
  go_enter Try.func55, Try.ntmps55
  try go_wp2_with (first | ((with_reducible refine gate_dst (N := 2) rfl ?_); refine box_event ?hg (N := 2) ?hd (cs := #[.int .i64 a0_0, .int .i64 a0_1, .int .i64 a0_2, .int .i64 a0_3, .int .i64 a0_4, .int .i64 a0_5]) (t := 53) ?hr ?_; (case hd => rfl); (case hg => rfl); (case hr => first | (go_simp; done) | (go_simp; rfl)); intro gb421 hg w5 hbox hb; have n0_ := Gv.a0 (below_step Gv.bw hb); have n1_ := Gv.a0 (hbox); have n2_ := Gv.a0 ((Gv.ble hg Gv.bw : w.heap.size ≤ gb421)); have n3_ := Gv.a0 ((Gv.ble hg Gv.bw : w.heap.size ≤ gb421)); clear HB; have HB := n0_; have BK421 := n1_; have GW421 := n2_; have GE421 := n3_; clear n0_ n1_ n2_ n3_; clear hb hbox hg) | ((with_reducible refine gate_dst (N := 3) rfl ?_); refine box_event ?hg (N := 3) ?hd (cs := #[.int .i64 a1_0, .int .i64 a1_1, .int .i64 a1_2, .int .i64 a1_3, .int .i64 a1_4]) (t := 34) ?hr ?_; (case hd => rfl); (case hg => rfl); (case hr => first | (go_simp; done) | (go_simp; rfl)); intro gb422 hg w6 hbox hb; have n0_ := Gv.a0 (Gv.bb BK421.out hb); have n1_ := Gv.a0 (below_step Gv.bw hb); have n2_ := Gv.a0 (hbox); have n3_ := Gv.a0 ((Gv.ble hg Gv.bw : w.heap.size ≤ gb422)); have n4_ := Gv.a0 ((Gv.ble hg Gv.bw : w.heap.size ≤ gb422)); have n5_ := Gv.a0 ((Gv.nlt hg (Gv.kb BK421.out) : gb421 ≠ gb422)); have n6_ := Gv.a0 ((Gv.ngt hg (Gv.kb BK421.out) : gb422 ≠ gb421)); clear BK421; clear HB; have BK421 := n0_; have HB := n1_; have BK422 := n2_; have GW422 := n3_; have GE422 := n4_; have NB421_422 := n5_; have NB422_421 := n6_; clear n0_ n1_ n2_ n3_ n4_ n5_ n6_; clear hb hbox hg))
  have n0_ := Gv.a0 (blk_drew BK421.out)
  have n1_ := Gv.a0 (blk_drew BK422.out)
  have n2_ := Gv.a0 (below_drew1 HB.out)
  clear BK421
  clear BK422
  clear HB
  have BK421 := n0_
  have BK422 := n1_
  have HB := n2_
  clear n0_ n1_ n2_
  refine start_ (n := 20) (S := fun w' => w'.cell? ⟨gb421, 0, none⟩ = some (.int .i64 a0_0) ∧ w'.cell? ⟨gb421, 1, none⟩ = some (.int .i64 a0_1) ∧ w'.cell? ⟨gb421, 2, none⟩ = some (.int .i64 a0_2) ∧ w'.cell? ⟨gb421, 3, none⟩ = some (.int .i64 a0_3) ∧ w'.cell? ⟨gb421, 4, none⟩ = some (.int .i64 a0_4) ∧ w'.cell? ⟨gb421, 5, none⟩ = some (.int .i64 a0_5)) (ds := []) #[false, false, false, false, false, false, false, false, false, false, false, false, false, false, false, false, false, false, false, false] (by kernel_rfl) rfl rfl ⟨(blk_cell BK421.out 0).trans rfl, (blk_cell BK421.out 1).trans rfl, (blk_cell BK421.out 2).trans rfl, (blk_cell BK421.out 3).trans rfl, (blk_cell BK421.out 4).trans rfl, (blk_cell BK421.out 5).trans rfl⟩ (fun hHeld => ?_); refine with_tabW impl_Prefix_has.tab1 impl_Prefix_has.bits1 (fun HT_ HW_ => ?_)
  generalize w6.drew = w7 at BK421 BK422 HB hHeld ⊢
  refine take_ (i := 0) (N := some 5) (v := ?_) (a' := ?_) #[true, false, false, false, false, false, false, false, false, false, false, false, false, false, false, false, false, false, false, false] rfl rfl (take_ofW HT_.out HW_.out (by kernel_rfl)) (fun _ _ _ h => h) (Or.inl ⟨by rfl, ?_⟩) hHeld ?_ ?_
  rotate_left
  ·rintro w' ⟨s0, s1, s2, s3, s4, s5⟩
   go_simp
   with_reducible rfl
  rotate_left
  ·simp only [Act.put, List.setIfInBounds_toArray, List.set_cons_zero, List.set_cons_succ, i64_w, i32_w]
   rfl
  refine one_ (i := 1) (N := some 6) #[true, true, false, false, false, false, false, false, false, false, false, false, false, false, false, false, false, false, false, false] rfl rfl (one_of HT_.out (by kernel_rfl)) (by decide) (fun K hK => ?_)
  refine goes_ Try.func64 (by kernel_rfl) rfl #[.agg #[.int .i64 a0_0, .int .i64 a0_1, .int .i64 a0_2, .int .i64 a0_3, .int .i64 a0_4, .int .i64 a0_5]] (by rfl) rfl rfl Gv.lm ?_
  with_reducible refine (impl_isAny.calls a0_0 a0_1 a0_2 a0_3 a0_4 a0_5 true _ A3.out).mono ?_
  rintro e w8 ⟨rfl, hb⟩
  refine ⟨_, rfl, ?_⟩
  have n0_ := Gv.a0 (Gv.bb BK421.out hb)
  have n1_ := Gv.a0 (Gv.bb BK422.out hb)
  have n2_ := Gv.a0 (below_step Gv.bw hb)
  clear BK421
  clear BK422
  clear HB
  have BK421 := n0_
  have BK422 := n1_
  have HB := n2_
  clear n0_ n1_ n2_
  (try clear hb)
  (try clear hb2)
  (try clear hk)
  (try clear hi)
  refine hK.out _ _ ⟨(blk_cell BK421.out 0).trans rfl, (blk_cell BK421.out 1).trans rfl, (blk_cell BK421.out 2).trans rfl, (blk_cell BK421.out 3).trans rfl, (blk_cell BK421.out 4).trans rfl, (blk_cell BK421.out 5).trans rfl⟩ (fun hHeld => ?_)
  clear hK K
  refine norm_ (a' := ?_) ?_ ?_
  rotate_left
  ·show Act.put _ (some 6) _ = _
   simp only [Act.put, List.setIfInBounds_toArray, List.set_cons_zero, List.set_cons_succ, i64_w, i32_w]
   rfl
  refine Gv.pu 2 (some 7) HT_ ?_
  refine Gv.pn 3 (some 8) HT_ ?_
  refine Gv.pn 4 (some 9) HT_ ?_
  refine Gv.pn 5 (some 10) HT_ ?_
  refine Gv.pn 6 (some 11) HT_ ?_
  refine Gv.pn 7 (some 12) HT_ ?_
  refine Gv.pn 8 (some 13) HT_ ?_
  refine Gv.pn 9 (some 14) HT_ ?_
  refine Gv.pn 10 (some 15) HT_ ?_
  refine Gv.pn 11 (some 16) HT_ ?_
  refine Gv.pn 12 (some 17) HT_ ?_
  refine Gv.pn 13 (some 18) HT_ ?_
  refine Gv.pn 14 (some 19) HT_ ?_
  refine Gv.pn 15 (some 20) HT_ ?_
  refine Gv.pn 16 (some 21) HT_ ?_
  refine Gv.pn 17 (some 22) HT_ ?_
  refine Gv.pu 18 (some 23) HT_ ?_
  refine Gv.pu 19 (some 4) HT_ ?_
  refine done_ (done_of HT_.out (by kernel_rfl)) ?_
  try go_wp2
  go_ret
  exact ⟨Gv.rt, Gv.bw⟩
 ·replace c4 := Bool.eq_false_iff.mpr c4
  subst c4
  have H1 : (if a1_0 = a0_0 then ((impl_Cut.f k a1_0 a1_1 a1_2 a1_3 a1_4 a0_5).bind fun bt424 => (some (bt424.1 == a0_0 && (bt424.2.1 == a0_1 && (bt424.2.2.1 == a0_2 && (bt424.2.2.2.1 == a0_3 && (bt424.2.2.2.2 == a0_4))))))) else (some false)) = some r := by rw [if_neg (show ¬ (false = true) by decide)] at H; exact H
  clear H
  have H := H1
  clear H1
  by_cases c9 : a1_0 = a0_0
  ·rw [if_pos c9] at H
   have c9b0 : (a1_0 == a0_0) = true := beq_iff_eq.mpr c9
   have c9b1 : (a1_0 != a0_0) = false := bne_eq_false_iff_eq.mpr c9
   clear c9
   replace H := Option.bind_eq_some_iff.mp H
   obtain ⟨⟨t424, t425, t426, t427, t428⟩, A100, H⟩ := H
   replace H : (some (t424 == a0_0 && (t425 == a0_1 && (t426 == a0_2 && (t427 == a0_3 && (t428 == a0_4)))))) = some r := H
   have A10 := Gv.a0 A100
   clear A100
   obtain rfl := Option.some.inj H
   go_enter Try.func55, Try.ntmps55
   try go_wp2_with (first | ((with_reducible refine gate_dst (N := 2) rfl ?_); refine box_event ?hg (N := 2) ?hd (cs := #[.int .i64 a0_0, .int .i64 a0_1, .int .i64 a0_2, .int .i64 a0_3, .int .i64 a0_4, .int .i64 a0_5]) (t := 53) ?hr ?_; (case hd => rfl); (case hg => rfl); (case hr => first | (go_simp; done) | (go_simp; rfl)); intro gb421 hg w11 hbox hb; have n0_ := Gv.a0 (below_step Gv.bw hb); have n1_ := Gv.a0 (hbox); have n2_ := Gv.a0 ((Gv.ble hg Gv.bw : w.heap.size ≤ gb421)); have n3_ := Gv.a0 ((Gv.ble hg Gv.bw : w.heap.size ≤ gb421)); clear HB; have HB := n0_; have BK421 := n1_; have GW421 := n2_; have GE421 := n3_; clear n0_ n1_ n2_ n3_; clear hb hbox hg) | ((with_reducible refine gate_dst (N := 3) rfl ?_); refine box_event ?hg (N := 3) ?hd (cs := #[.int .i64 a1_0, .int .i64 a1_1, .int .i64 a1_2, .int .i64 a1_3, .int .i64 a1_4]) (t := 34) ?hr ?_; (case hd => rfl); (case hg => rfl); (case hr => first | (go_simp; done) | (go_simp; rfl)); intro gb422 hg w12 hbox hb; have n0_ := Gv.a0 (Gv.bb BK421.out hb); have n1_ := Gv.a0 (below_step Gv.bw hb); have n2_ := Gv.a0 (hbox); have n3_ := Gv.a0 ((Gv.ble hg Gv.bw : w.heap.size ≤ gb422)); have n4_ := Gv.a0 ((Gv.ble hg Gv.bw : w.heap.size ≤ gb422)); have n5_ := Gv.a0 ((Gv.nlt hg (Gv.kb BK421.out) : gb421 ≠ gb422)); have n6_ := Gv.a0 ((Gv.ngt hg (Gv.kb BK421.out) : gb422 ≠ gb421)); clear BK421; clear HB; have BK421 := n0_; have HB := n1_; have BK422 := n2_; have GW422 := n3_; have GE422 := n4_; have NB421_422 := n5_; have NB422_421 := n6_; clear n0_ n1_ n2_ n3_ n4_ n5_ n6_; clear hb hbox hg))
   have n0_ := Gv.a0 (blk_drew BK421.out)
   have n1_ := Gv.a0 (blk_drew BK422.out)
   have n2_ := Gv.a0 (below_drew1 HB.out)
   clear BK421
   clear BK422
   clear HB
   have BK421 := n0_
   have BK422 := n1_
   have HB := n2_
   clear n0_ n1_ n2_
   refine start_ (n := 20) (S := fun w' => w'.cell? ⟨gb421, 0, none⟩ = some (.int .i64 a0_0) ∧ w'.cell? ⟨gb421, 1, none⟩ = some (.int .i64 a0_1) ∧ w'.cell? ⟨gb421, 2, none⟩ = some (.int .i64 a0_2) ∧ w'.cell? ⟨gb421, 3, none⟩ = some (.int .i64 a0_3) ∧ w'.cell? ⟨gb421, 4, none⟩ = some (.int .i64 a0_4) ∧ w'.cell? ⟨gb421, 5, none⟩ = some (.int .i64 a0_5) ∧ w'.cell? ⟨gb422, 0, none⟩ = some (.int .i64 a1_0) ∧ w'.cell? ⟨gb422, 1, none⟩ = some (.int .i64 a1_1) ∧ w'.cell? ⟨gb422, 2, none⟩ = some (.int .i64 a1_2) ∧ w'.cell? ⟨gb422, 3, none⟩ = some (.int .i64 a1_3) ∧ w'.cell? ⟨gb422, 4, none⟩ = some (.int .i64 a1_4)) (ds := []) #[false, false, false, false, false, false, false, false, false, false, false, false, false, false, false, false, false, false, false, false] (by kernel_rfl) rfl rfl ⟨(blk_cell BK421.out 0).trans rfl, (blk_cell BK421.out 1).trans rfl, (blk_cell BK421.out 2).trans rfl, (blk_cell BK421.out 3).trans rfl, (blk_cell BK421.out 4).trans rfl, (blk_cell BK421.out 5).trans rfl, (blk_cell BK422.out 0).trans rfl, (blk_cell BK422.out 1).trans rfl, (blk_cell BK422.out 2).trans rfl, (blk_cell BK422.out 3).trans rfl, (blk_cell BK422.out 4).trans rfl⟩ (fun hHeld => ?_); refine with_tabW impl_Prefix_has.tab1 impl_Prefix_has.bits1 (fun HT_ HW_ => ?_)
   generalize w12.drew = w13 at BK421 BK422 HB hHeld ⊢
   refine take_ (i := 0) (N := some 5) (v := ?_) (a' := ?_) #[true, false, false, false, false, false, false, false, false, false, false, false, false, false, false, false, false, false, false, false] rfl rfl (take_ofW HT_.out HW_.out (by kernel_rfl)) (fun _ _ _ h => h) (Or.inl ⟨by rfl, ?_⟩) hHeld ?_ ?_
   rotate_left
   ·rintro w' ⟨s0, s1, s2, s3, s4, s5, s6, s7, s8, s9, s10⟩
    go_simp
    with_reducible rfl
   rotate_left
   ·simp only [Act.put, List.setIfInBounds_toArray, List.set_cons_zero, List.set_cons_succ, i64_w, i32_w]
    rfl
   refine one_ (i := 1) (N := some 6) #[true, true, false, false, false, false, false, false, false, false, false, false, false, false, false, false, false, false, false, false] rfl rfl (one_of HT_.out (by kernel_rfl)) (by decide) (fun K hK => ?_)
   refine goes_ Try.func64 (by kernel_rfl) rfl #[.agg #[.int .i64 a0_0, .int .i64 a0_1, .int .i64 a0_2, .int .i64 a0_3, .int .i64 a0_4, .int .i64 a0_5]] (by rfl) rfl rfl Gv.lm ?_
   with_reducible refine (impl_isAny.calls a0_0 a0_1 a0_2 a0_3 a0_4 a0_5 false _ A3.out).mono ?_
   rintro e w14 ⟨rfl, hb⟩
   refine ⟨_, rfl, ?_⟩
   have n0_ := Gv.a0 (Gv.bb BK421.out hb)
   have n1_ := Gv.a0 (Gv.bb BK422.out hb)
   have n2_ := Gv.a0 (below_step Gv.bw hb)
   clear BK421
   clear BK422
   clear HB
   have BK421 := n0_
   have BK422 := n1_
   have HB := n2_
   clear n0_ n1_ n2_
   (try clear hb)
   (try clear hb2)
   (try clear hk)
   (try clear hi)
   refine hK.out _ _ ⟨(blk_cell BK421.out 0).trans rfl, (blk_cell BK421.out 1).trans rfl, (blk_cell BK421.out 2).trans rfl, (blk_cell BK421.out 3).trans rfl, (blk_cell BK421.out 4).trans rfl, (blk_cell BK421.out 5).trans rfl, (blk_cell BK422.out 0).trans rfl, (blk_cell BK422.out 1).trans rfl, (blk_cell BK422.out 2).trans rfl, (blk_cell BK422.out 3).trans rfl, (blk_cell BK422.out 4).trans rfl⟩ (fun hHeld => ?_)
   clear hK K
   refine norm_ (a' := ?_) ?_ ?_
   rotate_left
   ·show Act.put _ (some 6) _ = _
    simp only [Act.put, List.setIfInBounds_toArray, List.set_cons_zero, List.set_cons_succ, i64_w, i32_w]
    rfl
   refine Gv.pu 2 (some 7) HT_ ?_
   refine Gv.pu 3 (some 8) HT_ ?_
   refine Gv.pu 5 (some 10) HT_ ?_
   refine Gv.pu 6 (some 11) HT_ ?_
   refine take_ (i := 4) (N := some 9) (v := ?_) (a' := ?_) #[true, true, true, true, true, true, true, false, false, false, false, false, false, false, false, false, false, false, false, false] rfl rfl (take_ofW HT_.out HW_.out (by kernel_rfl)) (fun _ _ _ h => h) (Or.inl ⟨by rfl, ?_⟩) hHeld ?_ ?_
   rotate_left
   ·rintro w' ⟨s0, s1, s2, s3, s4, s5, s6, s7, s8, s9, s10⟩
    go_simp
    with_reducible rfl
   rotate_left
   ·simp only [Act.put, List.setIfInBounds_toArray, List.set_cons_zero, List.set_cons_succ, i64_w, i32_w]
    rfl
   refine take_ (i := 7) (N := some 12) (v := ?_) (a' := ?_) #[true, true, true, true, true, true, true, true, false, false, false, false, false, false, false, false, false, false, false, false] rfl rfl (take_ofW HT_.out HW_.out (by kernel_rfl)) (fun _ _ _ h => h) (Or.inl ⟨by rfl, ?_⟩) hHeld ?_ ?_
   rotate_left
   ·rintro w' ⟨s0, s1, s2, s3, s4, s5, s6, s7, s8, s9, s10⟩
    go_simp
    with_reducible rfl
   rotate_left
   ·simp only [Act.put, List.setIfInBounds_toArray, List.set_cons_zero, List.set_cons_succ, i64_w, i32_w]
    rfl
   refine Gv.pu 8 (some 13) HT_ ?_
   refine Gv.pu 9 (some 14) HT_ ?_
   refine Gv.pu 11 (some 16) HT_ ?_
   refine Gv.pu 14 (some 19) HT_ ?_
   refine take_ (i := 10) (N := some 15) (v := ?_) (a' := ?_) #[true, true, true, true, true, true, true, true, true, true, true, true, false, false, true, false, false, false, false, false] rfl rfl (take_ofW HT_.out HW_.out (by kernel_rfl)) (fun _ _ _ h => h) (Or.inl ⟨by rfl, ?_⟩) hHeld ?_ ?_
   rotate_left
   ·rintro w' ⟨s0, s1, s2, s3, s4, s5, s6, s7, s8, s9, s10⟩
    go_simp
    with_reducible rfl
   rotate_left
   ·simp only [Act.put, List.setIfInBounds_toArray, List.set_cons_zero, List.set_cons_succ, i64_w, i32_w]
    rfl
   refine take_ (i := 12) (N := some 17) (v := ?_) (a' := ?_) #[true, true, true, true, true, true, true, true, true, true, true, true, true, false, true, false, false, false, false, false] rfl rfl (take_ofW HT_.out HW_.out (by kernel_rfl)) (fun _ _ _ h => h) (Or.inl ⟨by rfl, ?_⟩) hHeld ?_ ?_
   rotate_left
   ·rintro w' ⟨s0, s1, s2, s3, s4, s5, s6, s7, s8, s9, s10⟩
    go_simp
    with_reducible rfl
   rotate_left
   ·simp only [Act.put, List.setIfInBounds_toArray, List.set_cons_zero, List.set_cons_succ, i64_w, i32_w]
    rfl
   refine take_ (i := 15) (N := some 20) (v := ?_) (a' := ?_) #[true, true, true, true, true, true, true, true, true, true, true, true, true, false, true, true, false, false, false, false] rfl rfl (take_ofW HT_.out HW_.out (by kernel_rfl)) (fun _ _ _ h => h) (Or.inl ⟨by rfl, ?_⟩) hHeld ?_ ?_
   rotate_left
   ·rintro w' ⟨s0, s1, s2, s3, s4, s5, s6, s7, s8, s9, s10⟩
    go_simp
    with_reducible rfl
   rotate_left
   ·simp only [Act.put, List.setIfInBounds_toArray, List.set_cons_zero, List.set_cons_succ, i64_w, i32_w]
    rfl
   refine one_ (i := 13) (N := some 18) #[true, true, true, true, true, true, true, true, true, true, true, true, true, true, true, true, false, false, false, false] rfl rfl (one_of HT_.out (by kernel_rfl)) (by decide) (fun K hK => ?_)
   refine goes_ Try.func67 (by kernel_rfl) rfl #[.agg #[.int .i64 a1_0, .int .i64 a1_1, .int .i64 a1_2, .int .i64 a1_3, .int .i64 a1_4], .int .i64 a0_5] (by rfl) rfl rfl Gv.lm ?_
   with_reducible refine (impl_Cut.calls k a1_0 a1_1 a1_2 a1_3 a1_4 a0_5 t424 t425 t426 t427 t428 _ A10.out).mono ?_
   rintro e w15 ⟨rfl, hb⟩
   refine ⟨_, rfl, ?_⟩
   have n0_ := Gv.a0 (Gv.bb BK421.out hb)
   have n1_ := Gv.a0 (Gv.bb BK422.out hb)
   have n2_ := Gv.a0 (below_step Gv.bw hb)
   clear BK421
   clear BK422
   clear HB
   have BK421 := n0_
   have BK422 := n1_
   have HB := n2_
   clear n0_ n1_ n2_
   (try clear hb)
   (try clear hb2)
   (try clear hk)
   (try clear hi)
   refine hK.out _ _ ⟨(blk_cell BK421.out 0).trans rfl, (blk_cell BK421.out 1).trans rfl, (blk_cell BK421.out 2).trans rfl, (blk_cell BK421.out 3).trans rfl, (blk_cell BK421.out 4).trans rfl, (blk_cell BK421.out 5).trans rfl, (blk_cell BK422.out 0).trans rfl, (blk_cell BK422.out 1).trans rfl, (blk_cell BK422.out 2).trans rfl, (blk_cell BK422.out 3).trans rfl, (blk_cell BK422.out 4).trans rfl⟩ (fun hHeld => ?_)
   clear hK K
   refine norm_ (a' := ?_) ?_ ?_
   rotate_left
   ·show Act.put _ (some 18) _ = _
    simp only [Act.put, List.setIfInBounds_toArray, List.set_cons_zero, List.set_cons_succ, i64_w, i32_w]
    rfl
   refine Gv.pu 16 (some 21) HT_ ?_
   refine Gv.pu 17 (some 22) HT_ ?_
   refine Gv.pu 18 (some 23) HT_ ?_
   refine Gv.pu 19 (some 4) HT_ ?_
   refine done_ (done_of HT_.out (by kernel_rfl)) ?_
   try go_wp2
   go_ret
   exact ⟨Gv.rt, Gv.bw⟩
  ·rw [if_neg c9] at H
   have c9b0 : (a1_0 == a0_0) = false := beq_eq_false_iff_ne.mpr c9
   have c9b1 : (a1_0 != a0_0) = true := bne_iff_ne.mpr c9
   obtain rfl := Option.some.inj H
   go_enter Try.func55, Try.ntmps55
   try go_wp2_with (first | ((with_reducible refine gate_dst (N := 2) rfl ?_); refine box_event ?hg (N := 2) ?hd (cs := #[.int .i64 a0_0, .int .i64 a0_1, .int .i64 a0_2, .int .i64 a0_3, .int .i64 a0_4, .int .i64 a0_5]) (t := 53) ?hr ?_; (case hd => rfl); (case hg => rfl); (case hr => first | (go_simp; done) | (go_simp; rfl)); intro gb421 hg w16 hbox hb; have n0_ := Gv.a0 (below_step Gv.bw hb); have n1_ := Gv.a0 (hbox); have n2_ := Gv.a0 ((Gv.ble hg Gv.bw : w.heap.size ≤ gb421)); have n3_ := Gv.a0 ((Gv.ble hg Gv.bw : w.heap.size ≤ gb421)); clear HB; have HB := n0_; have BK421 := n1_; have GW421 := n2_; have GE421 := n3_; clear n0_ n1_ n2_ n3_; clear hb hbox hg) | ((with_reducible refine gate_dst (N := 3) rfl ?_); refine box_event ?hg (N := 3) ?hd (cs := #[.int .i64 a1_0, .int .i64 a1_1, .int .i64 a1_2, .int .i64 a1_3, .int .i64 a1_4]) (t := 34) ?hr ?_; (case hd => rfl); (case hg => rfl); (case hr => first | (go_simp; done) | (go_simp; rfl)); intro gb422 hg w17 hbox hb; have n0_ := Gv.a0 (Gv.bb BK421.out hb); have n1_ := Gv.a0 (below_step Gv.bw hb); have n2_ := Gv.a0 (hbox); have n3_ := Gv.a0 ((Gv.ble hg Gv.bw : w.heap.size ≤ gb422)); have n4_ := Gv.a0 ((Gv.ble hg Gv.bw : w.heap.size ≤ gb422)); have n5_ := Gv.a0 ((Gv.nlt hg (Gv.kb BK421.out) : gb421 ≠ gb422)); have n6_ := Gv.a0 ((Gv.ngt hg (Gv.kb BK421.out) : gb422 ≠ gb421)); clear BK421; clear HB; have BK421 := n0_; have HB := n1_; have BK422 := n2_; have GW422 := n3_; have GE422 := n4_; have NB421_422 := n5_; have NB422_421 := n6_; clear n0_ n1_ n2_ n3_ n4_ n5_ n6_; clear hb hbox hg))
   have n0_ := Gv.a0 (blk_drew BK421.out)
   have n1_ := Gv.a0 (blk_drew BK422.out)
   have n2_ := Gv.a0 (below_drew1 HB.out)
   clear BK421
   clear BK422
   clear HB
   have BK421 := n0_
   have BK422 := n1_
   have HB := n2_
   clear n0_ n1_ n2_
   refine start_ (n := 20) (S := fun w' => w'.cell? ⟨gb421, 0, none⟩ = some (.int .i64 a0_0) ∧ w'.cell? ⟨gb421, 1, none⟩ = some (.int .i64 a0_1) ∧ w'.cell? ⟨gb421, 2, none⟩ = some (.int .i64 a0_2) ∧ w'.cell? ⟨gb421, 3, none⟩ = some (.int .i64 a0_3) ∧ w'.cell? ⟨gb421, 4, none⟩ = some (.int .i64 a0_4) ∧ w'.cell? ⟨gb421, 5, none⟩ = some (.int .i64 a0_5) ∧ w'.cell? ⟨gb422, 0, none⟩ = some (.int .i64 a1_0) ∧ w'.cell? ⟨gb422, 1, none⟩ = some (.int .i64 a1_1) ∧ w'.cell? ⟨gb422, 2, none⟩ = some (.int .i64 a1_2) ∧ w'.cell? ⟨gb422, 3, none⟩ = some (.int .i64 a1_3) ∧ w'.cell? ⟨gb422, 4, none⟩ = some (.int .i64 a1_4)) (ds := []) #[false, false, false, false, false, false, false, false, false, false, false, false, false, false, false, false, false, false, false, false] (by kernel_rfl) rfl rfl ⟨(blk_cell BK421.out 0).trans rfl, (blk_cell BK421.out 1).trans rfl, (blk_cell BK421.out 2).trans rfl, (blk_cell BK421.out 3).trans rfl, (blk_cell BK421.out 4).trans rfl, (blk_cell BK421.out 5).trans rfl, (blk_cell BK422.out 0).trans rfl, (blk_cell BK422.out 1).trans rfl, (blk_cell BK422.out 2).trans rfl, (blk_cell BK422.out 3).trans rfl, (blk_cell BK422.out 4).trans rfl⟩ (fun hHeld => ?_); refine with_tabW impl_Prefix_has.tab1 impl_Prefix_has.bits1 (fun HT_ HW_ => ?_)
   generalize w17.drew = w18 at BK421 BK422 HB hHeld ⊢
   refine take_ (i := 0) (N := some 5) (v := ?_) (a' := ?_) #[true, false, false, false, false, false, false, false, false, false, false, false, false, false, false, false, false, false, false, false] rfl rfl (take_ofW HT_.out HW_.out (by kernel_rfl)) (fun _ _ _ h => h) (Or.inl ⟨by rfl, ?_⟩) hHeld ?_ ?_
   rotate_left
   ·rintro w' ⟨s0, s1, s2, s3, s4, s5, s6, s7, s8, s9, s10⟩
    go_simp
    with_reducible rfl
   rotate_left
   ·simp only [Act.put, List.setIfInBounds_toArray, List.set_cons_zero, List.set_cons_succ, i64_w, i32_w]
    rfl
   refine one_ (i := 1) (N := some 6) #[true, true, false, false, false, false, false, false, false, false, false, false, false, false, false, false, false, false, false, false] rfl rfl (one_of HT_.out (by kernel_rfl)) (by decide) (fun K hK => ?_)
   refine goes_ Try.func64 (by kernel_rfl) rfl #[.agg #[.int .i64 a0_0, .int .i64 a0_1, .int .i64 a0_2, .int .i64 a0_3, .int .i64 a0_4, .int .i64 a0_5]] (by rfl) rfl rfl Gv.lm ?_
   with_reducible refine (impl_isAny.calls a0_0 a0_1 a0_2 a0_3 a0_4 a0_5 false _ A3.out).mono ?_
   rintro e w19 ⟨rfl, hb⟩
   refine ⟨_, rfl, ?_⟩
   have n0_ := Gv.a0 (Gv.bb BK421.out hb)
   have n1_ := Gv.a0 (Gv.bb BK422.out hb)
   have n2_ := Gv.a0 (below_step Gv.bw hb)
   clear BK421
   clear BK422
   clear HB
   have BK421 := n0_
   have BK422 := n1_
   have HB := n2_
   clear n0_ n1_ n2_
   (try clear hb)
   (try clear hb2)
   (try clear hk)
   (try clear hi)
   refine hK.out _ _ ⟨(blk_cell BK421.out 0).trans rfl, (blk_cell BK421.out 1).trans rfl, (blk_cell BK421.out 2).trans rfl, (blk_cell BK421.out 3).trans rfl, (blk_cell BK421.out 4).trans rfl, (blk_cell BK421.out 5).trans rfl, (blk_cell BK422.out 0).trans rfl, (blk_cell BK422.out 1).trans rfl, (blk_cell BK422.out 2).trans rfl, (blk_cell BK422.out 3).trans rfl, (blk_cell BK422.out 4).trans rfl⟩ (fun hHeld => ?_)
   clear hK K
   refine norm_ (a' := ?_) ?_ ?_
   rotate_left
   ·show Act.put _ (some 6) _ = _
    simp only [Act.put, List.setIfInBounds_toArray, List.set_cons_zero, List.set_cons_succ, i64_w, i32_w]
    rfl
   refine Gv.pu 2 (some 7) HT_ ?_
   refine Gv.pu 3 (some 8) HT_ ?_
   refine Gv.pu 5 (some 10) HT_ ?_
   refine Gv.pu 6 (some 11) HT_ ?_
   refine take_ (i := 4) (N := some 9) (v := ?_) (a' := ?_) #[true, true, true, true, true, true, true, false, false, false, false, false, false, false, false, false, false, false, false, false] rfl rfl (take_ofW HT_.out HW_.out (by kernel_rfl)) (fun _ _ _ h => h) (Or.inl ⟨by rfl, ?_⟩) hHeld ?_ ?_
   rotate_left
   ·rintro w' ⟨s0, s1, s2, s3, s4, s5, s6, s7, s8, s9, s10⟩
    go_simp
    with_reducible rfl
   rotate_left
   ·simp only [Act.put, List.setIfInBounds_toArray, List.set_cons_zero, List.set_cons_succ, i64_w, i32_w]
    rfl
   refine take_ (i := 7) (N := some 12) (v := ?_) (a' := ?_) #[true, true, true, true, true, true, true, true, false, false, false, false, false, false, false, false, false, false, false, false] rfl rfl (take_ofW HT_.out HW_.out (by kernel_rfl)) (fun _ _ _ h => h) (Or.inl ⟨by rfl, ?_⟩) hHeld ?_ ?_
   rotate_left
   ·rintro w' ⟨s0, s1, s2, s3, s4, s5, s6, s7, s8, s9, s10⟩
    go_simp
    with_reducible rfl
   rotate_left
   ·simp only [Act.put, List.setIfInBounds_toArray, List.set_cons_zero, List.set_cons_succ, i64_w, i32_w]
    rfl
   refine Gv.pu 8 (some 13) HT_ ?_
   refine Gv.pu 9 (some 14) HT_ ?_
   refine Gv.pn 10 (some 15) HT_ ?_
   refine Gv.pn 11 (some 16) HT_ ?_
   refine Gv.pn 12 (some 17) HT_ ?_
   refine Gv.pn 13 (some 18) HT_ ?_
   refine Gv.pn 14 (some 19) HT_ ?_
   refine Gv.pn 15 (some 20) HT_ ?_
   refine Gv.pn 16 (some 21) HT_ ?_
   refine Gv.pu 17 (some 22) HT_ ?_
   refine Gv.pu 18 (some 23) HT_ ?_
   refine Gv.pu 19 (some 4) HT_ ?_
   refine done_ (done_of HT_.out (by kernel_rfl)) ?_
   try go_wp2
   go_ret
   exact ⟨Gv.rt, Gv.bw⟩

/-! ### impl_Rule_matches: function 36 -/
def impl_Rule_matches.f (k : Nat) (a0_0 : Int) (a0_1 : Int) (a0_2 : Int) (a0_3 : Int) (a0_4 : Int) (a0_5 : Int) (a0_6 : Int) (a0_7 : Int) (a0_8 : Int) (a0_9 : Int) (a0_10 : Int) (a0_11 : Int) (a0_12 : Int) (a0_13 : Int) (a0_14 : Int) (a0_15 : Int) (a0_16 : Int) (a0_17 : Int) (a0_18 : Int) (a0_19 : Int) (a0_20 : Int) (a1_0 : Int) (a1_1 : Int) (a1_2 : Int) (a1_3 : Int) (a1_4 : Int) (a1_5 : Int) (a1_6 : Int) (a1_7 : Int) (a1_8 : Int) (a1_9 : Int) (a1_10 : Int) (a1_11 : Int) (a1_12 : Int) : Option (Bool) := (impl_Prefix_has.f k a0_1 a0_2 a0_3 a0_4 a0_5 a0_6 a1_0 a1_1 a1_2 a1_3 a1_4).bind fun t431 => (if t431 = true then ((impl_Prefix_has.f k a0_7 a0_8 a0_9 a0_10 a0_11 a0_12 a1_5 a1_6 a1_7 a1_8 a1_9).bind fun t432 => (if t432 = true then (if a0_13 = (-1) then ((impl_within.f a1_11 a0_14 a0_15).bind fun t433 => (if t433 = true then ((impl_within.f a1_12 a0_16 a0_17).bind fun t434 => (some t434)) else (some false))) else (if a0_13 = a1_10 then ((impl_within.f a1_11 a0_14 a0_15).bind fun t435 => (if t435 = true then ((impl_within.f a1_12 a0_16 a0_17).bind fun t436 => (some t436)) else (some false))) else (some false))) else (some false))) else (some false))
theorem impl_Rule_matches.mono : ∀ a0 a1 a2 a3 a4 a5 a6 a7 a8 a9 a10 a11 a12 a13 a14 a15 a16 a17 a18 a19 a20 a21 a22 a23 a24 a25 a26 a27 a28 a29 a30 a31 a32 a33 k, LeO (impl_Rule_matches.f k a0 a1 a2 a3 a4 a5 a6 a7 a8 a9 a10 a11 a12 a13 a14 a15 a16 a17 a18 a19 a20 a21 a22 a23 a24 a25 a26 a27 a28 a29 a30 a31 a32 a33) (impl_Rule_matches.f (k + 1) a0 a1 a2 a3 a4 a5 a6 a7 a8 a9 a10 a11 a12 a13 a14 a15 a16 a17 a18 a19 a20 a21 a22 a23 a24 a25 a26 a27 a28 a29 a30 a31 a32 a33) := by
 intro a0 a1 a2 a3 a4 a5 a6 a7 a8 a9 a10 a11 a12 a13 a14 a15 a16 a17 a18 a19 a20 a21 a22 a23 a24 a25 a26 a27 a28 a29 a30 a31 a32 a33 k
 unfold impl_Rule_matches.f
 repeat' first
   | (with_reducible exact impl_Prefix_has.mono _ _ _ _ _ _ _ _ _ _ _ _)
   | (with_reducible exact LeO.refl _)
   | (with_reducible exact LeO.none _)
   | (with_reducible refine LeO.ite ?_ ?_)
   | (with_reducible refine LeO.bind ?_ (fun _ => ?_))
   | exact impl_Prefix_has.mono _ _ _ _ _ _ _ _ _ _ _ _
   | exact LeO.none _
   | refine LeO.ite ?_ ?_
   | refine LeO.bind ?_ (fun _ => ?_)
set_option maxHeartbeats 8000000 in
set_option maxRecDepth 100000 in
theorem impl_Rule_matches.calls (k : Nat) (a0_0 : Int) (a0_1 : Int) (a0_2 : Int) (a0_3 : Int) (a0_4 : Int) (a0_5 : Int) (a0_6 : Int) (a0_7 : Int) (a0_8 : Int) (a0_9 : Int) (a0_10 : Int) (a0_11 : Int) (a0_12 : Int) (a0_13 : Int) (a0_14 : Int) (a0_15 : Int) (a0_16 : Int) (a0_17 : Int) (a0_18 : Int) (a0_19 : Int) (a0_20 : Int) (a1_0 : Int) (a1_1 : Int) (a1_2 : Int) (a1_3 : Int) (a1_4 : Int) (a1_5 : Int) (a1_6 : Int) (a1_7 : Int) (a1_8 : Int) (a1_9 : Int) (a1_10 : Int) (a1_11 : Int) (a1_12 : Int) (r : Bool) (w : World) (h : impl_Rule_matches.f k a0_0 a0_1 a0_2 a0_3 a0_4 a0_5 a0_6 a0_7 a0_8 a0_9 a0_10 a0_11 a0_12 a0_13 a0_14 a0_15 a0_16 a0_17 a0_18 a0_19 a0_20 a1_0 a1_1 a1_2 a1_3 a1_4 a1_5 a1_6 a1_7 a1_8 a1_9 a1_10 a1_11 a1_12 = some r) :
  Calls Try.prog 36 #[.agg #[.int .i64 a0_0, .int .i64 a0_1, .int .i64 a0_2, .int .i64 a0_3, .int .i64 a0_4, .int .i64 a0_5, .int .i64 a0_6, .int .i64 a0_7, .int .i64 a0_8, .int .i64 a0_9, .int .i64 a0_10, .int .i64 a0_11, .int .i64 a0_12, .int .i64 a0_13, .int .i64 a0_14, .int .i64 a0_15, .int .i64 a0_16, .int .i64 a0_17, .int .i64 a0_18, .int .i64 a0_19, .int .i64 a0_20], .agg #[.int .i64 a1_0, .int .i64 a1_1, .int .i64 a1_2, .int .i64 a1_3, .int .i64 a1_4, .int .i64 a1_5, .int .i64 a1_6, .int .i64 a1_7, .int .i64 a1_8, .int .i64 a1_9, .int .i64 a1_10, .int .i64 a1_11, .int .i64 a1_12]] w fun e w' => e = .returned (.bool r) ∧ Below w.heap.size w w' := by
 have hu55 := Try.underlying55
 have hu36 := Try.underlying36
 have hu53 := Try.underlying53
 have hu34 := Try.underlying34
 have HB := Gv.a0 (Below.refl w.heap.size w)
 have H : ((impl_Prefix_has.f k a0_1 a0_2 a0_3 a0_4 a0_5 a0_6 a1_0 a1_1 a1_2 a1_3 a1_4).bind fun t431 => (if t431 = true then ((impl_Prefix_has.f k a0_7 a0_8 a0_9 a0_10 a0_11 a0_12 a1_5 a1_6 a1_7 a1_8 a1_9).bind fun t432 => (if t432 = true then (if a0_13 = (-1) then ((impl_within.f a1_11 a0_14 a0_15).bind fun t433 => (if t433 = true then ((impl_within.f a1_12 a0_16 a0_17).bind fun t434 => (some t434)) else (some false))) else (if a0_13 = a1_10 then ((impl_within.f a1_11 a0_14 a0_15).bind fun t435 => (if t435 = true then ((impl_within.f a1_12 a0_16 a0_17).bind fun t436 => (some t436)) else (some false))) else (some false))) else (some false))) else (some false))) = some r := h
 clear h
 replace H := Option.bind_eq_some_iff.mp H
 obtain ⟨t431, A30, H⟩ := H
 replace H : (if t431 = true then ((impl_Prefix_has.f k a0_7 a0_8 a0_9 a0_10 a0_11 a0_12 a1_5 a1_6 a1_7 a1_8 a1_9).bind fun t432 => (if t432 = true then (if a0_13 = (-1) then ((impl_within.f a1_11 a0_14 a0_15).bind fun t433 => (if t433 = true then ((impl_within.f a1_12 a0_16 a0_17).bind fun t434 => (some t434)) else (some false))) else (if a0_13 = a1_10 then ((impl_within.f a1_11 a0_14 a0_15).bind fun t435 => (if t435 = true then ((impl_within.f a1_12 a0_16 a0_17).bind fun t436 => (some t436)) else (some false))) else (some false))) else (some false))) else (some false)) = some r := H
 have A3 := Gv.a0 A30
 clear A30
 by_cases c4 : t431 = true
 ·subst c4
  have H1 : ((impl_Prefix_has.f k a0_7 a0_8 a0_9 a0_10 a0_11 a0_12 a1_5 a1_6 a1_7 a1_8 a1_9).bind fun t432 => (if t432 = true then (if a0_13 = (-1) then ((impl_within.f a1_11 a0_14 a0_15).bind fun t433 => (if t433 = true then ((impl_within.f a1_12 a0_16 a0_17).bind fun t434 => (some t434)) else (some false))) else (if a0_13 = a1_10 then ((impl_within.f a1_11 a0_14 a0_15).bind fun t435 => (if t435 = true then ((impl_within.f a1_12 a0_16 a0_17).bind fun t436 => (some t436)) else (some false))) else (some false))) else (some false))) = some r := by rw [if_pos rfl] at H; exact H
  clear H
  have H := H1
  clear H1
  replace H := Option.bind_eq_some_iff.mp H
  obtain ⟨t432, A50, H⟩ := H
  replace H : (if t432 = true then (if a0_13 = (-1) then ((impl_within.f a1_11 a0_14 a0_15).bind fun t433 => (if t433 = true then ((impl_within.f a1_12 a0_16 a0_17).bind fun t434 => (some t434)) else (some false))) else (if a0_13 = a1_10 then ((impl_within.f a1_11 a0_14 a0_15).bind fun t435 => (if t435 = true then ((impl_within.f a1_12 a0_16 a0_17).bind fun t436 => (some t436)) else (some false))) else (some false))) else (some false)) = some r := H
  have A5 := Gv.a0 A50
  clear A50
  by_cases c6 : t432 = true
  ·subst c6
   have H1 : (if a0_13 = (-1) then ((impl_within.f a1_11 a0_14 a0_15).bind fun t433 => (if t433 = true then ((impl_within.f a1_12 a0_16 a0_17).bind fun t434 => (some t434)) else (some false))) else (if a0_13 = a1_10 then ((impl_within.f a1_11 a0_14 a0_15).bind fun t435 => (if t435 = true then ((impl_within.f a1_12 a0_16 a0_17).bind fun t436 => (some t436)) else (some false))) else (some false))) = some r := by rw [if_pos rfl] at H; exact H
   clear H
   have H := H1
   clear H1
   by_cases c7 : a0_13 = (-1)
   ·rw [if_pos c7] at H
    have c7b0 : (a0_13 == (-1)) = true := beq_iff_eq.mpr c7
    have c7b1 : (a0_13 != (-1)) = false := bne_eq_false_iff_eq.mpr c7
    clear c7
    replace H := Option.bind_eq_some_iff.mp H
    obtain ⟨t433, A80, H⟩ := H
    replace H : (if t433 = true then ((impl_within.f a1_12 a0_16 a0_17).bind fun t434 => (some t434)) else (some false)) = some r := H
    have A8 := Gv.a0 A80
    clear A80
    by_cases c9 : t433 = true
    ·subst c9
     have H1 : ((impl_within.f a1_12 a0_16 a0_17).bind fun t434 => (some t434)) = some r := by rw [if_pos rfl] at H; exact H
     clear H
     have H := H1
     clear H1
     replace H := Option.bind_eq_some_iff.mp H
     obtain ⟨t434, A100, H⟩ := H
     replace H : (some t434) = some r := H
     have A10 := Gv.a0 A100
     clear A100
     obtain rfl := Option.some.inj H
     go_enter Try.func36, Try.ntmps36
     go_wp2_with (first | ((with_reducible refine gate_dst (N := 2) rfl ?_); refine box_event ?hg (N := 2) ?hd (cs := #[.int .i64 a0_0, .int .i64 a0_1, .int .i64 a0_2, .int .i64 a0_3, .int .i64 a0_4, .int .i64 a0_5, .int .i64 a0_6, .int .i64 a0_7, .int .i64 a0_8, .int .i64 a0_9, .int .i64 a0_10, .int .i64 a0_11, .int .i64 a0_12, .int .i64 a0_13, .int .i64 a0_14, .int .i64 a0_15, .int .i64 a0_16, .int .i64 a0_17, .int .i64 a0_18, .int .i64 a0_19, .int .i64 a0_20]) (t := 55) ?hr ?_; (case hd => rfl); (case hg => rfl); (case hr => first | (go_simp; done) | (go_simp; rfl)); intro gb429 hg w11 hbox hb; have n0_ := Gv.a0 (below_step Gv.bw hb); have n1_ := Gv.a0 (hbox); have n2_ := Gv.a0 ((Gv.ble hg Gv.bw : w.heap.size ≤ gb429)); have n3_ := Gv.a0 ((Gv.ble hg Gv.bw : w.heap.size ≤ gb429)); clear HB; have HB := n0_; have BK429 := n1_; have GW429 := n2_; have GE429 := n3_; clear n0_ n1_ n2_ n3_; clear hb hbox hg) | ((with_reducible refine gate_store (t := 55) (p := 2) rfl ?_); refine Gv.store_event rfl rfl rfl rfl rfl (Gv.kb BK429.out) (by kernel_rfl) rfl (by simp; and_intros <;> rfl) ?_; intro w11s hbox hoth hbel; have n0_ := Gv.a0 (hbox); have n1_ := Gv.a0 (hbel w Gv.bw GE429.out); clear BK429 HB; have BK429 := n0_; have HB := n1_; clear n0_ n1_ hbox hoth hbel) | ((with_reducible refine gate_dst (N := 3) rfl ?_); refine box_event ?hg (N := 3) ?hd (cs := #[.int .i64 a1_0, .int .i64 a1_1, .int .i64 a1_2, .int .i64 a1_3, .int .i64 a1_4, .int .i64 a1_5, .int .i64 a1_6, .int .i64 a1_7, .int .i64 a1_8, .int .i64 a1_9, .int .i64 a1_10, .int .i64 a1_11, .int .i64 a1_12]) (t := 36) ?hr ?_; (case hd => rfl); (case hg => rfl); (case hr => first | (go_simp; done) | (go_simp; rfl)); intro gb430 hg w12 hbox hb; have n0_ := Gv.a0 (Gv.bb BK429.out hb); have n1_ := Gv.a0 (below_step Gv.bw hb); have n2_ := Gv.a0 (hbox); have n3_ := Gv.a0 ((Gv.ble hg Gv.bw : w.heap.size ≤ gb430)); have n4_ := Gv.a0 ((Gv.ble hg Gv.bw : w.heap.size ≤ gb430)); have n5_ := Gv.a0 ((Gv.nlt hg (Gv.kb BK429.out) : gb429 ≠ gb430)); have n6_ := Gv.a0 ((Gv.ngt hg (Gv.kb BK429.out) : gb430 ≠ gb429)); clear BK429; clear HB; have BK429 := n0_; have HB := n1_; have BK430 := n2_; have GW430 := n3_; have GE430 := n4_; have NB429_430 := n5_; have NB430_429 := n6_; clear n0_ n1_ n2_ n3_ n4_ n5_ n6_; clear hb hbox hg; have hnb13 := NB429_430.out; have hnc13 := NB430_429.out; obtain ⟨hcz14_0, hcz14_1, hcz14_2, hcz14_3, hcz14_4, hcz14_5, hcz14_6, hcz14_7, hcz14_8, hcz14_9, hcz14_10, hcz14_11, hcz14_12, hcz14_13, hcz14_14, hcz14_15, hcz14_16, hcz14_17, hcz14_18, hcz14_19, hcz14_20⟩ := Gv.c21 BK429.out; obtain ⟨hfz14_0, hfz14_1, hfz14_2, hfz14_3, hfz14_4, hfz14_5, hfz14_6, hfz14_7, hfz14_8, hfz14_9, hfz14_10, hfz14_11, hfz14_12, hfz14_13, hfz14_14, hfz14_15, hfz14_16, hfz14_17, hfz14_18, hfz14_19, hfz14_20⟩ := Gv.f21 BK429.out; obtain ⟨hcz15_0, hcz15_1, hcz15_2, hcz15_3, hcz15_4, hcz15_5, hcz15_6, hcz15_7, hcz15_8, hcz15_9, hcz15_10, hcz15_11, hcz15_12⟩ := Gv.c13 BK430.out; obtain ⟨hfz15_0, hfz15_1, hfz15_2, hfz15_3, hfz15_4, hfz15_5, hfz15_6, hfz15_7, hfz15_8, hfz15_9, hfz15_10, hfz15_11, hfz15_12⟩ := Gv.f13 BK430.out) | ((with_reducible refine gate_store (t := 36) (p := 3) rfl ?_); refine Gv.store_event rfl rfl rfl rfl rfl (Gv.kb BK430.out) (by kernel_rfl) rfl (by simp; and_intros <;> rfl) ?_; intro w12s hbox hoth hbel; have n0_ := Gv.a0 (hbox); have n1_ := Gv.a0 (hbel w Gv.bw GE430.out); have n2_ := Gv.a0 ((hoth gb429 NB429_430.out).trans (Gv.kb BK429.out)); clear BK430 HB BK429; have BK430 := n0_; have HB := n1_; have BK429 := n2_; clear n0_ n1_ n2_ hbox hoth hbel; (try clear hcz14_0 hcz14_1 hcz14_2 hcz14_3 hcz14_4 hcz14_5 hcz14_6 hcz14_7 hcz14_8 hcz14_9 hcz14_10 hcz14_11 hcz14_12 hcz14_13 hcz14_14 hcz14_15 hcz14_16 hcz14_17 hcz14_18 hcz14_19 hcz14_20 hfz14_0 hfz14_1 hfz14_2 hfz14_3 hfz14_4 hfz14_5 hfz14_6 hfz14_7 hfz14_8 hfz14_9 hfz14_10 hfz14_11 hfz14_12 hfz14_13 hfz14_14 hfz14_15 hfz14_16 hfz14_17 hfz14_18 hfz14_19 hfz14_20 hcz15_0 hcz15_1 hcz15_2 hcz15_3 hcz15_4 hcz15_5 hcz15_6 hcz15_7 hcz15_8 hcz15_9 hcz15_10 hcz15_11 hcz15_12 hfz15_0 hfz15_1 hfz15_2 hfz15_3 hfz15_4 hfz15_5 hfz15_6 hfz15_7 hfz15_8 hfz15_9 hfz15_10 hfz15_11 hfz15_12); obtain ⟨hcz14_0, hcz14_1, hcz14_2, hcz14_3, hcz14_4, hcz14_5, hcz14_6, hcz14_7, hcz14_8, hcz14_9, hcz14_10, hcz14_11, hcz14_12, hcz14_13, hcz14_14, hcz14_15, hcz14_16, hcz14_17, hcz14_18, hcz14_19, hcz14_20⟩ := Gv.c21 BK429.out; obtain ⟨hfz14_0, hfz14_1, hfz14_2, hfz14_3, hfz14_4, hfz14_5, hfz14_6, hfz14_7, hfz14_8, hfz14_9, hfz14_10, hfz14_11, hfz14_12, hfz14_13, hfz14_14, hfz14_15, hfz14_16, hfz14_17, hfz14_18, hfz14_19, hfz14_20⟩ := Gv.f21 BK429.out; obtain ⟨hcz15_0, hcz15_1, hcz15_2, hcz15_3, hcz15_4, hcz15_5, hcz15_6, hcz15_7, hcz15_8, hcz15_9, hcz15_10, hcz15_11, hcz15_12⟩ := Gv.c13 BK430.out; obtain ⟨hfz15_0, hfz15_1, hfz15_2, hfz15_3, hfz15_4, hfz15_5, hfz15_6, hfz15_7, hfz15_8, hfz15_9, hfz15_10, hfz15_11, hfz15_12⟩ := Gv.f13 BK430.out) | ((with_reducible refine gate_callee (f := 55) rfl ?_); refine goesL_ (some 9) rfl rfl Try.func55 (by kernel_rfl) rfl #[.agg #[.int .i64 a0_1, .int .i64 a0_2, .int .i64 a0_3, .int .i64 a0_4, .int .i64 a0_5, .int .i64 a0_6], .agg #[.int .i64 a1_0, .int .i64 a1_1, .int .i64 a1_2, .int .i64 a1_3, .int .i64 a1_4]] rfl Gv.lm ?_; (with_reducible refine (impl_Prefix_has.calls k a0_1 a0_2 a0_3 a0_4 a0_5 a0_6 a1_0 a1_1 a1_2 a1_3 a1_4 true _ A3.out).mono ?_); rintro e w16 ⟨rfl, hb⟩; refine ⟨_, rfl, ?_⟩; have n0_ := Gv.a0 (Gv.bb BK429.out hb); have n1_ := Gv.a0 (Gv.bb BK430.out hb); have n2_ := Gv.a0 (below_step Gv.bw hb); clear BK429; clear BK430; clear HB; have BK429 := n0_; have BK430 := n1_; have HB := n2_; clear n0_ n1_ n2_; (try clear hb); (try clear hb2); (try clear hk); (try clear hi); obtain ⟨hcz17_0, hcz17_1, hcz17_2, hcz17_3, hcz17_4, hcz17_5, hcz17_6, hcz17_7, hcz17_8, hcz17_9, hcz17_10, hcz17_11, hcz17_12, hcz17_13, hcz17_14, hcz17_15, hcz17_16, hcz17_17, hcz17_18, hcz17_19, hcz17_20⟩ := Gv.c21 BK429.out; obtain ⟨hfz17_0, hfz17_1, hfz17_2, hfz17_3, hfz17_4, hfz17_5, hfz17_6, hfz17_7, hfz17_8, hfz17_9, hfz17_10, hfz17_11, hfz17_12, hfz17_13, hfz17_14, hfz17_15, hfz17_16, hfz17_17, hfz17_18, hfz17_19, hfz17_20⟩ := Gv.f21 BK429.out; obtain ⟨hcz18_0, hcz18_1, hcz18_2, hcz18_3, hcz18_4, hcz18_5, hcz18_6, hcz18_7, hcz18_8, hcz18_9, hcz18_10, hcz18_11, hcz18_12⟩ := Gv.c13 BK430.out; obtain ⟨hfz18_0, hfz18_1, hfz18_2, hfz18_3, hfz18_4, hfz18_5, hfz18_6, hfz18_7, hfz18_8, hfz18_9, hfz18_10, hfz18_11, hfz18_12⟩ := Gv.f13 BK430.out) | (go_at_call 55; (with_reducible refine (impl_Prefix_has.calls k a0_7 a0_8 a0_9 a0_10 a0_11 a0_12 a1_5 a1_6 a1_7 a1_8 a1_9 true _ A5.out).mono ?_); rintro e w19 ⟨rfl, hb⟩; have n0_ := Gv.a0 (Gv.bb BK429.out hb); have n1_ := Gv.a0 (Gv.bb BK430.out hb); have n2_ := Gv.a0 (below_step Gv.bw hb); clear BK429; clear BK430; clear HB; have BK429 := n0_; have BK430 := n1_; have HB := n2_; clear n0_ n1_ n2_; (try clear hb); (try clear hb2); (try clear hk); (try clear hi); obtain ⟨hcz20_0, hcz20_1, hcz20_2, hcz20_3, hcz20_4, hcz20_5, hcz20_6, hcz20_7, hcz20_8, hcz20_9, hcz20_10, hcz20_11, hcz20_12, hcz20_13, hcz20_14, hcz20_15, hcz20_16, hcz20_17, hcz20_18, hcz20_19, hcz20_20⟩ := Gv.c21 BK429.out; obtain ⟨hfz20_0, hfz20_1, hfz20_2, hfz20_3, hfz20_4, hfz20_5, hfz20_6, hfz20_7, hfz20_8, hfz20_9, hfz20_10, hfz20_11, hfz20_12, hfz20_13, hfz20_14, hfz20_15, hfz20_16, hfz20_17, hfz20_18, hfz20_19, hfz20_20⟩ := Gv.f21 BK429.out; obtain ⟨hcz21_0, hcz21_1, hcz21_2, hcz21_3, hcz21_4, hcz21_5, hcz21_6, hcz21_7, hcz21_8, hcz21_9, hcz21_10, hcz21_11, hcz21_12⟩ := Gv.c13 BK430.out; obtain ⟨hfz21_0, hfz21_1, hfz21_2, hfz21_3, hfz21_4, hfz21_5, hfz21_6, hfz21_7, hfz21_8, hfz21_9, hfz21_10, hfz21_11, hfz21_12⟩ := Gv.f13 BK430.out) | (go_at_call 46; (with_reducible refine (impl_within.calls a1_11 a0_14 a0_15 true _ A8.out).mono ?_); rintro e w' ⟨rfl, ⟨nd, rfl⟩⟩) | (go_at_call 46; (with_reducible refine (impl_within.calls a1_12 a0_16 a0_17 t434 _ A10.out).mono ?_); rintro e w' ⟨rfl, ⟨nd, rfl⟩⟩) | ((with_reducible refine Gv.gate_load (t := 55) rfl ?_); (try (refine gate_guard (by rfl) ?_; dsimp only)); refine wpList_load_row rfl 55 _ rfl gb429 rfl 55 _ _ _ (by first | exact Gv.kb0 BK429.out | exact Gv.kb1 (Gv.kb0 BK429.out)) Try.underlying55 rfl (by kernel_rfl) ?_) | ((with_reducible refine Gv.gate_load (t := 36) rfl ?_); (try (refine gate_guard (by rfl) ?_; dsimp only)); refine wpList_load_row rfl 36 _ rfl gb430 rfl 36 _ _ _ (by first | exact Gv.kb0 BK430.out | exact Gv.kb1 (Gv.kb0 BK430.out)) Try.underlying36 rfl (by kernel_rfl) ?_))
     go_ret
     exact ⟨Gv.rt, Gv.bw⟩
    ·replace c9 := Bool.eq_false_iff.mpr c9
     subst c9
     have H1 : (some false) = some r := by rw [if_neg (show ¬ (false = true) by decide)] at H; exact H
     clear H
     have H := H1
     clear H1
     obtain rfl := Option.some.inj H
     go_enter Try.func36, Try.ntmps36
     go_wp2_with (first | ((with_reducible refine gate_dst (N := 2) rfl ?_); refine box_event ?hg (N := 2) ?hd (cs := #[.int .i64 a0_0, .int .i64 a0_1, .int .i64 a0_2, .int .i64 a0_3, .int .i64 a0_4, .int .i64 a0_5, .int .i64 a0_6, .int .i64 a0_7, .int .i64 a0_8, .int .i64 a0_9, .int .i64 a0_10, .int .i64 a0_11, .int .i64 a0_12, .int .i64 a0_13, .int .i64 a0_14, .int .i64 a0_15, .int .i64 a0_16, .int .i64 a0_17, .int .i64 a0_18, .int .i64 a0_19, .int .i64 a0_20]) (t := 55) ?hr ?_; (case hd => rfl); (case hg => rfl); (case hr => first | (go_simp; done) | (go_simp; rfl)); intro gb429 hg w22 hbox hb; have n0_ := Gv.a0 (below_step Gv.bw hb); have n1_ := Gv.a0 (hbox); have n2_ := Gv.a0 ((Gv.ble hg Gv.bw : w.heap.size ≤ gb429)); have n3_ := Gv.a0 ((Gv.ble hg Gv.bw : w.heap.size ≤ gb429)); clear HB; have HB := n0_; have BK429 := n1_; have GW429 := n2_; have GE429 := n3_; clear n0_ n1_ n2_ n3_; clear hb hbox hg) | ((with_reducible refine gate_store (t := 55) (p := 2) rfl ?_); refine Gv.store_event rfl rfl rfl rfl rfl (Gv.kb BK429.out) (by kernel_rfl) rfl (by simp; and_intros <;> rfl) ?_; intro w22s hbox hoth hbel; have n0_ := Gv.a0 (hbox); have n1_ := Gv.a0 (hbel w Gv.bw GE429.out); clear BK429 HB; have BK429 := n0_; have HB := n1_; clear n0_ n1_ hbox hoth hbel) | ((with_reducible refine gate_dst (N := 3) rfl ?_); refine box_event ?hg (N := 3) ?hd (cs := #[.int .i64 a1_0, .int .i64 a1_1, .int .i64 a1_2, .int .i64 a1_3, .int .i64 a1_4, .int .i64 a1_5, .int .i64 a1_6, .int .i64 a1_7, .int .i64 a1_8, .int .i64 a1_9, .int .i64 a1_10, .int .i64 a1_11, .int .i64 a1_12]) (t := 36) ?hr ?_; (case hd => rfl); (case hg => rfl); (case hr => first | (go_simp; done) | (go_simp; rfl)); intro gb430 hg w23 hbox hb; have n0_ := Gv.a0 (Gv.bb BK429.out hb); have n1_ := Gv.a0 (below_step Gv.bw hb); have n2_ := Gv.a0 (hbox); have n3_ := Gv.a0 ((Gv.ble hg Gv.bw : w.heap.size ≤ gb430)); have n4_ := Gv.a0 ((Gv.ble hg Gv.bw : w.heap.size ≤ gb430)); have n5_ := Gv.a0 ((Gv.nlt hg (Gv.kb BK429.out) : gb429 ≠ gb430)); have n6_ := Gv.a0 ((Gv.ngt hg (Gv.kb BK429.out) : gb430 ≠ gb429)); clear BK429; clear HB; have BK429 := n0_; have HB := n1_; have BK430 := n2_; have GW430 := n3_; have GE430 := n4_; have NB429_430 := n5_; have NB430_429 := n6_; clear n0_ n1_ n2_ n3_ n4_ n5_ n6_; clear hb hbox hg; have hnb24 := NB429_430.out; have hnc24 := NB430_429.out; obtain ⟨hcz25_0, hcz25_1, hcz25_2, hcz25_3, hcz25_4, hcz25_5, hcz25_6, hcz25_7, hcz25_8, hcz25_9, hcz25_10, hcz25_11, hcz25_12, hcz25_13, hcz25_14, hcz25_15, hcz25_16, hcz25_17, hcz25_18, hcz25_19, hcz25_20⟩ := Gv.c21 BK429.out; obtain ⟨hfz25_0, hfz25_1, hfz25_2, hfz25_3, hfz25_4, hfz25_5, hfz25_6, hfz25_7, hfz25_8, hfz25_9, hfz25_10, hfz25_11, hfz25_12, hfz25_13, hfz25_14, hfz25_15, hfz25_16, hfz25_17, hfz25_18, hfz25_19, hfz25_20⟩ := Gv.f21 BK429.out; obtain ⟨hcz26_0, hcz26_1, hcz26_2, hcz26_3, hcz26_4, hcz26_5, hcz26_6, hcz26_7, hcz26_8, hcz26_9, hcz26_10, hcz26_11, hcz26_12⟩ := Gv.c13 BK430.out; obtain ⟨hfz26_0, hfz26_1, hfz26_2, hfz26_3, hfz26_4, hfz26_5, hfz26_6, hfz26_7, hfz26_8, hfz26_9, hfz26_10, hfz26_11, hfz26_12⟩ := Gv.f13 BK430.out) | ((with_reducible refine gate_store (t := 36) (p := 3) rfl ?_); refine Gv.store_event rfl rfl rfl rfl rfl (Gv.kb BK430.out) (by kernel_rfl) rfl (by simp; and_intros <;> rfl) ?_; intro w23s hbox hoth hbel; have n0_ := Gv.a0 (hbox); have n1_ := Gv.a0 (hbel w Gv.bw GE430.out); have n2_ := Gv.a0 ((hoth gb429 NB429_430.out).trans (Gv.kb BK429.out)); clear BK430 HB BK429; have BK430 := n0_; have HB := n1_; have BK429 := n2_; clear n0_ n1_ n2_ hbox hoth hbel; (try clear hcz25_0 hcz25_1 hcz25_2 hcz25_3 hcz25_4 hcz25_5 hcz25_6 hcz25_7 hcz25_8 hcz25_9 hcz25_10 hcz25_11 hcz25_12 hcz25_13 hcz25_14 hcz25_15 hcz25_16 hcz25_17 hcz25_18 hcz25_19 hcz25_20 hfz25_0 hfz25_1 hfz25_2 hfz25_3 hfz25_4 hfz25_5 hfz25_6 hfz25_7 hfz25_8 hfz25_9 hfz25_10 hfz25_11 hfz25_12 hfz25_13 hfz25_14 hfz25_15 hfz25_16 hfz25_17 hfz25_18 hfz25_19 hfz25_20 hcz26_0 hcz26_1 hcz26_2 hcz26_3 hcz26_4 hcz26_5 hcz26_6 hcz26_7 hcz26_8 hcz26_9 hcz26_10 hcz26_11 hcz26_12 hfz26_0 hfz26_1 hfz26_2 hfz26_3 hfz26_4 hfz26_5 hfz26_6 hfz26_7 hfz26_8 hfz26_9 hfz26_10 hfz26_11 hfz26_12); obtain ⟨hcz25_0, hcz25_1, hcz25_2, hcz25_3, hcz25_4, hcz25_5, hcz25_6, hcz25_7, hcz25_8, hcz25_9, hcz25_10, hcz25_11, hcz25_12, hcz25_13, hcz25_14, hcz25_15, hcz25_16, hcz25_17, hcz25_18, hcz25_19, hcz25_20⟩ := Gv.c21 BK429.out; obtain ⟨hfz25_0, hfz25_1, hfz25_2, hfz25_3, hfz25_4, hfz25_5, hfz25_6, hfz25_7, hfz25_8, hfz25_9, hfz25_10, hfz25_11, hfz25_12, hfz25_13, hfz25_14, hfz25_15, hfz25_16, hfz25_17, hfz25_18, hfz25_19, hfz25_20⟩ := Gv.f21 BK429.out; obtain ⟨hcz26_0, hcz26_1, hcz26_2, hcz26_3, hcz26_4, hcz26_5, hcz26_6, hcz26_7, hcz26_8, hcz26_9, hcz26_10, hcz26_11, hcz26_12⟩ := Gv.c13 BK430.out; obtain ⟨hfz26_0, hfz26_1, hfz26_2, hfz26_3, hfz26_4, hfz26_5, hfz26_6, hfz26_7, hfz26_8, hfz26_9, hfz26_10, hfz26_11, hfz26_12⟩ := Gv.f13 BK430.out) | ((with_reducible refine gate_callee (f := 55) rfl ?_); refine goesL_ (some 9) rfl rfl Try.func55 (by kernel_rfl) rfl #[.agg #[.int .i64 a0_1, .int .i64 a0_2, .int .i64 a0_3, .int .i64 a0_4, .int .i64 a0_5, .int .i64 a0_6], .agg #[.int .i64 a1_0, .int .i64 a1_1, .int .i64 a1_2, .int .i64 a1_3, .int .i64 a1_4]] rfl Gv.lm ?_; (with_reducible refine (impl_Prefix_has.calls k a0_1 a0_2 a0_3 a0_4 a0_5 a0_6 a1_0 a1_1 a1_2 a1_3 a1_4 true _ A3.out).mono ?_); rintro e w27 ⟨rfl, hb⟩; refine ⟨_, rfl, ?_⟩; have n0_ := Gv.a0 (Gv.bb BK429.out hb); have n1_ := Gv.a0 (Gv.bb BK430.out hb); have n2_ := Gv.a0 (below_step Gv.bw hb); clear BK429; clear BK430; clear HB; have BK429 := n0_; have BK430 := n1_; have HB := n2_; clear n0_ n1_ n2_; (try clear hb); (try clear hb2); (try clear hk); (try clear hi); obtain ⟨hcz28_0, hcz28_1, hcz28_2, hcz28_3, hcz28_4, hcz28_5, hcz28_6, hcz28_7, hcz28_8, hcz28_9, hcz28_10, hcz28_11, hcz28_12, hcz28_13, hcz28_14, hcz28_15, hcz28_16, hcz28_17, hcz28_18, hcz28_19, hcz28_20⟩ := Gv.c21 BK429.out; obtain ⟨hfz28_0, hfz28_1, hfz28_2, hfz28_3, hfz28_4, hfz28_5, hfz28_6, hfz28_7, hfz28_8, hfz28_9, hfz28_10, hfz28_11, hfz28_12, hfz28_13, hfz28_14, hfz28_15, hfz28_16, hfz28_17, hfz28_18, hfz28_19, hfz28_20⟩ := Gv.f21 BK429.out; obtain ⟨hcz29_0, hcz29_1, hcz29_2, hcz29_3, hcz29_4, hcz29_5, hcz29_6, hcz29_7, hcz29_8, hcz29_9, hcz29_10, hcz29_11, hcz29_12⟩ := Gv.c13 BK430.out; obtain ⟨hfz29_0, hfz29_1, hfz29_2, hfz29_3, hfz29_4, hfz29_5, hfz29_6, hfz29_7, hfz29_8, hfz29_9, hfz29_10, hfz29_11, hfz29_12⟩ := Gv.f13 BK430.out) | (go_at_call 55; (with_reducible refine (impl_Prefix_has.calls k a0_7 a0_8 a0_9 a0_10 a0_11 a0_12 a1_5 a1_6 a1_7 a1_8 a1_9 true _ A5.out).mono ?_); rintro e w30 ⟨rfl, hb⟩; have n0_ := Gv.a0 (Gv.bb BK429.out hb); have n1_ := Gv.a0 (Gv.bb BK430.out hb); have n2_ := Gv.a0 (below_step Gv.bw hb); clear BK429; clear BK430; clear HB; have BK429 := n0_; have BK430 := n1_; have HB := n2_; clear n0_ n1_ n2_; (try clear hb); (try clear hb2); (try clear hk); (try clear hi); obtain ⟨hcz31_0, hcz31_1, hcz31_2, hcz31_3, hcz31_4, hcz31_5, hcz31_6, hcz31_7, hcz31_8, hcz31_9, hcz31_10, hcz31_11, hcz31_12, hcz31_13, hcz31_14, hcz31_15, hcz31_16, hcz31_17, hcz31_18, hcz31_19, hcz31_20⟩ := Gv.c21 BK429.out; obtain ⟨hfz31_0, hfz31_1, hfz31_2, hfz31_3, hfz31_4, hfz31_5, hfz31_6, hfz31_7, hfz31_8, hfz31_9, hfz31_10, hfz31_11, hfz31_12, hfz31_13, hfz31_14, hfz31_15, hfz31_16, hfz31_17, hfz31_18, hfz31_19, hfz31_20⟩ := Gv.f21 BK429.out; obtain ⟨hcz32_0, hcz32_1, hcz32_2, hcz32_3, hcz32_4, hcz32_5, hcz32_6, hcz32_7, hcz32_8, hcz32_9, hcz32_10, hcz32_11, hcz32_12⟩ := Gv.c13 BK430.out; obtain ⟨hfz32_0, hfz32_1, hfz32_2, hfz32_3, hfz32_4, hfz32_5, hfz32_6, hfz32_7, hfz32_8, hfz32_9, hfz32_10, hfz32_11, hfz32_12⟩ := Gv.f13 BK430.out) | (go_at_call 46; (with_reducible refine (impl_within.calls a1_11 a0_14 a0_15 false _ A8.out).mono ?_); rintro e w' ⟨rfl, ⟨nd, rfl⟩⟩) | ((with_reducible refine Gv.gate_load (t := 55) rfl ?_); (try (refine gate_guard (by rfl) ?_; dsimp only)); refine wpList_load_row rfl 55 _ rfl gb429 rfl 55 _ _ _ (by first | exact Gv.kb0 BK429.out | exact Gv.kb1 (Gv.kb0 BK429.out)) Try.underlying55 rfl (by kernel_rfl) ?_) | ((with_reducible refine Gv.gate_load (t := 36) rfl ?_); (try (refine gate_guard (by rfl) ?_; dsimp only)); refine wpList_load_row rfl 36 _ rfl gb430 rfl 36 _ _ _ (by first | exact Gv.kb0 BK430.out | exact Gv.kb1 (Gv.kb0 BK430.out)) Try.underlying36 rfl (by kernel_rfl) ?_))
     go_ret
     exact ⟨Gv.rt, Gv.bw⟩
   ·rw [if_neg c7] at H
    have c7b0 : (a0_13 == (-1)) = false := beq_eq_false_iff_ne.mpr c7
    have c7b1 : (a0_13 != (-1)) = true := bne_iff_ne.mpr c7
    by_cases c33 : a0_13 = a1_10
    ·rw [if_pos c33] at H
     have c33b0 : (a0_13 == a1_10) = true := beq_iff_eq.mpr c33
     have c33b1 : (a0_13 != a1_10) = false := bne_eq_false_iff_eq.mpr c33
     clear c33
     replace H := Option.bind_eq_some_iff.mp H
     obtain ⟨t435, A340, H⟩ := H
     replace H : (if t435 = true then ((impl_within.f a1_12 a0_16 a0_17).bind fun t436 => (some t436)) else (some false)) = some r := H
     have A34 := Gv.a0 A340
     clear A340
     by_cases c35 : t435 = true
     ·subst c35
      have H1 : ((impl_within.f a1_12 a0_16 a0_17).bind fun t436 => (some t436)) = some r := by rw [if_pos rfl] at H; exact H
      clear H
      have H := H1
      clear H1
      replace H := Option.bind_eq_some_iff.mp H
      obtain ⟨t436, A360, H⟩ := H
      replace H : (some t436) = some r := H
      have A36 := Gv.a0 A360
      clear A360
      obtain rfl := Option.some.inj H
      go_enter Try.func36, Try.ntmps36
      go_wp2_with (first | ((with_reducible refine gate_dst (N := 2) rfl ?_); refine box_event ?hg (N := 2) ?hd (cs := #[.int .i64 a0_0, .int .i64 a0_1, .int .i64 a0_2, .int .i64 a0_3, .int .i64 a0_4, .int .i64 a0_5, .int .i64 a0_6, .int .i64 a0_7, .int .i64 a0_8, .int .i64 a0_9, .int .i64 a0_10, .int .i64 a0_11, .int .i64 a0_12, .int .i64 a0_13, .int .i64 a0_14, .int .i64 a0_15, .int .i64 a0_16, .int .i64 a0_17, .int .i64 a0_18, .int .i64 a0_19, .int .i64 a0_20]) (t := 55) ?hr ?_; (case hd => rfl); (case hg => rfl); (case hr => first | (go_simp; done) | (go_simp; rfl)); intro gb429 hg w37 hbox hb; have n0_ := Gv.a0 (below_step Gv.bw hb); have n1_ := Gv.a0 (hbox); have n2_ := Gv.a0 ((Gv.ble hg Gv.bw : w.heap.size ≤ gb429)); have n3_ := Gv.a0 ((Gv.ble hg Gv.bw : w.heap.size ≤ gb429)); clear HB; have HB := n0_; have BK429 := n1_; have GW429 := n2_; have GE429 := n3_; clear n0_ n1_ n2_ n3_; clear hb hbox hg) | ((with_reducible refine gate_store (t := 55) (p := 2) rfl ?_); refine Gv.store_event rfl rfl rfl rfl rfl (Gv.kb BK429.out) (by kernel_rfl) rfl (by simp; and_intros <;> rfl) ?_; intro w37s hbox hoth hbel; have n0_ := Gv.a0 (hbox); have n1_ := Gv.a0 (hbel w Gv.bw GE429.out); clear BK429 HB; have BK429 := n0_; have HB := n1_; clear n0_ n1_ hbox hoth hbel) | ((with_reducible refine gate_dst (N := 3) rfl ?_); refine box_event ?hg (N := 3) ?hd (cs := #[.int .i64 a1_0, .int .i64 a1_1, .int .i64 a1_2, .int .i64 a1_3, .int .i64 a1_4, .int .i64 a1_5, .int .i64 a1_6, .int .i64 a1_7, .int .i64 a1_8, .int .i64 a1_9, .int .i64 a1_10, .int .i64 a1_11, .int .i64 a1_12]) (t := 36) ?hr ?_; (case hd => rfl); (case hg => rfl); (case hr => first | (go_simp; done) | (go_simp; rfl)); intro gb430 hg w38 hbox hb; have n0_ := Gv.a0 (Gv.bb BK429.out hb); have n1_ := Gv.a0 (below_step Gv.bw hb); have n2_ := Gv.a0 (hbox); have n3_ := Gv.a0 ((Gv.ble hg Gv.bw : w.heap.size ≤ gb430)); have n4_ := Gv.a0 ((Gv.ble hg Gv.bw : w.heap.size ≤ gb430)); have n5_ := Gv.a0 ((Gv.nlt hg (Gv.kb BK429.out) : gb429 ≠ gb430)); have n6_ := Gv.a0 ((Gv.ngt hg (Gv.kb BK429.out) : gb430 ≠ gb429)); clear BK429; clear HB; have BK429 := n0_; have HB := n1_; have BK430 := n2_; have GW430 := n3_; have GE430 := n4_; have NB429_430 := n5_; have NB430_429 := n6_; clear n0_ n1_ n2_ n3_ n4_ n5_ n6_; clear hb hbox hg; have hnb39 := NB429_430.out; have hnc39 := NB430_429.out; obtain ⟨hcz40_0, hcz40_1, hcz40_2, hcz40_3, hcz40_4, hcz40_5, hcz40_6, hcz40_7, hcz40_8, hcz40_9, hcz40_10, hcz40_11, hcz40_12, hcz40_13, hcz40_14, hcz40_15, hcz40_16, hcz40_17, hcz40_18, hcz40_19, hcz40_20⟩ := Gv.c21 BK429.out; obtain ⟨hfz40_0, hfz40_1, hfz40_2, hfz40_3, hfz40_4, hfz40_5, hfz40_6, hfz40_7, hfz40_8, hfz40_9, hfz40_10, hfz40_11, hfz40_12, hfz40_13, hfz40_14, hfz40_15, hfz40_16, hfz40_17, hfz40_18, hfz40_19, hfz40_20⟩ := Gv.f21 BK429.out; obtain ⟨hcz41_0, hcz41_1, hcz41_2, hcz41_3, hcz41_4, hcz41_5, hcz41_6, hcz41_7, hcz41_8, hcz41_9, hcz41_10, hcz41_11, hcz41_12⟩ := Gv.c13 BK430.out; obtain ⟨hfz41_0, hfz41_1, hfz41_2, hfz41_3, hfz41_4, hfz41_5, hfz41_6, hfz41_7, hfz41_8, hfz41_9, hfz41_10, hfz41_11, hfz41_12⟩ := Gv.f13 BK430.out) | ((with_reducible refine gate_store (t := 36) (p := 3) rfl ?_); refine Gv.store_event rfl rfl rfl rfl rfl (Gv.kb BK430.out) (by kernel_rfl) rfl (by simp; and_intros <;> rfl) ?_; intro w38s hbox hoth hbel; have n0_ := Gv.a0 (hbox); have n1_ := Gv.a0 (hbel w Gv.bw GE430.out); have n2_ := Gv.a0 ((hoth gb429 NB429_430.out).trans (Gv.kb BK429.out)); clear BK430 HB BK429; have BK430 := n0_; have HB := n1_; have BK429 := n2_; clear n0_ n1_ n2_ hbox hoth hbel; (try clear hcz40_0 hcz40_1 hcz40_2 hcz40_3 hcz40_4 hcz40_5 hcz40_6 hcz40_7 hcz40_8 hcz40_9 hcz40_10 hcz40_11 hcz40_12 hcz40_13 hcz40_14 hcz40_15 hcz40_16 hcz40_17 hcz40_18 hcz40_19 hcz40_20 hfz40_0 hfz40_1 hfz40_2 hfz40_3 hfz40_4 hfz40_5 hfz40_6 hfz40_7 hfz40_8 hfz40_9 hfz40_10 hfz40_11 hfz40_12 hfz40_13 hfz40_14 hfz40_15 hfz40_16 hfz40_17 hfz40_18 hfz40_19 hfz40_20 hcz41_0 hcz41_1 hcz41_2 hcz41_3 hcz41_4 hcz41_5 hcz41_6 hcz41_7 hcz41_8 hcz41_9 hcz41_10 hcz41_11 hcz41_12 hfz41_0 hfz41_1 hfz41_2 hfz41_3 hfz41_4 hfz41_5 hfz41_6 hfz41_7 hfz41_8 hfz41_9 hfz41_10 hfz41_11 hfz41_12); obtain ⟨hcz40_0, hcz40_1, hcz40_2, hcz40_3, hcz40_4, hcz40_5, hcz40_6, hcz40_7, hcz40_8, hcz40_9, hcz40_10, hcz40_11, hcz40_12, hcz40_13, hcz40_14, hcz40_15, hcz40_16, hcz40_17, hcz40_18, hcz40_19, hcz40_20⟩ := Gv.c21 BK429.out; obtain ⟨hfz40_0, hfz40_1, hfz40_2, hfz40_3, hfz40_4, hfz40_5, hfz40_6, hfz40_7, hfz40_8, hfz40_9, hfz40_10, hfz40_11, hfz40_12, hfz40_13, hfz40_14, hfz40_15, hfz40_16, hfz40_17, hfz40_18, hfz40_19, hfz40_20⟩ := Gv.f21 BK429.out; obtain ⟨hcz41_0, hcz41_1, hcz41_2, hcz41_3, hcz41_4, hcz41_5, hcz41_6, hcz41_7, hcz41_8, hcz41_9, hcz41_10, hcz41_11, hcz41_12⟩ := Gv.c13 BK430.out; obtain ⟨hfz41_0, hfz41_1, hfz41_2, hfz41_3, hfz41_4, hfz41_5, hfz41_6, hfz41_7, hfz41_8, hfz41_9, hfz41_10, hfz41_11, hfz41_12⟩ := Gv.f13 BK430.out) | ((with_reducible refine gate_callee (f := 55) rfl ?_); refine goesL_ (some 9) rfl rfl Try.func55 (by kernel_rfl) rfl #[.agg #[.int .i64 a0_1, .int .i64 a0_2, .int .i64 a0_3, .int .i64 a0_4, .int .i64 a0_5, .int .i64 a0_6], .agg #[.int .i64 a1_0, .int .i64 a1_1, .int .i64 a1_2, .int .i64 a1_3, .int .i64 a1_4]] rfl Gv.lm ?_; (with_reducible refine (impl_Prefix_has.calls k a0_1 a0_2 a0_3 a0_4 a0_5 a0_6 a1_0 a1_1 a1_2 a1_3 a1_4 true _ A3.out).mono ?_); rintro e w42 ⟨rfl, hb⟩; refine ⟨_, rfl, ?_⟩; have n0_ := Gv.a0 (Gv.bb BK429.out hb); have n1_ := Gv.a0 (Gv.bb BK430.out hb); have n2_ := Gv.a0 (below_step Gv.bw hb); clear BK429; clear BK430; clear HB; have BK429 := n0_; have BK430 := n1_; have HB := n2_; clear n0_ n1_ n2_; (try clear hb); (try clear hb2); (try clear hk); (try clear hi); obtain ⟨hcz43_0, hcz43_1, hcz43_2, hcz43_3, hcz43_4, hcz43_5, hcz43_6, hcz43_7, hcz43_8, hcz43_9, hcz43_10, hcz43_11, hcz43_12, hcz43_13, hcz43_14, hcz43_15, hcz43_16, hcz43_17, hcz43_18, hcz43_19, hcz43_20⟩ := Gv.c21 BK429.out; obtain ⟨hfz43_0, hfz43_1, hfz43_2, hfz43_3, hfz43_4, hfz43_5, hfz43_6, hfz43_7, hfz43_8, hfz43_9, hfz43_10, hfz43_11, hfz43_12, hfz43_13, hfz43_14, hfz43_15, hfz43_16, hfz43_17, hfz43_18, hfz43_19, hfz43_20⟩ := Gv.f21 BK429.out; obtain ⟨hcz44_0, hcz44_1, hcz44_2, hcz44_3, hcz44_4, hcz44_5, hcz44_6, hcz44_7, hcz44_8, hcz44_9, hcz44_10, hcz44_11, hcz44_12⟩ := Gv.c13 BK430.out; obtain ⟨hfz44_0, hfz44_1, hfz44_2, hfz44_3, hfz44_4, hfz44_5, hfz44_6, hfz44_7, hfz44_8, hfz44_9, hfz44_10, hfz44_11, hfz44_12⟩ := Gv.f13 BK430.out) | (go_at_call 55; (with_reducible refine (impl_Prefix_has.calls k a0_7 a0_8 a0_9 a0_10 a0_11 a0_12 a1_5 a1_6 a1_7 a1_8 a1_9 true _ A5.out).mono ?_); rintro e w45 ⟨rfl, hb⟩; have n0_ := Gv.a0 (Gv.bb BK429.out hb); have n1_ := Gv.a0 (Gv.bb BK430.out hb); have n2_ := Gv.a0 (below_step Gv.bw hb); clear BK429; clear BK430; clear HB; have BK429 := n0_; have BK430 := n1_; have HB := n2_; clear n0_ n1_ n2_; (try clear hb); (try clear hb2); (try clear hk); (try clear hi); obtain ⟨hcz46_0, hcz46_1, hcz46_2, hcz46_3, hcz46_4, hcz46_5, hcz46_6, hcz46_7, hcz46_8, hcz46_9, hcz46_10, hcz46_11, hcz46_12, hcz46_13, hcz46_14, hcz46_15, hcz46_16, hcz46_17, hcz46_18, hcz46_19, hcz46_20⟩ := Gv.c21 BK429.out; obtain ⟨hfz46_0, hfz46_1, hfz46_2, hfz46_3, hfz46_4, hfz46_5, hfz46_6, hfz46_7, hfz46_8, hfz46_9, hfz46_10, hfz46_11, hfz46_12, hfz46_13, hfz46_14, hfz46_15, hfz46_16, hfz46_17, hfz46_18, hfz46_19, hfz46_20⟩ := Gv.f21 BK429.out; obtain ⟨hcz47_0, hcz47_1, hcz47_2, hcz47_3, hcz47_4, hcz47_5, hcz47_6, hcz47_7, hcz47_8, hcz47_9, hcz47_10, hcz47_11, hcz47_12⟩ := Gv.c13 BK430.out; obtain ⟨hfz47_0, hfz47_1, hfz47_2, hfz47_3, hfz47_4, hfz47_5, hfz47_6, hfz47_7, hfz47_8, hfz47_9, hfz47_10, hfz47_11, hfz47_12⟩ := Gv.f13 BK430.out) | (go_at_call 46; (with_reducible refine (impl_within.calls a1_11 a0_14 a0_15 true _ A34.out).mono ?_); rintro e w' ⟨rfl, ⟨nd, rfl⟩⟩) | (go_at_call 46; (with_reducible refine (impl_within.calls a1_12 a0_16 a0_17 t436 _ A36.out).mono ?_); rintro e w' ⟨rfl, ⟨nd, rfl⟩⟩) | ((with_reducible refine Gv.gate_load (t := 55) rfl ?_); (try (refine gate_guard (by rfl) ?_; dsimp only)); refine wpList_load_row rfl 55 _ rfl gb429 rfl 55 _ _ _ (by first | exact Gv.kb0 BK429.out | exact Gv.kb1 (Gv.kb0 BK429.out)) Try.underlying55 rfl (by kernel_rfl) ?_) | ((with_reducible refine Gv.gate_load (t := 36) rfl ?_); (try (refine gate_guard (by rfl) ?_; dsimp only)); refine wpList_load_row rfl 36 _ rfl gb430 rfl 36 _ _ _ (by first | exact Gv.kb0 BK430.out | exact Gv.kb1 (Gv.kb0 BK430.out)) Try.underlying36 rfl (by kernel_rfl) ?_))
      go_ret
      exact ⟨Gv.rt, Gv.bw⟩
     ·replace c35 := Bool.eq_false_iff.mpr c35
      subst c35
      have H1 : (some false) = some r := by rw [if_neg (show ¬ (false = true) by decide)] at H; exact H
      clear H
      have H := H1
      clear H1
      obtain rfl := Option.some.inj H
      go_enter Try.func36, Try.ntmps36
      go_wp2_with (first | ((with_reducible refine gate_dst (N := 2) rfl ?_); refine box_event ?hg (N := 2) ?hd (cs := #[.int .i64 a0_0, .int .i64 a0_1, .int .i64 a0_2, .int .i64 a0_3, .int .i64 a0_4, .int .i64 a0_5, .int .i64 a0_6, .int .i64 a0_7, .int .i64 a0_8, .int .i64 a0_9, .int .i64 a0_10, .int .i64 a0_11, .int .i64 a0_12, .int .i64 a0_13, .int .i64 a0_14, .int .i64 a0_15, .int .i64 a0_16, .int .i64 a0_17, .int .i64 a0_18, .int .i64 a0_19, .int .i64 a0_20]) (t := 55) ?hr ?_; (case hd => rfl); (case hg => rfl); (case hr => first | (go_simp; done) | (go_simp; rfl)); intro gb429 hg w48 hbox hb; have n0_ := Gv.a0 (below_step Gv.bw hb); have n1_ := Gv.a0 (hbox); have n2_ := Gv.a0 ((Gv.ble hg Gv.bw : w.heap.size ≤ gb429)); have n3_ := Gv.a0 ((Gv.ble hg Gv.bw : w.heap.size ≤ gb429)); clear HB; have HB := n0_; have BK429 := n1_; have GW429 := n2_; have GE429 := n3_; clear n0_ n1_ n2_ n3_; clear hb hbox hg) | ((with_reducible refine gate_store (t := 55) (p := 2) rfl ?_); refine Gv.store_event rfl rfl rfl rfl rfl (Gv.kb BK429.out) (by kernel_rfl) rfl (by simp; and_intros <;> rfl) ?_; intro w48s hbox hoth hbel; have n0_ := Gv.a0 (hbox); have n1_ := Gv.a0 (hbel w Gv.bw GE429.out); clear BK429 HB; have BK429 := n0_; have HB := n1_; clear n0_ n1_ hbox hoth hbel) | ((with_reducible refine gate_dst (N := 3) rfl ?_); refine box_event ?hg (N := 3) ?hd (cs := #[.int .i64 a1_0, .int .i64 a1_1, .int .i64 a1_2, .int .i64 a1_3, .int .i64 a1_4, .int .i64 a1_5, .int .i64 a1_6, .int .i64 a1_7, .int .i64 a1_8, .int .i64 a1_9, .int .i64 a1_10, .int .i64 a1_11, .int .i64 a1_12]) (t := 36) ?hr ?_; (case hd => rfl); (case hg => rfl); (case hr => first | (go_simp; done) | (go_simp; rfl)); intro gb430 hg w49 hbox hb; have n0_ := Gv.a0 (Gv.bb BK429.out hb); have n1_ := Gv.a0 (below_step Gv.bw hb); have n2_ := Gv.a0 (hbox); have n3_ := Gv.a0 ((Gv.ble hg Gv.bw : w.heap.size ≤ gb430)); have n4_ := Gv.a0 ((Gv.ble hg Gv.bw : w.heap.size ≤ gb430)); have n5_ := Gv.a0 ((Gv.nlt hg (Gv.kb BK429.out) : gb429 ≠ gb430)); have n6_ := Gv.a0 ((Gv.ngt hg (Gv.kb BK429.out) : gb430 ≠ gb429)); clear BK429; clear HB; have BK429 := n0_; have HB := n1_; have BK430 := n2_; have GW430 := n3_; have GE430 := n4_; have NB429_430 := n5_; have NB430_429 := n6_; clear n0_ n1_ n2_ n3_ n4_ n5_ n6_; clear hb hbox hg; have hnb50 := NB429_430.out; have hnc50 := NB430_429.out; obtain ⟨hcz51_0, hcz51_1, hcz51_2, hcz51_3, hcz51_4, hcz51_5, hcz51_6, hcz51_7, hcz51_8, hcz51_9, hcz51_10, hcz51_11, hcz51_12, hcz51_13, hcz51_14, hcz51_15, hcz51_16, hcz51_17, hcz51_18, hcz51_19, hcz51_20⟩ := Gv.c21 BK429.out; obtain ⟨hfz51_0, hfz51_1, hfz51_2, hfz51_3, hfz51_4, hfz51_5, hfz51_6, hfz51_7, hfz51_8, hfz51_9, hfz51_10, hfz51_11, hfz51_12, hfz51_13, hfz51_14, hfz51_15, hfz51_16, hfz51_17, hfz51_18, hfz51_19, hfz51_20⟩ := Gv.f21 BK429.out; obtain ⟨hcz52_0, hcz52_1, hcz52_2, hcz52_3, hcz52_4, hcz52_5, hcz52_6, hcz52_7, hcz52_8, hcz52_9, hcz52_10, hcz52_11, hcz52_12⟩ := Gv.c13 BK430.out; obtain ⟨hfz52_0, hfz52_1, hfz52_2, hfz52_3, hfz52_4, hfz52_5, hfz52_6, hfz52_7, hfz52_8, hfz52_9, hfz52_10, hfz52_11, hfz52_12⟩ := Gv.f13 BK430.out) | ((with_reducible refine gate_store (t := 36) (p := 3) rfl ?_); refine Gv.store_event rfl rfl rfl rfl rfl (Gv.kb BK430.out) (by kernel_rfl) rfl (by simp; and_intros <;> rfl) ?_; intro w49s hbox hoth hbel; have n0_ := Gv.a0 (hbox); have n1_ := Gv.a0 (hbel w Gv.bw GE430.out); have n2_ := Gv.a0 ((hoth gb429 NB429_430.out).trans (Gv.kb BK429.out)); clear BK430 HB BK429; have BK430 := n0_; have HB := n1_; have BK429 := n2_; clear n0_ n1_ n2_ hbox hoth hbel; (try clear hcz51_0 hcz51_1 hcz51_2 hcz51_3 hcz51_4 hcz51_5 hcz51_6 hcz51_7 hcz51_8 hcz51_9 hcz51_10 hcz51_11 hcz51_12 hcz51_13 hcz51_14 hcz51_15 hcz51_16 hcz51_17 hcz51_18 hcz51_19 hcz51_20 hfz51_0 hfz51_1 hfz51_2 hfz51_3 hfz51_4 hfz51_5 hfz51_6 hfz51_7 hfz51_8 hfz51_9 hfz51_10 hfz51_11 hfz51_12 hfz51_13 hfz51_14 hfz51_15 hfz51_16 hfz51_17 hfz51_18 hfz51_19 hfz51_20 hcz52_0 hcz52_1 hcz52_2 hcz52_3 hcz52_4 hcz52_5 hcz52_6 hcz52_7 hcz52_8 hcz52_9 hcz52_10 hcz52_11 hcz52_12 hfz52_0 hfz52_1 hfz52_2 hfz52_3 hfz52_4 hfz52_5 hfz52_6 hfz52_7 hfz52_8 hfz52_9 hfz52_10 hfz52_11 hfz52_12); obtain ⟨hcz51_0, hcz51_1, hcz51_2, hcz51_3, hcz51_4, hcz51_5, hcz51_6, hcz51_7, hcz51_8, hcz51_9, hcz51_10, hcz51_11, hcz51_12, hcz51_13, hcz51_14, hcz51_15, hcz51_16, hcz51_17, hcz51_18, hcz51_19, hcz51_20⟩ := Gv.c21 BK429.out; obtain ⟨hfz51_0, hfz51_1, hfz51_2, hfz51_3, hfz51_4, hfz51_5, hfz51_6, hfz51_7, hfz51_8, hfz51_9, hfz51_10, hfz51_11, hfz51_12, hfz51_13, hfz51_14, hfz51_15, hfz51_16, hfz51_17, hfz51_18, hfz51_19, hfz51_20⟩ := Gv.f21 BK429.out; obtain ⟨hcz52_0, hcz52_1, hcz52_2, hcz52_3, hcz52_4, hcz52_5, hcz52_6, hcz52_7, hcz52_8, hcz52_9, hcz52_10, hcz52_11, hcz52_12⟩ := Gv.c13 BK430.out; obtain ⟨hfz52_0, hfz52_1, hfz52_2, hfz52_3, hfz52_4, hfz52_5, hfz52_6, hfz52_7, hfz52_8, hfz52_9, hfz52_10, hfz52_11, hfz52_12⟩ := Gv.f13 BK430.out) | ((with_reducible refine gate_callee (f := 55) rfl ?_); refine goesL_ (some 9) rfl rfl Try.func55 (by kernel_rfl) rfl #[.agg #[.int .i64 a0_1, .int .i64 a0_2, .int .i64 a0_3, .int .i64 a0_4, .int .i64 a0_5, .int .i64 a0_6], .agg #[.int .i64 a1_0, .int .i64 a1_1, .int .i64 a1_2, .int .i64 a1_3, .int .i64 a1_4]] rfl Gv.lm ?_; (with_reducible refine (impl_Prefix_has.calls k a0_1 a0_2 a0_3 a0_4 a0_5 a0_6 a1_0 a1_1 a1_2 a1_3 a1_4 true _ A3.out).mono ?_); rintro e w53 ⟨rfl, hb⟩; refine ⟨_, rfl, ?_⟩; have n0_ := Gv.a0 (Gv.bb BK429.out hb); have n1_ := Gv.a0 (Gv.bb BK430.out hb); have n2_ := Gv.a0 (below_step Gv.bw hb); clear BK429; clear BK430; clear HB; have BK429 := n0_; have BK430 := n1_; have HB := n2_; clear n0_ n1_ n2_; (try clear hb); (try clear hb2); (try clear hk); (try clear hi); obtain ⟨hcz54_0, hcz54_1, hcz54_2, hcz54_3, hcz54_4, hcz54_5, hcz54_6, hcz54_7, hcz54_8, hcz54_9, hcz54_10, hcz54_11, hcz54_12, hcz54_13, hcz54_14, hcz54_15, hcz54_16, hcz54_17, hcz54_18, hcz54_19, hcz54_20⟩ := Gv.c21 BK429.out; obtain ⟨hfz54_0, hfz54_1, hfz54_2, hfz54_3, hfz54_4, hfz54_5, hfz54_6, hfz54_7, hfz54_8, hfz54_9, hfz54_10, hfz54_11, hfz54_12, hfz54_13, hfz54_14, hfz54_15, hfz54_16, hfz54_17, hfz54_18, hfz54_19, hfz54_20⟩ := Gv.f21 BK429.out; obtain ⟨hcz55_0, hcz55_1, hcz55_2, hcz55_3, hcz55_4, hcz55_5, hcz55_6, hcz55_7, hcz55_8, hcz55_9, hcz55_10, hcz55_11, hcz55_12⟩ := Gv.c13 BK430.out; obtain ⟨hfz55_0, hfz55_1, hfz55_2, hfz55_3, hfz55_4, hfz55_5, hfz55_6, hfz55_7, hfz55_8, hfz55_9, hfz55_10, hfz55_11, hfz55_12⟩ := Gv.f13 BK430.out) | (go_at_call 55; (with_reducible refine (impl_Prefix_has.calls k a0_7 a0_8 a0_9 a0_10 a0_11 a0_12 a1_5 a1_6 a1_7 a1_8 a1_9 true _ A5.out).mono ?_); rintro e w56 ⟨rfl, hb⟩; have n0_ := Gv.a0 (Gv.bb BK429.out hb); have n1_ := Gv.a0 (Gv.bb BK430.out hb); have n2_ := Gv.a0 (below_step Gv.bw hb); clear BK429; clear BK430; clear HB; have BK429 := n0_; have BK430 := n1_; have HB := n2_; clear n0_ n1_ n2_; (try clear hb); (try clear hb2); (try clear hk); (try clear hi); obtain ⟨hcz57_0, hcz57_1, hcz57_2, hcz57_3, hcz57_4, hcz57_5, hcz57_6, hcz57_7, hcz57_8, hcz57_9, hcz57_10, hcz57_11, hcz57_12, hcz57_13, hcz57_14, hcz57_15, hcz57_16, hcz57_17, hcz57_18, hcz57_19, hcz57_20⟩ := Gv.c21 BK429.out; obtain ⟨hfz57_0, hfz57_1, hfz57_2, hfz57_3, hfz57_4, hfz57_5, hfz57_6, hfz57_7, hfz57_8, hfz57_9, hfz57_10, hfz57_11, hfz57_12, hfz57_13, hfz57_14, hfz57_15, hfz57_16, hfz57_17, hfz57_18, hfz57_19, hfz57_20⟩ := Gv.f21 BK429.out; obtain ⟨hcz58_0, hcz58_1, hcz58_2, hcz58_3, hcz58_4, hcz58_5, hcz58_6, hcz58_7, hcz58_8, hcz58_9, hcz58_10, hcz58_11, hcz58_12⟩ := Gv.c13 BK430.out; obtain ⟨hfz58_0, hfz58_1, hfz58_2, hfz58_3, hfz58_4, hfz58_5, hfz58_6, hfz58_7, hfz58_8, hfz58_9, hfz58_10, hfz58_11, hfz58_12⟩ := Gv.f13 BK430.out) | (go_at_call 46; (with_reducible refine (impl_within.calls a1_11 a0_14 a0_15 false _ A34.out).mono ?_); rintro e w' ⟨rfl, ⟨nd, rfl⟩⟩) | ((with_reducible refine Gv.gate_load (t := 55) rfl ?_); (try (refine gate_guard (by rfl) ?_; dsimp only)); refine wpList_load_row rfl 55 _ rfl gb429 rfl 55 _ _ _ (by first | exact Gv.kb0 BK429.out | exact Gv.kb1 (Gv.kb0 BK429.out)) Try.underlying55 rfl (by kernel_rfl) ?_) | ((with_reducible refine Gv.gate_load (t := 36) rfl ?_); (try (refine gate_guard (by rfl) ?_; dsimp only)); refine wpList_load_row rfl 36 _ rfl gb430 rfl 36 _ _ _ (by first | exact Gv.kb0 BK430.out | exact Gv.kb1 (Gv.kb0 BK430.out)) Try.underlying36 rfl (by kernel_rfl) ?_))
      go_ret
      exact ⟨Gv.rt, Gv.bw⟩
    ·rw [if_neg c33] at H
     have c33b0 : (a0_13 == a1_10) = false := beq_eq_false_iff_ne.mpr c33
     have c33b1 : (a0_13 != a1_10) = true := bne_iff_ne.mpr c33
     obtain rfl := Option.some.inj H
     go_enter Try.func36, Try.ntmps36
     go_wp2_with (first | ((with_reducible refine gate_dst (N := 2) rfl ?_); refine box_event ?hg (N := 2) ?hd (cs := #[.int .i64 a0_0, .int .i64 a0_1, .int .i64 a0_2, .int .i64 a0_3, .int .i64 a0_4, .int .i64 a0_5, .int .i64 a0_6, .int .i64 a0_7, .int .i64 a0_8, .int .i64 a0_9, .int .i64 a0_10, .int .i64 a0_11, .int .i64 a0_12, .int .i64 a0_13, .int .i64 a0_14, .int .i64 a0_15, .int .i64 a0_16, .int .i64 a0_17, .int .i64 a0_18, .int .i64 a0_19, .int .i64 a0_20]) (t := 55) ?hr ?_; (case hd => rfl); (case hg => rfl); (case hr => first | (go_simp; done) | (go_simp; rfl)); intro gb429 hg w59 hbox hb; have n0_ := Gv.a0 (below_step Gv.bw hb); have n1_ := Gv.a0 (hbox); have n2_ := Gv.a0 ((Gv.ble hg Gv.bw : w.heap.size ≤ gb429)); have n3_ := Gv.a0 ((Gv.ble hg Gv.bw : w.heap.size ≤ gb429)); clear HB; have HB := n0_; have BK429 := n1_; have GW429 := n2_; have GE429 := n3_; clear n0_ n1_ n2_ n3_; clear hb hbox hg) | ((with_reducible refine gate_store (t := 55) (p := 2) rfl ?_); refine Gv.store_event rfl rfl rfl rfl rfl (Gv.kb BK429.out) (by kernel_rfl) rfl (by simp; and_intros <;> rfl) ?_; intro w59s hbox hoth hbel; have n0_ := Gv.a0 (hbox); have n1_ := Gv.a0 (hbel w Gv.bw GE429.out); clear BK429 HB; have BK429 := n0_; have HB := n1_; clear n0_ n1_ hbox hoth hbel) | ((with_reducible refine gate_dst (N := 3) rfl ?_); refine box_event ?hg (N := 3) ?hd (cs := #[.int .i64 a1_0, .int .i64 a1_1, .int .i64 a1_2, .int .i64 a1_3, .int .i64 a1_4, .int .i64 a1_5, .int .i64 a1_6, .int .i64 a1_7, .int .i64 a1_8, .int .i64 a1_9, .int .i64 a1_10, .int .i64 a1_11, .int .i64 a1_12]) (t := 36) ?hr ?_; (case hd => rfl); (case hg => rfl); (case hr => first | (go_simp; done) | (go_simp; rfl)); intro gb430 hg w60 hbox hb; have n0_ := Gv.a0 (Gv.bb BK429.out hb); have n1_ := Gv.a0 (below_step Gv.bw hb); have n2_ := Gv.a0 (hbox); have n3_ := Gv.a0 ((Gv.ble hg Gv.bw : w.heap.size ≤ gb430)); have n4_ := Gv.a0 ((Gv.ble hg Gv.bw : w.heap.size ≤ gb430)); have n5_ := Gv.a0 ((Gv.nlt hg (Gv.kb BK429.out) : gb429 ≠ gb430)); have n6_ := Gv.a0 ((Gv.ngt hg (Gv.kb BK429.out) : gb430 ≠ gb429)); clear BK429; clear HB; have BK429 := n0_; have HB := n1_; have BK430 := n2_; have GW430 := n3_; have GE430 := n4_; have NB429_430 := n5_; have NB430_429 := n6_; clear n0_ n1_ n2_ n3_ n4_ n5_ n6_; clear hb hbox hg; have hnb61 := NB429_430.out; have hnc61 := NB430_429.out; obtain ⟨hcz62_0, hcz62_1, hcz62_2, hcz62_3, hcz62_4, hcz62_5, hcz62_6, hcz62_7, hcz62_8, hcz62_9, hcz62_10, hcz62_11, hcz62_12, hcz62_13, hcz62_14, hcz62_15, hcz62_16, hcz62_17, hcz62_18, hcz62_19, hcz62_20⟩ := Gv.c21 BK429.out; obtain ⟨hfz62_0, hfz62_1, hfz62_2, hfz62_3, hfz62_4, hfz62_5, hfz62_6, hfz62_7, hfz62_8, hfz62_9, hfz62_10, hfz62_11, hfz62_12, hfz62_13, hfz62_14, hfz62_15, hfz62_16, hfz62_17, hfz62_18, hfz62_19, hfz62_20⟩ := Gv.f21 BK429.out; obtain ⟨hcz63_0, hcz63_1, hcz63_2, hcz63_3, hcz63_4, hcz63_5, hcz63_6, hcz63_7, hcz63_8, hcz63_9, hcz63_10, hcz63_11, hcz63_12⟩ := Gv.c13 BK430.out; obtain ⟨hfz63_0, hfz63_1, hfz63_2, hfz63_3, hfz63_4, hfz63_5, hfz63_6, hfz63_7, hfz63_8, hfz63_9, hfz63_10, hfz63_11, hfz63_12⟩ := Gv.f13 BK430.out) | ((with_reducible refine gate_store (t := 36) (p := 3) rfl ?_); refine Gv.store_event rfl rfl rfl rfl rfl (Gv.kb BK430.out) (by kernel_rfl) rfl (by simp; and_intros <;> rfl) ?_; intro w60s hbox hoth hbel; have n0_ := Gv.a0 (hbox); have n1_ := Gv.a0 (hbel w Gv.bw GE430.out); have n2_ := Gv.a0 ((hoth gb429 NB429_430.out).trans (Gv.kb BK429.out)); clear BK430 HB BK429; have BK430 := n0_; have HB := n1_; have BK429 := n2_; clear n0_ n1_ n2_ hbox hoth hbel; (try clear hcz62_0 hcz62_1 hcz62_2 hcz62_3 hcz62_4 hcz62_5 hcz62_6 hcz62_7 hcz62_8 hcz62_9 hcz62_10 hcz62_11 hcz62_12 hcz62_13 hcz62_14 hcz62_15 hcz62_16 hcz62_17 hcz62_18 hcz62_19 hcz62_20 hfz62_0 hfz62_1 hfz62_2 hfz62_3 hfz62_4 hfz62_5 hfz62_6 hfz62_7 hfz62_8 hfz62_9 hfz62_10 hfz62_11 hfz62_12 hfz62_13 hfz62_14 hfz62_15 hfz62_16 hfz62_17 hfz62_18 hfz62_19 hfz62_20 hcz63_0 hcz63_1 hcz63_2 hcz63_3 hcz63_4 hcz63_5 hcz63_6 hcz63_7 hcz63_8 hcz63_9 hcz63_10 hcz63_11 hcz63_12 hfz63_0 hfz63_1 hfz63_2 hfz63_3 hfz63_4 hfz63_5 hfz63_6 hfz63_7 hfz63_8 hfz63_9 hfz63_10 hfz63_11 hfz63_12); obtain ⟨hcz62_0, hcz62_1, hcz62_2, hcz62_3, hcz62_4, hcz62_5, hcz62_6, hcz62_7, hcz62_8, hcz62_9, hcz62_10, hcz62_11, hcz62_12, hcz62_13, hcz62_14, hcz62_15, hcz62_16, hcz62_17, hcz62_18, hcz62_19, hcz62_20⟩ := Gv.c21 BK429.out; obtain ⟨hfz62_0, hfz62_1, hfz62_2, hfz62_3, hfz62_4, hfz62_5, hfz62_6, hfz62_7, hfz62_8, hfz62_9, hfz62_10, hfz62_11, hfz62_12, hfz62_13, hfz62_14, hfz62_15, hfz62_16, hfz62_17, hfz62_18, hfz62_19, hfz62_20⟩ := Gv.f21 BK429.out; obtain ⟨hcz63_0, hcz63_1, hcz63_2, hcz63_3, hcz63_4, hcz63_5, hcz63_6, hcz63_7, hcz63_8, hcz63_9, hcz63_10, hcz63_11, hcz63_12⟩ := Gv.c13 BK430.out; obtain ⟨hfz63_0, hfz63_1, hfz63_2, hfz63_3, hfz63_4, hfz63_5, hfz63_6, hfz63_7, hfz63_8, hfz63_9, hfz63_10, hfz63_11, hfz63_12⟩ := Gv.f13 BK430.out) | ((with_reducible refine gate_callee (f := 55) rfl ?_); refine goesL_ (some 9) rfl rfl Try.func55 (by kernel_rfl) rfl #[.agg #[.int .i64 a0_1, .int .i64 a0_2, .int .i64 a0_3, .int .i64 a0_4, .int .i64 a0_5, .int .i64 a0_6], .agg #[.int .i64 a1_0, .int .i64 a1_1, .int .i64 a1_2, .int .i64 a1_3, .int .i64 a1_4]] rfl Gv.lm ?_; (with_reducible refine (impl_Prefix_has.calls k a0_1 a0_2 a0_3 a0_4 a0_5 a0_6 a1_0 a1_1 a1_2 a1_3 a1_4 true _ A3.out).mono ?_); rintro e w64 ⟨rfl, hb⟩; refine ⟨_, rfl, ?_⟩; have n0_ := Gv.a0 (Gv.bb BK429.out hb); have n1_ := Gv.a0 (Gv.bb BK430.out hb); have n2_ := Gv.a0 (below_step Gv.bw hb); clear BK429; clear BK430; clear HB; have BK429 := n0_; have BK430 := n1_; have HB := n2_; clear n0_ n1_ n2_; (try clear hb); (try clear hb2); (try clear hk); (try clear hi); obtain ⟨hcz65_0, hcz65_1, hcz65_2, hcz65_3, hcz65_4, hcz65_5, hcz65_6, hcz65_7, hcz65_8, hcz65_9, hcz65_10, hcz65_11, hcz65_12, hcz65_13, hcz65_14, hcz65_15, hcz65_16, hcz65_17, hcz65_18, hcz65_19, hcz65_20⟩ := Gv.c21 BK429.out; obtain ⟨hfz65_0, hfz65_1, hfz65_2, hfz65_3, hfz65_4, hfz65_5, hfz65_6, hfz65_7, hfz65_8, hfz65_9, hfz65_10, hfz65_11, hfz65_12, hfz65_13, hfz65_14, hfz65_15, hfz65_16, hfz65_17, hfz65_18, hfz65_19, hfz65_20⟩ := Gv.f21 BK429.out; obtain ⟨hcz66_0, hcz66_1, hcz66_2, hcz66_3, hcz66_4, hcz66_5, hcz66_6, hcz66_7, hcz66_8, hcz66_9, hcz66_10, hcz66_11, hcz66_12⟩ := Gv.c13 BK430.out; obtain ⟨hfz66_0, hfz66_1, hfz66_2, hfz66_3, hfz66_4, hfz66_5, hfz66_6, hfz66_7, hfz66_8, hfz66_9, hfz66_10, hfz66_11, hfz66_12⟩ := Gv.f13 BK430.out) | (go_at_call 55; (with_reducible refine (impl_Prefix_has.calls k a0_7 a0_8 a0_9 a0_10 a0_11 a0_12 a1_5 a1_6 a1_7 a1_8 a1_9 true _ A5.out).mono ?_); rintro e w67 ⟨rfl, hb⟩; have n0_ := Gv.a0 (Gv.bb BK429.out hb); have n1_ := Gv.a0 (Gv.bb BK430.out hb); have n2_ := Gv.a0 (below_step Gv.bw hb); clear BK429; clear BK430; clear HB; have BK429 := n0_; have BK430 := n1_; have HB := n2_; clear n0_ n1_ n2_; (try clear hb); (try clear hb2); (try clear hk); (try clear hi); obtain ⟨hcz68_0, hcz68_1, hcz68_2, hcz68_3, hcz68_4, hcz68_5, hcz68_6, hcz68_7, hcz68_8, hcz68_9, hcz68_10, hcz68_11, hcz68_12, hcz68_13, hcz68_14, hcz68_15, hcz68_16, hcz68_17, hcz68_18, hcz68_19, hcz68_20⟩ := Gv.c21 BK429.out; obtain ⟨hfz68_0, hfz68_1, hfz68_2, hfz68_3, hfz68_4, hfz68_5, hfz68_6, hfz68_7, hfz68_8, hfz68_9, hfz68_10, hfz68_11, hfz68_12, hfz68_13, hfz68_14, hfz68_15, hfz68_16, hfz68_17, hfz68_18, hfz68_19, hfz68_20⟩ := Gv.f21 BK429.out; obtain ⟨hcz69_0, hcz69_1, hcz69_2, hcz69_3, hcz69_4, hcz69_5, hcz69_6, hcz69_7, hcz69_8, hcz69_9, hcz69_10, hcz69_11, hcz69_12⟩ := Gv.c13 BK430.out; obtain ⟨hfz69_0, hfz69_1, hfz69_2, hfz69_3, hfz69_4, hfz69_5, hfz69_6, hfz69_7, hfz69_8, hfz69_9, hfz69_10, hfz69_11, hfz69_12⟩ := Gv.f13 BK430.out) | ((with_reducible refine Gv.gate_load (t := 55) rfl ?_); (try (refine gate_guard (by rfl) ?_; dsimp only)); refine wpList_load_row rfl 55 _ rfl gb429 rfl 55 _ _ _ (by first | exact Gv.kb0 BK429.out | exact Gv.kb1 (Gv.kb0 BK429.out)) Try.underlying55 rfl (by kernel_rfl) ?_) | ((with_reducible refine Gv.gate_load (t := 36) rfl ?_); (try (refine gate_guard (by rfl) ?_; dsimp only)); refine wpList_load_row rfl 36 _ rfl gb430 rfl 36 _ _ _ (by first | exact Gv.kb0 BK430.out | exact Gv.kb1 (Gv.kb0 BK430.out)) Try.underlying36 rfl (by kernel_rfl) ?_))
     go_ret
     exact ⟨Gv.rt, Gv.bw⟩
  ·replace c6 := Bool.eq_false_iff.mpr c6
   subst c6
   have H1 : (some false) = some r := by rw [if_neg (show ¬ (false = true) by decide)] at H; exact H
   clear H
   have H := H1
   clear H1
   obtain rfl := Option.some.inj H
   go_enter Try.func36, Try.ntmps36
   go_wp2_with (first | ((with_reducible refine gate_dst (N := 2) rfl ?_); refine box_event ?hg (N := 2) ?hd (cs := #[.int .i64 a0_0, .int .i64 a0_1, .int .i64 a0_2, .int .i64 a0_3, .int .i64 a0_4, .int .i64 a0_5, .int .i64 a0_6, .int .i64 a0_7, .int .i64 a0_8, .int .i64 a0_9, .int .i64 a0_10, .int .i64 a0_11, .int .i64 a0_12, .int .i64 a0_13, .int .i64 a0_14, .int .i64 a0_15, .int .i64 a0_16, .int .i64 a0_17, .int .i64 a0_18, .int .i64 a0_19, .int .i64 a0_20]) (t := 55) ?hr ?_; (case hd => rfl); (case hg => rfl); (case hr => first | (go_simp; done) | (go_simp; rfl)); intro gb429 hg w70 hbox hb; have n0_ := Gv.a0 (below_step Gv.bw hb); have n1_ := Gv.a0 (hbox); have n2_ := Gv.a0 ((Gv.ble hg Gv.bw : w.heap.size ≤ gb429)); have n3_ := Gv.a0 ((Gv.ble hg Gv.bw : w.heap.size ≤ gb429)); clear HB; have HB := n0_; have BK429 := n1_; have GW429 := n2_; have GE429 := n3_; clear n0_ n1_ n2_ n3_; clear hb hbox hg) | ((with_reducible refine gate_store (t := 55) (p := 2) rfl ?_); refine Gv.store_event rfl rfl rfl rfl rfl (Gv.kb BK429.out) (by kernel_rfl) rfl (by simp; and_intros <;> rfl) ?_; intro w70s hbox hoth hbel; have n0_ := Gv.a0 (hbox); have n1_ := Gv.a0 (hbel w Gv.bw GE429.out); clear BK429 HB; have BK429 := n0_; have HB := n1_; clear n0_ n1_ hbox hoth hbel) | ((with_reducible refine gate_dst (N := 3) rfl ?_); refine box_event ?hg (N := 3) ?hd (cs := #[.int .i64 a1_0, .int .i64 a1_1, .int .i64 a1_2, .int .i64 a1_3, .int .i64 a1_4, .int .i64 a1_5, .int .i64 a1_6, .int .i64 a1_7, .int .i64 a1_8, .int .i64 a1_9, .int .i64 a1_10, .int .i64 a1_11, .int .i64 a1_12]) (t := 36) ?hr ?_; (case hd => rfl); (case hg => rfl); (case hr => first | (go_simp; done) | (go_simp; rfl)); intro gb430 hg w71 hbox hb; have n0_ := Gv.a0 (Gv.bb BK429.out hb); have n1_ := Gv.a0 (below_step Gv.bw hb); have n2_ := Gv.a0 (hbox); have n3_ := Gv.a0 ((Gv.ble hg Gv.bw : w.heap.size ≤ gb430)); have n4_ := Gv.a0 ((Gv.ble hg Gv.bw : w.heap.size ≤ gb430)); have n5_ := Gv.a0 ((Gv.nlt hg (Gv.kb BK429.out) : gb429 ≠ gb430)); have n6_ := Gv.a0 ((Gv.ngt hg (Gv.kb BK429.out) : gb430 ≠ gb429)); clear BK429; clear HB; have BK429 := n0_; have HB := n1_; have BK430 := n2_; have GW430 := n3_; have GE430 := n4_; have NB429_430 := n5_; have NB430_429 := n6_; clear n0_ n1_ n2_ n3_ n4_ n5_ n6_; clear hb hbox hg; have hnb72 := NB429_430.out; have hnc72 := NB430_429.out; obtain ⟨hcz73_0, hcz73_1, hcz73_2, hcz73_3, hcz73_4, hcz73_5, hcz73_6, hcz73_7, hcz73_8, hcz73_9, hcz73_10, hcz73_11, hcz73_12, hcz73_13, hcz73_14, hcz73_15, hcz73_16, hcz73_17, hcz73_18, hcz73_19, hcz73_20⟩ := Gv.c21 BK429.out; obtain ⟨hfz73_0, hfz73_1, hfz73_2, hfz73_3, hfz73_4, hfz73_5, hfz73_6, hfz73_7, hfz73_8, hfz73_9, hfz73_10, hfz73_11, hfz73_12, hfz73_13, hfz73_14, hfz73_15, hfz73_16, hfz73_17, hfz73_18, hfz73_19, hfz73_20⟩ := Gv.f21 BK429.out; obtain ⟨hcz74_0, hcz74_1, hcz74_2, hcz74_3, hcz74_4, hcz74_5, hcz74_6, hcz74_7, hcz74_8, hcz74_9, hcz74_10, hcz74_11, hcz74_12⟩ := Gv.c13 BK430.out; obtain ⟨hfz74_0, hfz74_1, hfz74_2, hfz74_3, hfz74_4, hfz74_5, hfz74_6, hfz74_7, hfz74_8, hfz74_9, hfz74_10, hfz74_11, hfz74_12⟩ := Gv.f13 BK430.out) | ((with_reducible refine gate_store (t := 36) (p := 3) rfl ?_); refine Gv.store_event rfl rfl rfl rfl rfl (Gv.kb BK430.out) (by kernel_rfl) rfl (by simp; and_intros <;> rfl) ?_; intro w71s hbox hoth hbel; have n0_ := Gv.a0 (hbox); have n1_ := Gv.a0 (hbel w Gv.bw GE430.out); have n2_ := Gv.a0 ((hoth gb429 NB429_430.out).trans (Gv.kb BK429.out)); clear BK430 HB BK429; have BK430 := n0_; have HB := n1_; have BK429 := n2_; clear n0_ n1_ n2_ hbox hoth hbel; (try clear hcz73_0 hcz73_1 hcz73_2 hcz73_3 hcz73_4 hcz73_5 hcz73_6 hcz73_7 hcz73_8 hcz73_9 hcz73_10 hcz73_11 hcz73_12 hcz73_13 hcz73_14 hcz73_15 hcz73_16 hcz73_17 hcz73_18 hcz73_19 hcz73_20 hfz73_0 hfz73_1 hfz73_2 hfz73_3 hfz73_4 hfz73_5 hfz73_6 hfz73_7 hfz73_8 hfz73_9 hfz73_10 hfz73_11 hfz73_12 hfz73_13 hfz73_14 hfz73_15 hfz73_16 hfz73_17 hfz73_18 hfz73_19 hfz73_20 hcz74_0 hcz74_1 hcz74_2 hcz74_3 hcz74_4 hcz74_5 hcz74_6 hcz74_7 hcz74_8 hcz74_9 hcz74_10 hcz74_11 hcz74_12 hfz74_0 hfz74_1 hfz74_2 hfz74_3 hfz74_4 hfz74_5 hfz74_6 hfz74_7 hfz74_8 hfz74_9 hfz74_10 hfz74_11 hfz74_12); obtain ⟨hcz73_0, hcz73_1, hcz73_2, hcz73_3, hcz73_4, hcz73_5, hcz73_6, hcz73_7, hcz73_8, hcz73_9, hcz73_10, hcz73_11, hcz73_12, hcz73_13, hcz73_14, hcz73_15, hcz73_16, hcz73_17, hcz73_18, hcz73_19, hcz73_20⟩ := Gv.c21 BK429.out; obtain ⟨hfz73_0, hfz73_1, hfz73_2, hfz73_3, hfz73_4, hfz73_5, hfz73_6, hfz73_7, hfz73_8, hfz73_9, hfz73_10, hfz73_11, hfz73_12, hfz73_13, hfz73_14, hfz73_15, hfz73_16, hfz73_17, hfz73_18, hfz73_19, hfz73_20⟩ := Gv.f21 BK429.out; obtain ⟨hcz74_0, hcz74_1, hcz74_2, hcz74_3, hcz74_4, hcz74_5, hcz74_6, hcz74_7, hcz74_8, hcz74_9, hcz74_10, hcz74_11, hcz74_12⟩ := Gv.c13 BK430.out; obtain ⟨hfz74_0, hfz74_1, hfz74_2, hfz74_3, hfz74_4, hfz74_5, hfz74_6, hfz74_7, hfz74_8, hfz74_9, hfz74_10, hfz74_11, hfz74_12⟩ := Gv.f13 BK430.out) | ((with_reducible refine gate_callee (f := 55) rfl ?_); refine goesL_ (some 9) rfl rfl Try.func55 (by kernel_rfl) rfl #[.agg #[.int .i64 a0_1, .int .i64 a0_2, .int .i64 a0_3, .int .i64 a0_4, .int .i64 a0_5, .int .i64 a0_6], .agg #[.int .i64 a1_0, .int .i64 a1_1, .int .i64 a1_2, .int .i64 a1_3, .int .i64 a1_4]] rfl Gv.lm ?_; (with_reducible refine (impl_Prefix_has.calls k a0_1 a0_2 a0_3 a0_4 a0_5 a0_6 a1_0 a1_1 a1_2 a1_3 a1_4 true _ A3.out).mono ?_); rintro e w75 ⟨rfl, hb⟩; refine ⟨_, rfl, ?_⟩; have n0_ := Gv.a0 (Gv.bb BK429.out hb); have n1_ := Gv.a0 (Gv.bb BK430.out hb); have n2_ := Gv.a0 (below_step Gv.bw hb); clear BK429; clear BK430; clear HB; have BK429 := n0_; have BK430 := n1_; have HB := n2_; clear n0_ n1_ n2_; (try clear hb); (try clear hb2); (try clear hk); (try clear hi); obtain ⟨hcz76_0, hcz76_1, hcz76_2, hcz76_3, hcz76_4, hcz76_5, hcz76_6, hcz76_7, hcz76_8, hcz76_9, hcz76_10, hcz76_11, hcz76_12, hcz76_13, hcz76_14, hcz76_15, hcz76_16, hcz76_17, hcz76_18, hcz76_19, hcz76_20⟩ := Gv.c21 BK429.out; obtain ⟨hfz76_0, hfz76_1, hfz76_2, hfz76_3, hfz76_4, hfz76_5, hfz76_6, hfz76_7, hfz76_8, hfz76_9, hfz76_10, hfz76_11, hfz76_12, hfz76_13, hfz76_14, hfz76_15, hfz76_16, hfz76_17, hfz76_18, hfz76_19, hfz76_20⟩ := Gv.f21 BK429.out; obtain ⟨hcz77_0, hcz77_1, hcz77_2, hcz77_3, hcz77_4, hcz77_5, hcz77_6, hcz77_7, hcz77_8, hcz77_9, hcz77_10, hcz77_11, hcz77_12⟩ := Gv.c13 BK430.out; obtain ⟨hfz77_0, hfz77_1, hfz77_2, hfz77_3, hfz77_4, hfz77_5, hfz77_6, hfz77_7, hfz77_8, hfz77_9, hfz77_10, hfz77_11, hfz77_12⟩ := Gv.f13 BK430.out) | (go_at_call 55; (with_reducible refine (impl_Prefix_has.calls k a0_7 a0_8 a0_9 a0_10 a0_11 a0_12 a1_5 a1_6 a1_7 a1_8 a1_9 false _ A5.out).mono ?_); rintro e w78 ⟨rfl, hb⟩; have n0_ := Gv.a0 (Gv.bb BK429.out hb); have n1_ := Gv.a0 (Gv.bb BK430.out hb); have n2_ := Gv.a0 (below_step Gv.bw hb); clear BK429; clear BK430; clear HB; have BK429 := n0_; have BK430 := n1_; have HB := n2_; clear n0_ n1_ n2_; (try clear hb); (try clear hb2); (try clear hk); (try clear hi)) | ((with_reducible refine Gv.gate_load (t := 55) rfl ?_); (try (refine gate_guard (by rfl) ?_; dsimp only)); refine wpList_load_row rfl 55 _ rfl gb429 rfl 55 _ _ _ (by first | exact Gv.kb0 BK429.out | exact Gv.kb1 (Gv.kb0 BK429.out)) Try.underlying55 rfl (by kernel_rfl) ?_) | ((with_reducible refine Gv.gate_load (t := 36) rfl ?_); (try (refine gate_guard (by rfl) ?_; dsimp only)); refine wpList_load_row rfl 36 _ rfl gb430 rfl 36 _ _ _ (by first | exact Gv.kb0 BK430.out | exact Gv.kb1 (Gv.kb0 BK430.out)) Try.underlying36 rfl (by kernel_rfl) ?_))
   go_ret
   exact ⟨Gv.rt, Gv.bw⟩
 ·replace c4 := Bool.eq_false_iff.mpr c4
  subst c4
  have H1 : (some false) = some r := by rw [if_neg (show ¬ (false = true) by decide)] at H; exact H
  clear H
  have H := H1
  clear H1
  obtain rfl := Option.some.inj H
  go_enter Try.func36, Try.ntmps36
  go_wp2_with (first | ((with_reducible refine gate_dst (N := 2) rfl ?_); refine box_event ?hg (N := 2) ?hd (cs := #[.int .i64 a0_0, .int .i64 a0_1, .int .i64 a0_2, .int .i64 a0_3, .int .i64 a0_4, .int .i64 a0_5, .int .i64 a0_6, .int .i64 a0_7, .int .i64 a0_8, .int .i64 a0_9, .int .i64 a0_10, .int .i64 a0_11, .int .i64 a0_12, .int .i64 a0_13, .int .i64 a0_14, .int .i64 a0_15, .int .i64 a0_16, .int .i64 a0_17, .int .i64 a0_18, .int .i64 a0_19, .int .i64 a0_20]) (t := 55) ?hr ?_; (case hd => rfl); (case hg => rfl); (case hr => first | (go_simp; done) | (go_simp; rfl)); intro gb429 hg w79 hbox hb; have n0_ := Gv.a0 (below_step Gv.bw hb); have n1_ := Gv.a0 (hbox); have n2_ := Gv.a0 ((Gv.ble hg Gv.bw : w.heap.size ≤ gb429)); have n3_ := Gv.a0 ((Gv.ble hg Gv.bw : w.heap.size ≤ gb429)); clear HB; have HB := n0_; have BK429 := n1_; have GW429 := n2_; have GE429 := n3_; clear n0_ n1_ n2_ n3_; clear hb hbox hg) | ((with_reducible refine gate_store (t := 55) (p := 2) rfl ?_); refine Gv.store_event rfl rfl rfl rfl rfl (Gv.kb BK429.out) (by kernel_rfl) rfl (by simp; and_intros <;> rfl) ?_; intro w79s hbox hoth hbel; have n0_ := Gv.a0 (hbox); have n1_ := Gv.a0 (hbel w Gv.bw GE429.out); clear BK429 HB; have BK429 := n0_; have HB := n1_; clear n0_ n1_ hbox hoth hbel) | ((with_reducible refine gate_dst (N := 3) rfl ?_); refine box_event ?hg (N := 3) ?hd (cs := #[.int .i64 a1_0, .int .i64 a1_1, .int .i64 a1_2, .int .i64 a1_3, .int .i64 a1_4, .int .i64 a1_5, .int .i64 a1_6, .int .i64 a1_7, .int .i64 a1_8, .int .i64 a1_9, .int .i64 a1_10, .int .i64 a1_11, .int .i64 a1_12]) (t := 36) ?hr ?_; (case hd => rfl); (case hg => rfl); (case hr => first | (go_simp; done) | (go_simp; rfl)); intro gb430 hg w80 hbox hb; have n0_ := Gv.a0 (Gv.bb BK429.out hb); have n1_ := Gv.a0 (below_step Gv.bw hb); have n2_ := Gv.a0 (hbox); have n3_ := Gv.a0 ((Gv.ble hg Gv.bw : w.heap.size ≤ gb430)); have n4_ := Gv.a0 ((Gv.ble hg Gv.bw : w.heap.size ≤ gb430)); have n5_ := Gv.a0 ((Gv.nlt hg (Gv.kb BK429.out) : gb429 ≠ gb430)); have n6_ := Gv.a0 ((Gv.ngt hg (Gv.kb BK429.out) : gb430 ≠ gb429)); clear BK429; clear HB; have BK429 := n0_; have HB := n1_; have BK430 := n2_; have GW430 := n3_; have GE430 := n4_; have NB429_430 := n5_; have NB430_429 := n6_; clear n0_ n1_ n2_ n3_ n4_ n5_ n6_; clear hb hbox hg; have hnb81 := NB429_430.out; have hnc81 := NB430_429.out; obtain ⟨hcz82_0, hcz82_1, hcz82_2, hcz82_3, hcz82_4, hcz82_5, hcz82_6, hcz82_7, hcz82_8, hcz82_9, hcz82_10, hcz82_11, hcz82_12, hcz82_13, hcz82_14, hcz82_15, hcz82_16, hcz82_17, hcz82_18, hcz82_19, hcz82_20⟩ := Gv.c21 BK429.out; obtain ⟨hfz82_0, hfz82_1, hfz82_2, hfz82_3, hfz82_4, hfz82_5, hfz82_6, hfz82_7, hfz82_8, hfz82_9, hfz82_10, hfz82_11, hfz82_12, hfz82_13, hfz82_14, hfz82_15, hfz82_16, hfz82_17, hfz82_18, hfz82_19, hfz82_20⟩ := Gv.f21 BK429.out; obtain ⟨hcz83_0, hcz83_1, hcz83_2, hcz83_3, hcz83_4, hcz83_5, hcz83_6, hcz83_7, hcz83_8, hcz83_9, hcz83_10, hcz83_11, hcz83_12⟩ := Gv.c13 BK430.out; obtain ⟨hfz83_0, hfz83_1, hfz83_2, hfz83_3, hfz83_4, hfz83_5, hfz83_6, hfz83_7, hfz83_8, hfz83_9, hfz83_10, hfz83_11, hfz83_12⟩ := Gv.f13 BK430.out) | ((with_reducible refine gate_store (t := 36) (p := 3) rfl ?_); refine Gv.store_event rfl rfl rfl rfl rfl (Gv.kb BK430.out) (by kernel_rfl) rfl (by simp; and_intros <;> rfl) ?_; intro w80s hbox hoth hbel; have n0_ := Gv.a0 (hbox); have n1_ := Gv.a0 (hbel w Gv.bw GE430.out); have n2_ := Gv.a0 ((hoth gb429 NB429_430.out).trans (Gv.kb BK429.out)); clear BK430 HB BK429; have BK430 := n0_; have HB := n1_; have BK429 := n2_; clear n0_ n1_ n2_ hbox hoth hbel; (try clear hcz82_0 hcz82_1 hcz82_2 hcz82_3 hcz82_4 hcz82_5 hcz82_6 hcz82_7 hcz82_8 hcz82_9 hcz82_10 hcz82_11 hcz82_12 hcz82_13 hcz82_14 hcz82_15 hcz82_16 hcz82_17 hcz82_18 hcz82_19 hcz82_20 hfz82_0 hfz82_1 hfz82_2 hfz82_3 hfz82_4 hfz82_5 hfz82_6 hfz82_7 hfz82_8 hfz82_9 hfz82_10 hfz82_11 hfz82_12 hfz82_13 hfz82_14 hfz82_15 hfz82_16 hfz82_17 hfz82_18 hfz82_19 hfz82_20 hcz83_0 hcz83_1 hcz83_2 hcz83_3 hcz83_4 hcz83_5 hcz83_6 hcz83_7 hcz83_8 hcz83_9 hcz83_10 hcz83_11 hcz83_12 hfz83_0 hfz83_1 hfz83_2 hfz83_3 hfz83_4 hfz83_5 hfz83_6 hfz83_7 hfz83_8 hfz83_9 hfz83_10 hfz83_11 hfz83_12); obtain ⟨hcz82_0, hcz82_1, hcz82_2, hcz82_3, hcz82_4, hcz82_5, hcz82_6, hcz82_7, hcz82_8, hcz82_9, hcz82_10, hcz82_11, hcz82_12, hcz82_13, hcz82_14, hcz82_15, hcz82_16, hcz82_17, hcz82_18, hcz82_19, hcz82_20⟩ := Gv.c21 BK429.out; obtain ⟨hfz82_0, hfz82_1, hfz82_2, hfz82_3, hfz82_4, hfz82_5, hfz82_6, hfz82_7, hfz82_8, hfz82_9, hfz82_10, hfz82_11, hfz82_12, hfz82_13, hfz82_14, hfz82_15, hfz82_16, hfz82_17, hfz82_18, hfz82_19, hfz82_20⟩ := Gv.f21 BK429.out; obtain ⟨hcz83_0, hcz83_1, hcz83_2, hcz83_3, hcz83_4, hcz83_5, hcz83_6, hcz83_7, hcz83_8, hcz83_9, hcz83_10, hcz83_11, hcz83_12⟩ := Gv.c13 BK430.out; obtain ⟨hfz83_0, hfz83_1, hfz83_2, hfz83_3, hfz83_4, hfz83_5, hfz83_6, hfz83_7, hfz83_8, hfz83_9, hfz83_10, hfz83_11, hfz83_12⟩ := Gv.f13 BK430.out) | ((with_reducible refine gate_callee (f := 55) rfl ?_); refine goesL_ (some 9) rfl rfl Try.func55 (by kernel_rfl) rfl #[.agg #[.int .i64 a0_1, .int .i64 a0_2, .int .i64 a0_3, .int .i64 a0_4, .int .i64 a0_5, .int .i64 a0_6], .agg #[.int .i64 a1_0, .int .i64 a1_1, .int .i64 a1_2, .int .i64 a1_3, .int .i64 a1_4]] rfl Gv.lm ?_; (with_reducible refine (impl_Prefix_has.calls k a0_1 a0_2 a0_3 a0_4 a0_5 a0_6 a1_0 a1_1 a1_2 a1_3 a1_4 false _ A3.out).mono ?_); rintro e w84 ⟨rfl, hb⟩; refine ⟨_, rfl, ?_⟩; have n0_ := Gv.a0 (Gv.bb BK429.out hb); have n1_ := Gv.a0 (Gv.bb BK430.out hb); have n2_ := Gv.a0 (below_step Gv.bw hb); clear BK429; clear BK430; clear HB; have BK429 := n0_; have BK430 := n1_; have HB := n2_; clear n0_ n1_ n2_; (try clear hb); (try clear hb2); (try clear hk); (try clear hi)) | ((with_reducible refine Gv.gate_load (t := 55) rfl ?_); (try (refine gate_guard (by rfl) ?_; dsimp only)); refine wpList_load_row rfl 55 _ rfl gb429 rfl 55 _ _ _ (by first | exact Gv.kb0 BK429.out | exact Gv.kb1 (Gv.kb0 BK429.out)) Try.underlying55 rfl (by kernel_rfl) ?_) | ((with_reducible refine Gv.gate_load (t := 36) rfl ?_); (try (refine gate_guard (by rfl) ?_; dsimp only)); refine wpList_load_row rfl 36 _ rfl gb430 rfl 36 _ _ _ (by first | exact Gv.kb0 BK430.out | exact Gv.kb1 (Gv.kb0 BK430.out)) Try.underlying36 rfl (by kernel_rfl) ?_))
  go_ret
  exact ⟨Gv.rt, Gv.bw⟩

/-! ### impl_Rule_c35: function 34 over a closure -/
set_option maxHeartbeats 8000000 in
set_option maxRecDepth 100000 in
theorem impl_Rule_c35.idx (g : Nat) (lb : Array Value) (eg : ∀ args w, (callFunc g args).run Try.prog w = .ok (.enter g args) w) (p : S55 → Option Bool) (A0 : Option Addr) (c0 : Nat) (l0 : List S55) (r : Int) (w : World) (hr0 : Kd.C k55 w A0 l0.length l0)
    (hp : ∀ (W : World) (x : S55) (b : Bool), p x = some b → Below w.heap.size w W → Calls Try.prog g (#[.agg #[.int .i64 x.f0, .int .i64 x.f1.f0.f0, .int .i64 x.f1.f0.f1, .int .i64 x.f1.f0.f2, .int .i64 x.f1.f0.f3, .int .i64 x.f1.f0.f4, .int .i64 x.f1.f1, .int .i64 x.f2.f0.f0, .int .i64 x.f2.f0.f1, .int .i64 x.f2.f0.f2, .int .i64 x.f2.f0.f3, .int .i64 x.f2.f0.f4, .int .i64 x.f2.f1, .int .i64 x.f3, .int .i64 x.f4, .int .i64 x.f5, .int .i64 x.f6, .int .i64 x.f7, .int .i64 x.f8, .int .i64 x.f9, .int .i64 x.f10]] ++ lb) W fun e w' => e = .returned (.bool b) ∧ Below W.heap.size W w') (h : Gv.idxO p l0 0 = some r) :
    Calls Try.prog 34 #[.slice A0 l0.length c0, .func (.func g) #[] lb] w fun e w' => e = .returned (.int .i64 r) ∧ Below w.heap.size w w' := by
  have hu55 := Try.underlying55
  have HR0 := Aside0.mk hr0
  have HP := Aside0.mk hp
  have hlm := hr0.2.1
  have H0 := Aside0.mk h
  clear hr0 hp h
  go_enter Try.func34, Try.ntmps34
  go_wp2
  go_loopg [5, 8] l0.length (fun gg _ s8 wr => ∃ kk : Nat, kk ≤ l0.length ∧ l0.length - kk ≤ gg ∧ s8 = .int .i64 kk ∧ Aside0 (Below w.heap.size w wr) ∧ Aside0 (Gv.idxO p (l0.drop kk) kk = some r))
  case atStart => exact ⟨0, Nat.zero_le _, by omega, rfl, ⟨Below.refl _ w⟩, ⟨H0.out⟩⟩
  case round =>
    obtain ⟨kk, hkk, hg, rfl, HB, HN⟩ := hrel
    by_cases hlt : kk < l0.length
    · have hltz : (kk : Int) < (l0.length : Int) := by omega
      have hk0 : 0 ≤ (kk : Int) := by omega
      obtain ⟨ad, e1, hx0, hx1, hx2, hx3, hx4, hx5, hx6, hx7, hx8, hx9, hx10, hx11, hx12, hx13, hx14, hx15, hx16, hx17, hx18, hx19, hx20⟩ := at_T55 (Kd.C_below HR0.out HB.out) (kk : Int) hk0 hltz
      cases e1
      obtain ⟨x_, hx_⟩ : ∃ x_, x_ = rd_T55 l0 kk := ⟨_, rfl⟩
      rw [← hx_, Int.toNat_natCast] at hx0 hx1 hx2 hx3 hx4 hx5 hx6 hx7 hx8 hx9 hx10 hx11 hx12 hx13 hx14 hx15 hx16 hx17 hx18 hx19 hx20
      have hN := HN.out
      have hget : l0.drop kk = x_ :: l0.drop (kk + 1) := by
        rw [hx_, List.drop_eq_getElem_cons hlt]
        congr 1
        unfold rd_T55
        rw [Int.toNat_natCast, List.getD_eq_getElem?_getD, List.getElem?_eq_getElem hlt]
        rfl
      rw [hget] at hN
      obtain ⟨b, hq, hN⟩ := Option.bind_eq_some_iff.mp hN
      have hcall := HP.out wr x_ b hq HB.out
      have HC := Aside0.mk hcall
      have HN2 := Aside0.mk hN
      clear hcall hN hq hget HN hx_
      cases b with
      | true =>
        have HRr := Aside0.mk (show (kk : Int) = r from Option.some.inj HN2.out)
        go_wp2_with (first | ((with_reducible refine Gv.gate_load (t := 55) rfl ?_); refine Gv.load_event (cs := [_, _, _, _, _, _, _, _, _, _, _, _, _, _, _, _, _, _, _, _, _]) rfl rfl rfl ⟨hx0, hx1, hx2, hx3, hx4, hx5, hx6, hx7, hx8, hx9, hx10, hx11, hx12, hx13, hx14, hx15, hx16, hx17, hx18, hx19, hx20, trivial⟩ Try.underlying55 rfl (by kernel_rfl) ?_))
        refine HC.out.mono ?_
        rintro e w' ⟨rfl, hb⟩
        have HB' := Aside0.mk (HB.out.trans (hb.mono HB.out.size))
        clear hb
        go_wp2_with fail
        go_ret
        exact ⟨by rw [← HRr.out]; rfl, HB'.out⟩
      | false =>
        go_wp2_with (first | ((with_reducible refine Gv.gate_load (t := 55) rfl ?_); refine Gv.load_event (cs := [_, _, _, _, _, _, _, _, _, _, _, _, _, _, _, _, _, _, _, _, _]) rfl rfl rfl ⟨hx0, hx1, hx2, hx3, hx4, hx5, hx6, hx7, hx8, hx9, hx10, hx11, hx12, hx13, hx14, hx15, hx16, hx17, hx18, hx19, hx20, trivial⟩ Try.underlying55 rfl (by kernel_rfl) ?_))
        refine HC.out.mono ?_
        rintro e w' ⟨rfl, hb⟩
        have HB' := Aside0.mk (HB.out.trans (hb.mono HB.out.size))
        clear hb
        go_wp2_with fail
        go_roundg (l0.length - (kk + 1))
        case measure => omega
        case rel =>
          have e_ : ((kk + 1 : Nat) : Int) = (kk : Int) + 1 := by omega
          exact ⟨kk + 1, by omega, by omega, by go_num, HB', ⟨by rw [e_]; exact HN2.out⟩⟩
    · have hltz : ¬ (kk : Int) < (l0.length : Int) := by omega
      have HRr := Aside0.mk (show (-1 : Int) = r from by
        have hN := HN.out
        rw [List.drop_eq_nil_of_le (by omega)] at hN
        exact Option.some.inj hN)
      go_wp2_with fail
      go_ret
      exact ⟨by rw [← HRr.out]; rfl, HB.out⟩
set_option maxHeartbeats 8000000 in
set_option maxRecDepth 100000 in
theorem impl_Rule_c35.clo (k : Nat) (g0 : Nat) (c0_0 c0_1 c0_2 c0_3 c0_4 c0_5 c0_6 c0_7 c0_8 c0_9 c0_10 c0_11 c0_12 : Int) (x : S55) (b : Bool) (W : World) (hc0 : W.heap[g0]? = some (.cells #[.int .i64 c0_0, .int .i64 c0_1, .int .i64 c0_2, .int .i64 c0_3, .int .i64 c0_4, .int .i64 c0_5, .int .i64 c0_6, .int .i64 c0_7, .int .i64 c0_8, .int .i64 c0_9, .int .i64 c0_10, .int .i64 c0_11, .int .i64 c0_12] 36 (0, 0))) (h : (impl_Rule_matches.f k x.f0 x.f1.f0.f0 x.f1.f0.f1 x.f1.f0.f2 x.f1.f0.f3 x.f1.f0.f4 x.f1.f1 x.f2.f0.f0 x.f2.f0.f1 x.f2.f0.f2 x.f2.f0.f3 x.f2.f0.f4 x.f2.f1 x.f3 x.f4 x.f5 x.f6 x.f7 x.f8 x.f9 x.f10 c0_0 c0_1 c0_2 c0_3 c0_4 c0_5 c0_6 c0_7 c0_8 c0_9 c0_10 c0_11 c0_12) = some b) :
    Calls Try.prog 35 (#[.agg #[.int .i64 x.f0, .int .i64 x.f1.f0.f0, .int .i64 x.f1.f0.f1, .int .i64 x.f1.f0.f2, .int .i64 x.f1.f0.f3, .int .i64 x.f1.f0.f4, .int .i64 x.f1.f1, .int .i64 x.f2.f0.f0, .int .i64 x.f2.f0.f1, .int .i64 x.f2.f0.f2, .int .i64 x.f2.f0.f3, .int .i64 x.f2.f0.f4, .int .i64 x.f2.f1, .int .i64 x.f3, .int .i64 x.f4, .int .i64 x.f5, .int .i64 x.f6, .int .i64 x.f7, .int .i64 x.f8, .int .i64 x.f9, .int .i64 x.f10]] ++ #[.pointer (some ⟨g0, 0, none⟩)]) W fun e w' => e = .returned (.bool b) ∧ Below W.heap.size W w' := by
  have H := Aside0.mk h
  clear h
  have HC0 := Aside0.mk hc0
  clear hc0
  go_enter Try.func35, Try.ntmps35
  go_wp2_with (first | ((with_reducible refine gate_dst (N := 2) rfl ?_); refine box_event ?hg (N := 2) ?hd (cs := #[.int .i64 x.f0, .int .i64 x.f1.f0.f0, .int .i64 x.f1.f0.f1, .int .i64 x.f1.f0.f2, .int .i64 x.f1.f0.f3, .int .i64 x.f1.f0.f4, .int .i64 x.f1.f1, .int .i64 x.f2.f0.f0, .int .i64 x.f2.f0.f1, .int .i64 x.f2.f0.f2, .int .i64 x.f2.f0.f3, .int .i64 x.f2.f0.f4, .int .i64 x.f2.f1, .int .i64 x.f3, .int .i64 x.f4, .int .i64 x.f5, .int .i64 x.f6, .int .i64 x.f7, .int .i64 x.f8, .int .i64 x.f9, .int .i64 x.f10]) (t := 55) ?hr ?_; (case hd => rfl); (case hg => rfl); (case hr => first | (go_simp; done) | (go_simp; rfl)); intro gbx hg w1 hbox hb; have n0_ := Aside0.mk (blk_below HC0.out hb); have HX := Aside0.mk hbox; have HB0 := Aside0.mk hb; clear HC0 hbox hb hg; have HC0 := n0_; clear n0_) | ((with_reducible refine Gv.gate_load (t := 55) rfl ?_); refine wpList_load_row rfl 55 _ rfl gbx rfl 55 _ _ _ HX.out Try.underlying55 rfl (by kernel_rfl) ?_) | ((with_reducible refine Gv.gate_load (t := 36) rfl ?_); refine wpList_load_row rfl 36 _ rfl g0 rfl 36 _ _ _ HC0.out Try.underlying36 rfl (by kernel_rfl) ?_))
  refine (impl_Rule_matches.calls k _ _ _ _ _ _ _ _ _ _ _ _ _ _ _ _ _ _ _ _ _ _ _ _ _ _ _ _ _ _ _ _ _ _ _ _ H.out).mono ?_
  rintro e w' ⟨rfl, hb⟩
  have HB' := Aside0.mk hb
  clear hb
  go_wp2_with fail
  go_ret
  exact ⟨rfl, HB0.out.trans (HB'.out.mono HB0.out.size)⟩
def impl_Rule_c35.f (k : Nat) (l0 : List S55) (c0_0 c0_1 c0_2 c0_3 c0_4 c0_5 c0_6 c0_7 c0_8 c0_9 c0_10 c0_11 c0_12 : Int) : Option Int := Gv.idxO (fun x : S55 => impl_Rule_matches.f k x.f0 x.f1.f0.f0 x.f1.f0.f1 x.f1.f0.f2 x.f1.f0.f3 x.f1.f0.f4 x.f1.f1 x.f2.f0.f0 x.f2.f0.f1 x.f2.f0.f2 x.f2.f0.f3 x.f2.f0.f4 x.f2.f1 x.f3 x.f4 x.f5 x.f6 x.f7 x.f8 x.f9 x.f10 c0_0 c0_1 c0_2 c0_3 c0_4 c0_5 c0_6 c0_7 c0_8 c0_9 c0_10 c0_11 c0_12) l0 0
theorem impl_Rule_c35.mono : ∀ l0 c0_0 c0_1 c0_2 c0_3 c0_4 c0_5 c0_6 c0_7 c0_8 c0_9 c0_10 c0_11 c0_12 k, LeO (impl_Rule_c35.f k l0 c0_0 c0_1 c0_2 c0_3 c0_4 c0_5 c0_6 c0_7 c0_8 c0_9 c0_10 c0_11 c0_12) (impl_Rule_c35.f (k + 1) l0 c0_0 c0_1 c0_2 c0_3 c0_4 c0_5 c0_6 c0_7 c0_8 c0_9 c0_10 c0_11 c0_12) := by
  intro l0 c0_0 c0_1 c0_2 c0_3 c0_4 c0_5 c0_6 c0_7 c0_8 c0_9 c0_10 c0_11 c0_12 k r h
  unfold impl_Rule_c35.f at h ⊢
  refine Gv.idxO_mono (fun x b hb => ?_) _ _ _ h
  exact impl_Rule_matches.mono _ _ _ _ _ _ _ _ _ _ _ _ _ _ _ _ _ _ _ _ _ _ _ _ _ _ _ _ _ _ _ _ _ _  k _ hb
set_option maxHeartbeats 8000000 in
set_option maxRecDepth 100000 in
theorem impl_Rule_c35.calls (k : Nat) (A0 : Option Addr) (c0 : Nat) (l0 : List S55) (g0 : Nat) (c0_0 c0_1 c0_2 c0_3 c0_4 c0_5 c0_6 c0_7 c0_8 c0_9 c0_10 c0_11 c0_12 : Int) (r : Int) (w : World) (hr0 : Kd.C k55 w A0 l0.length l0) (hc0_ : l0.length ≤ c0) (hc0 : w.heap[g0]? = some (.cells #[.int .i64 c0_0, .int .i64 c0_1, .int .i64 c0_2, .int .i64 c0_3, .int .i64 c0_4, .int .i64 c0_5, .int .i64 c0_6, .int .i64 c0_7, .int .i64 c0_8, .int .i64 c0_9, .int .i64 c0_10, .int .i64 c0_11, .int .i64 c0_12] 36 (0, 0))) (h : impl_Rule_c35.f k l0 c0_0 c0_1 c0_2 c0_3 c0_4 c0_5 c0_6 c0_7 c0_8 c0_9 c0_10 c0_11 c0_12 = some r) :
    Calls Try.prog 34 #[.slice A0 l0.length c0, .func (.func 35) #[] #[.pointer (some ⟨g0, 0, none⟩)]] w fun e w' => e = .returned (.int .i64 r) ∧ Below w.heap.size w w' := by
  exact impl_Rule_c35.idx 35 #[.pointer (some ⟨g0, 0, none⟩)] (enters_of Try.func35 (by kernel_rfl) rfl) (fun x => impl_Rule_matches.f k x.f0 x.f1.f0.f0 x.f1.f0.f1 x.f1.f0.f2 x.f1.f0.f3 x.f1.f0.f4 x.f1.f1 x.f2.f0.f0 x.f2.f0.f1 x.f2.f0.f2 x.f2.f0.f3 x.f2.f0.f4 x.f2.f1 x.f3 x.f4 x.f5 x.f6 x.f7 x.f8 x.f9 x.f10 c0_0 c0_1 c0_2 c0_3 c0_4 c0_5 c0_6 c0_7 c0_8 c0_9 c0_10 c0_11 c0_12) A0 c0 l0 r w hr0 (fun W x b hb hW => impl_Rule_c35.clo k g0 c0_0 c0_1 c0_2 c0_3 c0_4 c0_5 c0_6 c0_7 c0_8 c0_9 c0_10 c0_11 c0_12 x b W (blk_below hc0 hW) hb) h

/-! ### impl_RuleFor: function 15 -/
def impl_RuleFor.f (k : Nat) (l0 : List (S55)) (a1_0 : Int) (a1_1 : Int) (a1_2 : Int) (a1_3 : Int) (a1_4 : Int) (a1_5 : Int) (a1_6 : Int) (a1_7 : Int) (a1_8 : Int) (a1_9 : Int) (a1_10 : Int) (a1_11 : Int) (a1_12 : Int) : Option (Int) := (impl_RulesOk.f k l0).bind fun t438 => (if t438 = true then ((impl_KeyOk.f k a1_0 a1_1 a1_2 a1_3 a1_4 a1_5 a1_6 a1_7 a1_8 a1_9 a1_10 a1_11 a1_12).bind fun t439 => (if t439 = true then ((impl_Rule_c35.f k l0 a1_0 a1_1 a1_2 a1_3 a1_4 a1_5 a1_6 a1_7 a1_8 a1_9 a1_10 a1_11 a1_12).bind fun t440 => (some t440)) else (some (-1)))) else (some (-1)))
theorem impl_RuleFor.mono : ∀ a0 a1 a2 a3 a4 a5 a6 a7 a8 a9 a10 a11 a12 a13 k, LeO (impl_RuleFor.f k a0 a1 a2 a3 a4 a5 a6 a7 a8 a9 a10 a11 a12 a13) (impl_RuleFor.f (k + 1) a0 a1 a2 a3 a4 a5 a6 a7 a8 a9 a10 a11 a12 a13) := by
 intro a0 a1 a2 a3 a4 a5 a6 a7 a8 a9 a10 a11 a12 a13 k
 unfold impl_RuleFor.f
 repeat' first
   | (with_reducible exact impl_KeyOk.mono _ _ _ _ _ _ _ _ _ _ _ _ _ _)
   | (with_reducible exact impl_Rule_c35.mono _ _ _ _ _ _ _ _ _ _ _ _ _ _ _)
   | (with_reducible exact impl_RulesOk.mono _ _)
   | (with_reducible exact LeO.refl _)
   | (with_reducible exact LeO.none _)
   | (with_reducible refine LeO.ite ?_ ?_)
   | (with_reducible refine LeO.bind ?_ (fun _ => ?_))
   | exact impl_KeyOk.mono _ _ _ _ _ _ _ _ _ _ _ _ _ _
   | exact impl_Rule_c35.mono _ _ _ _ _ _ _ _ _ _ _ _ _ _ _
   | exact impl_RulesOk.mono _ _
   | exact LeO.none _
   | refine LeO.ite ?_ ?_
   | refine LeO.bind ?_ (fun _ => ?_)
set_option maxHeartbeats 8000000 in
set_option maxRecDepth 100000 in
theorem impl_RuleFor.calls (k : Nat) (A0 : Option Addr) (c0 : Nat) (l0 : List (S55)) (a1_0 : Int) (a1_1 : Int) (a1_2 : Int) (a1_3 : Int) (a1_4 : Int) (a1_5 : Int) (a1_6 : Int) (a1_7 : Int) (a1_8 : Int) (a1_9 : Int) (a1_10 : Int) (a1_11 : Int) (a1_12 : Int) (r : Int) (w : World) (hr0 : Kd.C k55 w A0 l0.length l0) (hc0 : l0.length ≤ c0) (h : impl_RuleFor.f k l0 a1_0 a1_1 a1_2 a1_3 a1_4 a1_5 a1_6 a1_7 a1_8 a1_9 a1_10 a1_11 a1_12 = some r) :
  Calls Try.prog 15 #[.slice A0 l0.length c0, .agg #[.int .i64 a1_0, .int .i64 a1_1, .int .i64 a1_2, .int .i64 a1_3, .int .i64 a1_4, .int .i64 a1_5, .int .i64 a1_6, .int .i64 a1_7, .int .i64 a1_8, .int .i64 a1_9, .int .i64 a1_10, .int .i64 a1_11, .int .i64 a1_12]] w fun e w' => e = .returned (.int .i64 r) ∧ Below w.heap.size w w' := by
 have hu36 := Try.underlying36
 have HR0 := Gv.a0 hr0
 have HC0 := Gv.a0 hc0
 clear hr0 hc0
 have HB := Gv.a0 (Below.refl w.heap.size w)
 have H : ((impl_RulesOk.f k l0).bind fun t438 => (if t438 = true then ((impl_KeyOk.f k a1_0 a1_1 a1_2 a1_3 a1_4 a1_5 a1_6 a1_7 a1_8 a1_9 a1_10 a1_11 a1_12).bind fun t439 => (if t439 = true then ((impl_Rule_c35.f k l0 a1_0 a1_1 a1_2 a1_3 a1_4 a1_5 a1_6 a1_7 a1_8 a1_9 a1_10 a1_11 a1_12).bind fun t440 => (some t440)) else (some (-1)))) else (some (-1)))) = some r := h
 clear h
 replace H := Option.bind_eq_some_iff.mp H
 obtain ⟨t438, A30, H⟩ := H
 replace H : (if t438 = true then ((impl_KeyOk.f k a1_0 a1_1 a1_2 a1_3 a1_4 a1_5 a1_6 a1_7 a1_8 a1_9 a1_10 a1_11 a1_12).bind fun t439 => (if t439 = true then ((impl_Rule_c35.f k l0 a1_0 a1_1 a1_2 a1_3 a1_4 a1_5 a1_6 a1_7 a1_8 a1_9 a1_10 a1_11 a1_12).bind fun t440 => (some t440)) else (some (-1)))) else (some (-1))) = some r := H
 have A3 := Gv.a0 A30
 clear A30
 by_cases c4 : t438 = true
 ·subst c4
  have H1 : ((impl_KeyOk.f k a1_0 a1_1 a1_2 a1_3 a1_4 a1_5 a1_6 a1_7 a1_8 a1_9 a1_10 a1_11 a1_12).bind fun t439 => (if t439 = true then ((impl_Rule_c35.f k l0 a1_0 a1_1 a1_2 a1_3 a1_4 a1_5 a1_6 a1_7 a1_8 a1_9 a1_10 a1_11 a1_12).bind fun t440 => (some t440)) else (some (-1)))) = some r := by rw [if_pos rfl] at H; exact H
  clear H
  have H := H1
  clear H1
  replace H := Option.bind_eq_some_iff.mp H
  obtain ⟨t439, A50, H⟩ := H
  replace H : (if t439 = true then ((impl_Rule_c35.f k l0 a1_0 a1_1 a1_2 a1_3 a1_4 a1_5 a1_6 a1_7 a1_8 a1_9 a1_10 a1_11 a1_12).bind fun t440 => (some t440)) else (some (-1))) = some r := H
  have A5 := Gv.a0 A50
  clear A50
  by_cases c6 : t439 = true
  ·subst c6
   have H1 : ((impl_Rule_c35.f k l0 a1_0 a1_1 a1_2 a1_3 a1_4 a1_5 a1_6 a1_7 a1_8 a1_9 a1_10 a1_11 a1_12).bind fun t440 => (some t440)) = some r := by rw [if_pos rfl] at H; exact H
   clear H
   have H := H1
   clear H1
   replace H := Option.bind_eq_some_iff.mp H
   obtain ⟨t440, A70, H⟩ := H
   replace H : (some t440) = some r := H
   have A7 := Gv.a0 A70
   clear A70
   obtain rfl := Option.some.inj H
   have hmf : ∀ (fn : Fn) (first cap : Array Value) (w : World), (Instr.makeFunc fn first cap).run Try.prog w = .ok (.func fn first cap) w := fun _ _ _ _ => rfl
   go_enter Try.func15, Try.ntmps15
   go_wp2_with (first | ((with_reducible refine gate_dst (N := 3) rfl ?_); refine box_event ?hg (N := 3) ?hd (cs := #[.int .i64 a1_0, .int .i64 a1_1, .int .i64 a1_2, .int .i64 a1_3, .int .i64 a1_4, .int .i64 a1_5, .int .i64 a1_6, .int .i64 a1_7, .int .i64 a1_8, .int .i64 a1_9, .int .i64 a1_10, .int .i64 a1_11, .int .i64 a1_12]) (t := 36) ?hr ?_; (case hd => rfl); (case hg => rfl); (case hr => first | (go_simp; done) | (go_simp; rfl)); intro gb437 hg w8 hbox hb; have n0_ := Gv.a0 (below_step Gv.bw hb); have n1_ := Gv.a0 (hbox); have n2_ := Gv.a0 ((Gv.ble hg Gv.bw : w.heap.size ≤ gb437)); have n3_ := Gv.a0 ((Gv.ble hg Gv.bw : w.heap.size ≤ gb437)); clear HB; have HB := n0_; have BK437 := n1_; have GW437 := n2_; have GE437 := n3_; clear n0_ n1_ n2_ n3_; clear hb hbox hg) | ((with_reducible refine gate_store (t := 36) (p := 3) rfl ?_); refine Gv.store_event rfl rfl rfl rfl rfl (Gv.kb BK437.out) (by kernel_rfl) rfl (by simp; and_intros <;> rfl) ?_; intro w8s hbox hoth hbel; have n0_ := Gv.a0 (hbox); have n1_ := Gv.a0 (hbel w Gv.bw GE437.out); clear BK437 HB; have BK437 := n0_; have HB := n1_; clear n0_ n1_ hbox hoth hbel) | ((with_reducible refine gate_callee (f := 11) rfl ?_); refine goesL_ (some 6) rfl rfl Try.func11 (by kernel_rfl) rfl #[.slice A0 l0.length c0] rfl Gv.lm ?_; (with_reducible refine (impl_RulesOk.calls k _ _ l0 true _ ?side1 ?side2 A3.out).mono ?_); (case side1 => repeat (first | exact (Kd.C_below HR0.out HB.out) | (with_reducible refine Kd.C_alloc ?_ _) | (with_reducible refine Kd.C_drewN ?_ _) | (with_reducible refine Kd.C_drew ?_))); (case side2 => exact HC0.out); rintro e w9 ⟨rfl, hb⟩; refine ⟨_, rfl, ?_⟩; have n0_ := Gv.a0 (Gv.bb BK437.out hb); have n1_ := Gv.a0 (below_step Gv.bw hb); clear BK437; clear HB; have BK437 := n0_; have HB := n1_; clear n0_ n1_; (try clear hb); (try clear hb2); (try clear hk); (try clear hi); obtain ⟨hcz10_0, hcz10_1, hcz10_2, hcz10_3, hcz10_4, hcz10_5, hcz10_6, hcz10_7, hcz10_8, hcz10_9, hcz10_10, hcz10_11, hcz10_12⟩ := Gv.c13 BK437.out; obtain ⟨hfz10_0, hfz10_1, hfz10_2, hfz10_3, hfz10_4, hfz10_5, hfz10_6, hfz10_7, hfz10_8, hfz10_9, hfz10_10, hfz10_11, hfz10_12⟩ := Gv.f13 BK437.out) | (go_at_call 33; (with_reducible refine (impl_KeyOk.calls k a1_0 a1_1 a1_2 a1_3 a1_4 a1_5 a1_6 a1_7 a1_8 a1_9 a1_10 a1_11 a1_12 true _ A5.out).mono ?_); rintro e w11 ⟨rfl, hb⟩; have n0_ := Gv.a0 (Gv.bb BK437.out hb); have n1_ := Gv.a0 (below_step Gv.bw hb); clear BK437; clear HB; have BK437 := n0_; have HB := n1_; clear n0_ n1_; (try clear hb); (try clear hb2); (try clear hk); (try clear hi)) | ((with_reducible refine gate_callee (f := 34) rfl ?_); refine goesL_ (some 15) rfl rfl Try.func34 (by kernel_rfl) rfl #[.slice A0 l0.length c0, .func (.func 35) #[] #[.pointer (some ⟨gb437, 0, none⟩)]] rfl Gv.lm ?_; (with_reducible refine (impl_Rule_c35.calls k _ _ l0 gb437 a1_0 a1_1 a1_2 a1_3 a1_4 a1_5 a1_6 a1_7 a1_8 a1_9 a1_10 a1_11 a1_12 t440 _ ?side1 ?side2 ?side3 A7.out).mono ?_); (case side1 => repeat (first | exact (Kd.C_below HR0.out HB.out) | (with_reducible refine Kd.C_alloc ?_ _) | (with_reducible refine Kd.C_drewN ?_ _) | (with_reducible refine Kd.C_drew ?_))); (case side2 => exact HC0.out); (case side3 => exact Gv.bk); rintro e w12 ⟨rfl, hb⟩; refine ⟨_, rfl, ?_⟩; have n0_ := Gv.a0 (Gv.bb BK437.out hb); have n1_ := Gv.a0 (below_step Gv.bw hb); clear BK437; clear HB; have BK437 := n0_; have HB := n1_; clear n0_ n1_; (try clear hb); (try clear hb2); (try clear hk); (try clear hi)) | ((with_reducible refine Gv.gate_load (t := 36) rfl ?_); (try (refine gate_guard (by rfl) ?_; dsimp only)); refine wpList_load_row rfl 36 _ rfl gb437 rfl 36 _ _ _ (by first | exact Gv.kb0 BK437.out | exact Gv.kb1 (Gv.kb0 BK437.out)) Try.underlying36 rfl (by kernel_rfl) ?_))
   go_ret
   exact ⟨Gv.rt, Gv.bw⟩
  ·replace c6 := Bool.eq_false_iff.mpr c6
   subst c6
   have H1 : (some (-1)) = some r := by rw [if_neg (show ¬ (false = true) by decide)] at H; exact H
   clear H
   have H := H1
   clear H1
   obtain rfl := Option.some.inj H
   have hmf : ∀ (fn : Fn) (first cap : Array Value) (w : World), (Instr.makeFunc fn first cap).run Try.prog w = .ok (.func fn first cap) w := fun _ _ _ _ => rfl
   go_enter Try.func15, Try.ntmps15
   go_wp2_with (first | ((with_reducible refine gate_dst (N := 3) rfl ?_); refine box_event ?hg (N := 3) ?hd (cs := #[.int .i64 a1_0, .int .i64 a1_1, .int .i64 a1_2, .int .i64 a1_3, .int .i64 a1_4, .int .i64 a1_5, .int .i64 a1_6, .int .i64 a1_7, .int .i64 a1_8, .int .i64 a1_9, .int .i64 a1_10, .int .i64 a1_11, .int .i64 a1_12]) (t := 36) ?hr ?_; (case hd => rfl); (case hg => rfl); (case hr => first | (go_simp; done) | (go_simp; rfl)); intro gb437 hg w13 hbox hb; have n0_ := Gv.a0 (below_step Gv.bw hb); have n1_ := Gv.a0 (hbox); have n2_ := Gv.a0 ((Gv.ble hg Gv.bw : w.heap.size ≤ gb437)); have n3_ := Gv.a0 ((Gv.ble hg Gv.bw : w.heap.size ≤ gb437)); clear HB; have HB := n0_; have BK437 := n1_; have GW437 := n2_; have GE437 := n3_; clear n0_ n1_ n2_ n3_; clear hb hbox hg) | ((with_reducible refine gate_store (t := 36) (p := 3) rfl ?_); refine Gv.store_event rfl rfl rfl rfl rfl (Gv.kb BK437.out) (by kernel_rfl) rfl (by simp; and_intros <;> rfl) ?_; intro w13s hbox hoth hbel; have n0_ := Gv.a0 (hbox); have n1_ := Gv.a0 (hbel w Gv.bw GE437.out); clear BK437 HB; have BK437 := n0_; have HB := n1_; clear n0_ n1_ hbox hoth hbel) | ((with_reducible refine gate_callee (f := 11) rfl ?_); refine goesL_ (some 6) rfl rfl Try.func11 (by kernel_rfl) rfl #[.slice A0 l0.length c0] rfl Gv.lm ?_; (with_reducible refine (impl_RulesOk.calls k _ _ l0 true _ ?side1 ?side2 A3.out).mono ?_); (case side1 => repeat (first | exact (Kd.C_below HR0.out HB.out) | (with_reducible refine Kd.C_alloc ?_ _) | (with_reducible refine Kd.C_drewN ?_ _) | (with_reducible refine Kd.C_drew ?_))); (case side2 => exact HC0.out); rintro e w14 ⟨rfl, hb⟩; refine ⟨_, rfl, ?_⟩; have n0_ := Gv.a0 (Gv.bb BK437.out hb); have n1_ := Gv.a0 (below_step Gv.bw hb); clear BK437; clear HB; have BK437 := n0_; have HB := n1_; clear n0_ n1_; (try clear hb); (try clear hb2); (try clear hk); (try clear hi); obtain ⟨hcz15_0, hcz15_1, hcz15_2, hcz15_3, hcz15_4, hcz15_5, hcz15_6, hcz15_7, hcz15_8, hcz15_9, hcz15_10, hcz15_11, hcz15_12⟩ := Gv.c13 BK437.out; obtain ⟨hfz15_0, hfz15_1, hfz15_2, hfz15_3, hfz15_4, hfz15_5, hfz15_6, hfz15_7, hfz15_8, hfz15_9, hfz15_10, hfz15_11, hfz15_12⟩ := Gv.f13 BK437.out) | (go_at_call 33; (with_reducible refine (impl_KeyOk.calls k a1_0 a1_1 a1_2 a1_3 a1_4 a1_5 a1_6 a1_7 a1_8 a1_9 a1_10 a1_11 a1_12 false _ A5.out).mono ?_); rintro e w16 ⟨rfl, hb⟩; have n0_ := Gv.a0 (Gv.bb BK437.out hb); have n1_ := Gv.a0 (below_step Gv.bw hb); clear BK437; clear HB; have BK437 := n0_; have HB := n1_; clear n0_ n1_; (try clear hb); (try clear hb2); (try clear hk); (try clear hi)) | ((with_reducible refine Gv.gate_load (t := 36) rfl ?_); (try (refine gate_guard (by rfl) ?_; dsimp only)); refine wpList_load_row rfl 36 _ rfl gb437 rfl 36 _ _ _ (by first | exact Gv.kb0 BK437.out | exact Gv.kb1 (Gv.kb0 BK437.out)) Try.underlying36 rfl (by kernel_rfl) ?_))
   go_ret
   exact ⟨Gv.rt, Gv.bw⟩
 ·replace c4 := Bool.eq_false_iff.mpr c4
  subst c4
  have H1 : (some (-1)) = some r := by rw [if_neg (show ¬ (false = true) by decide)] at H; exact H
  clear H
  have H := H1
  clear H1
  obtain rfl := Option.some.inj H
  have hmf : ∀ (fn : Fn) (first cap : Array Value) (w : World), (Instr.makeFunc fn first cap).run Try.prog w = .ok (.func fn first cap) w := fun _ _ _ _ => rfl
  go_enter Try.func15, Try.ntmps15
  go_wp2_with (first | ((with_reducible refine gate_dst (N := 3) rfl ?_); refine box_event ?hg (N := 3) ?hd (cs := #[.int .i64 a1_0, .int .i64 a1_1, .int .i64 a1_2, .int .i64 a1_3, .int .i64 a1_4, .int .i64 a1_5, .int .i64 a1_6, .int .i64 a1_7, .int .i64 a1_8, .int .i64 a1_9, .int .i64 a1_10, .int .i64 a1_11, .int .i64 a1_12]) (t := 36) ?hr ?_; (case hd => rfl); (case hg => rfl); (case hr => first | (go_simp; done) | (go_simp; rfl)); intro gb437 hg w17 hbox hb; have n0_ := Gv.a0 (below_step Gv.bw hb); have n1_ := Gv.a0 (hbox); have n2_ := Gv.a0 ((Gv.ble hg Gv.bw : w.heap.size ≤ gb437)); have n3_ := Gv.a0 ((Gv.ble hg Gv.bw : w.heap.size ≤ gb437)); clear HB; have HB := n0_; have BK437 := n1_; have GW437 := n2_; have GE437 := n3_; clear n0_ n1_ n2_ n3_; clear hb hbox hg) | ((with_reducible refine gate_store (t := 36) (p := 3) rfl ?_); refine Gv.store_event rfl rfl rfl rfl rfl (Gv.kb BK437.out) (by kernel_rfl) rfl (by simp; and_intros <;> rfl) ?_; intro w17s hbox hoth hbel; have n0_ := Gv.a0 (hbox); have n1_ := Gv.a0 (hbel w Gv.bw GE437.out); clear BK437 HB; have BK437 := n0_; have HB := n1_; clear n0_ n1_ hbox hoth hbel) | ((with_reducible refine gate_callee (f := 11) rfl ?_); refine goesL_ (some 6) rfl rfl Try.func11 (by kernel_rfl) rfl #[.slice A0 l0.length c0] rfl Gv.lm ?_; (with_reducible refine (impl_RulesOk.calls k _ _ l0 false _ ?side1 ?side2 A3.out).mono ?_); (case side1 => repeat (first | exact (Kd.C_below HR0.out HB.out) | (with_reducible refine Kd.C_alloc ?_ _) | (with_reducible refine Kd.C_drewN ?_ _) | (with_reducible refine Kd.C_drew ?_))); (case side2 => exact HC0.out); rintro e w18 ⟨rfl, hb⟩; refine ⟨_, rfl, ?_⟩; have n0_ := Gv.a0 (Gv.bb BK437.out hb); have n1_ := Gv.a0 (below_step Gv.bw hb); clear BK437; clear HB; have BK437 := n0_; have HB := n1_; clear n0_ n1_; (try clear hb); (try clear hb2); (try clear hk); (try clear hi)) | ((with_reducible refine Gv.gate_load (t := 36) rfl ?_); (try (refine gate_guard (by rfl) ?_; dsimp only)); refine wpList_load_row rfl 36 _ rfl gb437 rfl 36 _ _ _ (by first | exact Gv.kb0 BK437.out | exact Gv.kb1 (Gv.kb0 BK437.out)) Try.underlying36 rfl (by kernel_rfl) ?_))
  go_ret
  exact ⟨Gv.rt, Gv.bw⟩

/-! ### laws_FnExactRuleFor: function 4 -/
def laws_FnExactRuleFor.f (k : Nat) (l0 : List (S50)) (a1_0 : Int) (a1_1 : Int) (a1_2 : Int) (a1_3 : Int) (a1_4 : Int) (a1_5 : Int) (a1_6 : Int) (a1_7 : Int) (a1_8 : Int) (a1_9 : Int) (a1_10 : Int) (a1_11 : Int) (a1_12 : Int) : Option (Bool) := (laws_szRuleS.f l0 1048576).bind fun t442 => (if t442 < 0 then (some true) else ((laws_toRuleS.f k l0).bind fun t443 => ((laws_toKey.f a1_0 a1_1 a1_2 a1_3 a1_4 a1_5 a1_6 a1_7 a1_8 a1_9 a1_10 a1_11 a1_12).bind fun bt446 => ((spec_RuleFor.f k t443 bt446.1 bt446.2.1 bt446.2.2.1 bt446.2.2.2.1 bt446.2.2.2.2.1 bt446.2.2.2.2.2.1 bt446.2.2.2.2.2.2.1 bt446.2.2.2.2.2.2.2.1 bt446.2.2.2.2.2.2.2.2.1 bt446.2.2.2.2.2.2.2.2.2.1 bt446.2.2.2.2.2.2.2.2.2.2.1 bt446.2.2.2.2.2.2.2.2.2.2.2.1 bt446.2.2.2.2.2.2.2.2.2.2.2.2).bind fun t459 => ((laws_toRuleS.f k l0).bind fun t460 => ((laws_toKey.f a1_0 a1_1 a1_2 a1_3 a1_4 a1_5 a1_6 a1_7 a1_8 a1_9 a1_10 a1_11 a1_12).bind fun bt463 => ((impl_RuleFor.f k t460 bt463.1 bt463.2.1 bt463.2.2.1 bt463.2.2.2.1 bt463.2.2.2.2.1 bt463.2.2.2.2.2.1 bt463.2.2.2.2.2.2.1 bt463.2.2.2.2.2.2.2.1 bt463.2.2.2.2.2.2.2.2.1 bt463.2.2.2.2.2.2.2.2.2.1 bt463.2.2.2.2.2.2.2.2.2.2.1 bt463.2.2.2.2.2.2.2.2.2.2.2.1 bt463.2.2.2.2.2.2.2.2.2.2.2.2).bind fun t476 => (if t476 = t459 then ((laws_toRuleS.f k l0).bind fun t477 => ((laws_eqRuleS.f k t460 t477).bind fun t480 => (if t480 = true then (some true) else (none)))) else (none)))))))))
theorem laws_FnExactRuleFor.mono : ∀ a0 a1 a2 a3 a4 a5 a6 a7 a8 a9 a10 a11 a12 a13 k, LeO (laws_FnExactRuleFor.f k a0 a1 a2 a3 a4 a5 a6 a7 a8 a9 a10 a11 a12 a13) (laws_FnExactRuleFor.f (k + 1) a0 a1 a2 a3 a4 a5 a6 a7 a8 a9 a10 a11 a12 a13) := by
 intro a0 a1 a2 a3 a4 a5 a6 a7 a8 a9 a10 a11 a12 a13 k
 unfold laws_FnExactRuleFor.f
 repeat' first
   | (with_reducible exact impl_RuleFor.mono _ _ _ _ _ _ _ _ _ _ _ _ _ _ _)
   | (with_reducible exact laws_eqRuleS.mono _ _ _)
   | (with_reducible exact laws_toRuleS.mono _ _)
   | (with_reducible exact spec_RuleFor.mono _ _ _ _ _ _ _ _ _ _ _ _ _ _ _)
   | (with_reducible exact LeO.refl _)
   | (with_reducible exact LeO.none _)
   | (with_reducible refine LeO.ite ?_ ?_)
   | (with_reducible refine LeO.bind ?_ (fun _ => ?_))
   | exact impl_RuleFor.mono _ _ _ _ _ _ _ _ _ _ _ _ _ _ _
   | exact laws_eqRuleS.mono _ _ _
   | exact laws_toRuleS.mono _ _
   | exact spec_RuleFor.mono _ _ _ _ _ _ _ _ _ _ _ _ _ _ _
   | exact LeO.none _
   | refine LeO.ite ?_ ?_
   | refine LeO.bind ?_ (fun _ => ?_)
set_option maxHeartbeats 8000000 in
set_option maxRecDepth 100000 in
theorem laws_FnExactRuleFor.calls (k : Nat) (A0 : Option Addr) (c0 : Nat) (l0 : List (S50)) (a1_0 : Int) (a1_1 : Int) (a1_2 : Int) (a1_3 : Int) (a1_4 : Int) (a1_5 : Int) (a1_6 : Int) (a1_7 : Int) (a1_8 : Int) (a1_9 : Int) (a1_10 : Int) (a1_11 : Int) (a1_12 : Int) (r : Bool) (w : World) (hr0 : Kd.C k50 w A0 l0.length l0) (hc0 : l0.length ≤ c0) (h : laws_FnExactRuleFor.f k l0 a1_0 a1_1 a1_2 a1_3 a1_4 a1_5 a1_6 a1_7 a1_8 a1_9 a1_10 a1_11 a1_12 = some r) :
  Calls Try.prog 4 #[.slice A0 l0.length c0, .agg #[.int .i64 a1_0, .int .i64 a1_1, .int .i64 a1_2, .int .i64 a1_3, .int .i64 a1_4, .int .i64 a1_5, .int .i64 a1_6, .int .i64 a1_7, .int .i64 a1_8, .int .i64 a1_9, .int .i64 a1_10, .int .i64 a1_11, .int .i64 a1_12]] w fun e w' => e = .returned (.bool r) ∧ Below w.heap.size w w' := by
 have hu32 := Try.underlying32
 have HR0 := Gv.a0 hr0
 have HC0 := Gv.a0 hc0
 clear hr0 hc0
 have HB := Gv.a0 (Below.refl w.heap.size w)
 have H : ((laws_szRuleS.f l0 1048576).bind fun t442 => (if t442 < 0 then (some true) else ((laws_toRuleS.f k l0).bind fun t443 => ((laws_toKey.f a1_0 a1_1 a1_2 a1_3 a1_4 a1_5 a1_6 a1_7 a1_8 a1_9 a1_10 a1_11 a1_12).bind fun bt446 => ((spec_RuleFor.f k t443 bt446.1 bt446.2.1 bt446.2.2.1 bt446.2.2.2.1 bt446.2.2.2.2.1 bt446.2.2.2.2.2.1 bt446.2.2.2.2.2.2.1 bt446.2.2.2.2.2.2.2.1 bt446.2.2.2.2.2.2.2.2.1 bt446.2.2.2.2.2.2.2.2.2.1 bt446.2.2.2.2.2.2.2.2.2.2.1 bt446.2.2.2.2.2.2.2.2.2.2.2.1 bt446.2.2.2.2.2.2.2.2.2.2.2.2).bind fun t459 => ((laws_toRuleS.f k l0).bind fun t460 => ((laws_toKey.f a1_0 a1_1 a1_2 a1_3 a1_4 a1_5 a1_6 a1_7 a1_8 a1_9 a1_10 a1_11 a1_12).bind fun bt463 => ((impl_RuleFor.f k t460 bt463.1 bt463.2.1 bt463.2.2.1 bt463.2.2.2.1 bt463.2.2.2.2.1 bt463.2.2.2.2.2.1 bt463.2.2.2.2.2.2.1 bt463.2.2.2.2.2.2.2.1 bt463.2.2.2.2.2.2.2.2.1 bt463.2.2.2.2.2.2.2.2.2.1 bt463.2.2.2.2.2.2.2.2.2.2.1 bt463.2.2.2.2.2.2.2.2.2.2.2.1 bt463.2.2.2.2.2.2.2.2.2.2.2.2).bind fun t476 => (if t476 = t459 then ((laws_toRuleS.f k l0).bind fun t477 => ((laws_eqRuleS.f k t460 t477).bind fun t480 => (if t480 = true then (some true) else (none)))) else (none)))))))))) = some r := h
 clear h
 replace H := Option.bind_eq_some_iff.mp H
 obtain ⟨t442, A30, H⟩ := H
 replace H : (if t442 < 0 then (some true) else ((laws_toRuleS.f k l0).bind fun t443 => ((laws_toKey.f a1_0 a1_1 a1_2 a1_3 a1_4 a1_5 a1_6 a1_7 a1_8 a1_9 a1_10 a1_11 a1_12).bind fun bt446 => ((spec_RuleFor.f k t443 bt446.1 bt446.2.1 bt446.2.2.1 bt446.2.2.2.1 bt446.2.2.2.2.1 bt446.2.2.2.2.2.1 bt446.2.2.2.2.2.2.1 bt446.2.2.2.2.2.2.2.1 bt446.2.2.2.2.2.2.2.2.1 bt446.2.2.2.2.2.2.2.2.2.1 bt446.2.2.2.2.2.2.2.2.2.2.1 bt446.2.2.2.2.2.2.2.2.2.2.2.1 bt446.2.2.2.2.2.2.2.2.2.2.2.2).bind fun t459 => ((laws_toRuleS.f k l0).bind fun t460 => ((laws_toKey.f a1_0 a1_1 a1_2 a1_3 a1_4 a1_5 a1_6 a1_7 a1_8 a1_9 a1_10 a1_11 a1_12).bind fun bt463 => ((impl_RuleFor.f k t460 bt463.1 bt463.2.1 bt463.2.2.1 bt463.2.2.2.1 bt463.2.2.2.2.1 bt463.2.2.2.2.2.1 bt463.2.2.2.2.2.2.1 bt463.2.2.2.2.2.2.2.1 bt463.2.2.2.2.2.2.2.2.1 bt463.2.2.2.2.2.2.2.2.2.1 bt463.2.2.2.2.2.2.2.2.2.2.1 bt463.2.2.2.2.2.2.2.2.2.2.2.1 bt463.2.2.2.2.2.2.2.2.2.2.2.2).bind fun t476 => (if t476 = t459 then ((laws_toRuleS.f k l0).bind fun t477 => ((laws_eqRuleS.f k t460 t477).bind fun t480 => (if t480 = true then (some true) else (none)))) else (none))))))))) = some r := H
 have A3 := Gv.a0 A30
 clear A30
 by_cases c4 : t442 < 0
 ·rw [if_pos c4] at H
  have c4b0 : decide (t442 < 0) = true := decide_eq_true c4
  clear c4
  obtain rfl := Option.some.inj H
  go_enter Try.func4, Try.ntmps4
  go_wp2_with (first | ((with_reducible refine gate_dst (N := 3) rfl ?_); refine box_event ?hg (N := 3) ?hd (cs := #[.int .i64 a1_0, .int .i64 a1_1, .int .i64 a1_2, .int .i64 a1_3, .int .i64 a1_4, .int .i64 a1_5, .int .i64 a1_6, .int .i64 a1_7, .int .i64 a1_8, .int .i64 a1_9, .int .i64 a1_10, .int .i64 a1_11, .int .i64 a1_12]) (t := 32) ?hr ?_; (case hd => rfl); (case hg => rfl); (case hr => first | (go_simp; done) | (go_simp; rfl)); intro gb441 hg w5 hbox hb; have n0_ := Gv.a0 (below_step Gv.bw hb); have n1_ := Gv.a0 (hbox); have n2_ := Gv.a0 ((Gv.ble hg Gv.bw : w.heap.size ≤ gb441)); have n3_ := Gv.a0 ((Gv.ble hg Gv.bw : w.heap.size ≤ gb441)); clear HB; have HB := n0_; have BK441 := n1_; have GW441 := n2_; have GE441 := n3_; clear n0_ n1_ n2_ n3_; clear hb hbox hg) | ((with_reducible refine gate_callee (f := 8) rfl ?_); refine goesL_ (some 11) rfl rfl Try.func8 (by kernel_rfl) rfl #[.slice A0 l0.length c0, .int .i64 1048576] rfl Gv.lm ?_; (with_reducible refine (laws_szRuleS.calls _ _ l0 1048576 t442 _ ?side1 ?side2 A3.out).mono ?_); (case side1 => repeat (first | exact (Kd.C_below HR0.out HB.out) | (with_reducible refine Kd.C_alloc ?_ _) | (with_reducible refine Kd.C_drewN ?_ _) | (with_reducible refine Kd.C_drew ?_))); (case side2 => exact HC0.out); rintro e w' ⟨rfl, ⟨nd, rfl⟩⟩; refine ⟨_, rfl, ?_⟩))
  go_ret
  exact ⟨Gv.rt, Gv.bw⟩
 ·rw [if_neg c4] at H
  have c4b0 : decide (t442 < 0) = false := decide_eq_false c4
  clear c4
  replace H := Option.bind_eq_some_iff.mp H
  obtain ⟨t443, A60, H⟩ := H
  replace H : ((laws_toKey.f a1_0 a1_1 a1_2 a1_3 a1_4 a1_5 a1_6 a1_7 a1_8 a1_9 a1_10 a1_11 a1_12).bind fun bt446 => ((spec_RuleFor.f k t443 bt446.1 bt446.2.1 bt446.2.2.1 bt446.2.2.2.1 bt446.2.2.2.2.1 bt446.2.2.2.2.2.1 bt446.2.2.2.2.2.2.1 bt446.2.2.2.2.2.2.2.1 bt446.2.2.2.2.2.2.2.2.1 bt446.2.2.2.2.2.2.2.2.2.1 bt446.2.2.2.2.2.2.2.2.2.2.1 bt446.2.2.2.2.2.2.2.2.2.2.2.1 bt446.2.2.2.2.2.2.2.2.2.2.2.2).bind fun t459 => ((laws_toRuleS.f k l0).bind fun t460 => ((laws_toKey.f a1_0 a1_1 a1_2 a1_3 a1_4 a1_5 a1_6 a1_7 a1_8 a1_9 a1_10 a1_11 a1_12).bind fun bt463 => ((impl_RuleFor.f k t460 bt463.1 bt463.2.1 bt463.2.2.1 bt463.2.2.2.1 bt463.2.2.2.2.1 bt463.2.2.2.2.2.1 bt463.2.2.2.2.2.2.1 bt463.2.2.2.2.2.2.2.1 bt463.2.2.2.2.2.2.2.2.1 bt463.2.2.2.2.2.2.2.2.2.1 bt463.2.2.2.2.2.2.2.2.2.2.1 bt463.2.2.2.2.2.2.2.2.2.2.2.1 bt463.2.2.2.2.2.2.2.2.2.2.2.2).bind fun t476 => (if t476 = t459 then ((laws_toRuleS.f k l0).bind fun t477 => ((laws_eqRuleS.f k t460 t477).bind fun t480 => (if t480 = true then (some true) else (none)))) else (none))))))) = some r := H
  have A6 := Gv.a0 A60
  clear A60
  replace H := Option.bind_eq_some_iff.mp H
  obtain ⟨⟨t446, t447, t448, t449, t450, t451, t452, t453, t454, t455, t456, t457, t458⟩, A70, H⟩ := H
  replace H : ((spec_RuleFor.f k t443 t446 t447 t448 t449 t450 t451 t452 t453 t454 t455 t456 t457 t458).bind fun t459 => ((laws_toRuleS.f k l0).bind fun t460 => ((laws_toKey.f a1_0 a1_1 a1_2 a1_3 a1_4 a1_5 a1_6 a1_7 a1_8 a1_9 a1_10 a1_11 a1_12).bind fun bt463 => ((impl_RuleFor.f k t460 bt463.1 bt463.2.1 bt463.2.2.1 bt463.2.2.2.1 bt463.2.2.2.2.1 bt463.2.2.2.2.2.1 bt463.2.2.2.2.2.2.1 bt463.2.2.2.2.2.2.2.1 bt463.2.2.2.2.2.2.2.2.1 bt463.2.2.2.2.2.2.2.2.2.1 bt463.2.2.2.2.2.2.2.2.2.2.1 bt463.2.2.2.2.2.2.2.2.2.2.2.1 bt463.2.2.2.2.2.2.2.2.2.2.2.2).bind fun t476 => (if t476 = t459 then ((laws_toRuleS.f k l0).bind fun t477 => ((laws_eqRuleS.f k t460 t477).bind fun t480 => (if t480 = true then (some true) else (none)))) else (none)))))) = some r := H
  have A7 := Gv.a0 A70
  clear A70
  replace H := Option.bind_eq_some_iff.mp H
  obtain ⟨t459, A80, H⟩ := H
  replace H : ((laws_toRuleS.f k l0).bind fun t460 => ((laws_toKey.f a1_0 a1_1 a1_2 a1_3 a1_4 a1_5 a1_6 a1_7 a1_8 a1_9 a1_10 a1_11 a1_12).bind fun bt463 => ((impl_RuleFor.f k t460 bt463.1 bt463.2.1 bt463.2.2.1 bt463.2.2.2.1 bt463.2.2.2.2.1 bt463.2.2.2.2.2.1 bt463.2.2.2.2.2.2.1 bt463.2.2.2.2.2.2.2.1 bt463.2.2.2.2.2.2.2.2.1 bt463.2.2.2.2.2.2.2.2.2.1 bt463.2.2.2.2.2.2.2.2.2.2.1 bt463.2.2.2.2.2.2.2.2.2.2.2.1 bt463.2.2.2.2.2.2.2.2.2.2.2.2).bind fun t476 => (if t476 = t459 then ((laws_toRuleS.f k l0).bind fun t477 => ((laws_eqRuleS.f k t460 t477).bind fun t480 => (if t480 = true then (some true) else (none)))) else (none))))) = some r := H
  have A8 := Gv.a0 A80
  clear A80
  replace H := Option.bind_eq_some_iff.mp H
  obtain ⟨t460, A90, H⟩ := H
  replace H : ((laws_toKey.f a1_0 a1_1 a1_2 a1_3 a1_4 a1_5 a1_6 a1_7 a1_8 a1_9 a1_10 a1_11 a1_12).bind fun bt463 => ((impl_RuleFor.f k t460 bt463.1 bt463.2.1 bt463.2.2.1 bt463.2.2.2.1 bt463.2.2.2.2.1 bt463.2.2.2.2.2.1 bt463.2.2.2.2.2.2.1 bt463.2.2.2.2.2.2.2.1 bt463.2.2.2.2.2.2.2.2.1 bt463.2.2.2.2.2.2.2.2.2.1 bt463.2.2.2.2.2.2.2.2.2.2.1 bt463.2.2.2.2.2.2.2.2.2.2.2.1 bt463.2.2.2.2.2.2.2.2.2.2.2.2).bind fun t476 => (if t476 = t459 then ((laws_toRuleS.f k l0).bind fun t477 => ((laws_eqRuleS.f k t460 t477).bind fun t480 => (if t480 = true then (some true) else (none)))) else (none)))) = some r := H
  have A9 := Gv.a0 A90
  clear A90
  replace H := Option.bind_eq_some_iff.mp H
  obtain ⟨⟨t463, t464, t465, t466, t467, t468, t469, t470, t471, t472, t473, t474, t475⟩, A100, H⟩ := H
  replace H : ((impl_RuleFor.f k t460 t463 t464 t465 t466 t467 t468 t469 t470 t471 t472 t473 t474 t475).bind fun t476 => (if t476 = t459 then ((laws_toRuleS.f k l0).bind fun t477 => ((laws_eqRuleS.f k t460 t477).bind fun t480 => (if t480 = true then (some true) else (none)))) else (none))) = some r := H
  have A10 := Gv.a0 A100
  clear A100
  replace H := Option.bind_eq_some_iff.mp H
  obtain ⟨t476, A110, H⟩ := H
  replace H : (if t476 = t459 then ((laws_toRuleS.f k l0).bind fun t477 => ((laws_eqRuleS.f k t460 t477).bind fun t480 => (if t480 = true then (some true) else (none)))) else (none)) = some r := H
  have A11 := Gv.a0 A110
  clear A110
  by_cases c12 : t476 = t459
  ·rw [if_pos c12] at H
   have c12b0 : (t476 == t459) = true := beq_iff_eq.mpr c12
   have c12b1 : (t476 != t459) = false := bne_eq_false_iff_eq.mpr c12
   clear c12
   replace H := Option.bind_eq_some_iff.mp H
   obtain ⟨t477, A130, H⟩ := H
   replace H : ((laws_eqRuleS.f k t460 t477).bind fun t480 => (if t480 = true then (some true) else (none))) = some r := H
   have A13 := Gv.a0 A130
   clear A130
   replace H := Option.bind_eq_some_iff.mp H
   obtain ⟨t480, A140, H⟩ := H
   replace H : (if t480 = true then (some true) else (none)) = some r := H
   have A14 := Gv.a0 A140
   clear A140
   by_cases c15 : t480 = true
   ·subst c15
    have H1 : (some true) = some r := by rw [if_pos rfl] at H; exact H
    clear H
    have H := H1
    clear H1
    obtain rfl := Option.some.inj H
    go_enter Try.func4, Try.ntmps4
    try go_wp2_with (first | ((with_reducible refine gate_dst (N := 3) rfl ?_); refine box_event ?hg (N := 3) ?hd (cs := #[.int .i64 a1_0, .int .i64 a1_1, .int .i64 a1_2, .int .i64 a1_3, .int .i64 a1_4, .int .i64 a1_5, .int .i64 a1_6, .int .i64 a1_7, .int .i64 a1_8, .int .i64 a1_9, .int .i64 a1_10, .int .i64 a1_11, .int .i64 a1_12]) (t := 32) ?hr ?_; (case hd => rfl); (case hg => rfl); (case hr => first | (go_simp; done) | (go_simp; rfl)); intro gb441 hg w16 hbox hb; have n0_ := Gv.a0 (below_step Gv.bw hb); have n1_ := Gv.a0 (hbox); have n2_ := Gv.a0 ((Gv.ble hg Gv.bw : w.heap.size ≤ gb441)); have n3_ := Gv.a0 ((Gv.ble hg Gv.bw : w.heap.size ≤ gb441)); clear HB; have HB := n0_; have BK441 := n1_; have GW441 := n2_; have GE441 := n3_; clear n0_ n1_ n2_ n3_; clear hb hbox hg) | ((with_reducible refine gate_callee (f := 8) rfl ?_); refine goesL_ (some 11) rfl rfl Try.func8 (by kernel_rfl) rfl #[.slice A0 l0.length c0, .int .i64 1048576] rfl Gv.lm ?_; (with_reducible refine (laws_szRuleS.calls _ _ l0 1048576 t442 _ ?side1 ?side2 A3.out).mono ?_); (case side1 => repeat (first | exact (Kd.C_below HR0.out HB.out) | (with_reducible refine Kd.C_alloc ?_ _) | (with_reducible refine Kd.C_drewN ?_ _) | (with_reducible refine Kd.C_drew ?_))); (case side2 => exact HC0.out); rintro e w' ⟨rfl, ⟨nd, rfl⟩⟩; refine ⟨_, rfl, ?_⟩))
    (try (rw [drewN_self w16]; generalize hq_ : World.drewN w16 _ = w16; have n0_ : Aside0 (w16.heap[gb441]? = some (.cells #[.int .i64 a1_0, .int .i64 a1_1, .int .i64 a1_2, .int .i64 a1_3, .int .i64 a1_4, .int .i64 a1_5, .int .i64 a1_6, .int .i64 a1_7, .int .i64 a1_8, .int .i64 a1_9, .int .i64 a1_10, .int .i64 a1_11, .int .i64 a1_12] 32 (0, 0))) := ⟨by rw [← hq_]; exact Gv.bk⟩; have n1_ : Aside0 (Below w.heap.size w w16) := ⟨by rw [← hq_]; exact Gv.bw⟩; clear BK441 HB hq_; have BK441 := n0_; have HB := n1_; clear n0_ n1_))
    have n0_ := Gv.a0 (blk_drew BK441.out)
    have n1_ := Gv.a0 (below_drew1 HB.out)
    clear BK441
    clear HB
    have BK441 := n0_
    have HB := n1_
    clear n0_ n1_
    refine start_ (n := 6) (S := fun w' => w'.cell? ⟨gb441, 0, none⟩ = some (.int .i64 a1_0) ∧ w'.cell? ⟨gb441, 1, none⟩ = some (.int .i64 a1_1) ∧ w'.cell? ⟨gb441, 2, none⟩ = some (.int .i64 a1_2) ∧ w'.cell? ⟨gb441, 3, none⟩ = some (.int .i64 a1_3) ∧ w'.cell? ⟨gb441, 4, none⟩ = some (.int .i64 a1_4) ∧ w'.cell? ⟨gb441, 5, none⟩ = some (.int .i64 a1_5) ∧ w'.cell? ⟨gb441, 6, none⟩ = some (.int .i64 a1_6) ∧ w'.cell? ⟨gb441, 7, none⟩ = some (.int .i64 a1_7) ∧ w'.cell? ⟨gb441, 8, none⟩ = some (.int .i64 a1_8) ∧ w'.cell? ⟨gb441, 9, none⟩ = some (.int .i64 a1_9) ∧ w'.cell? ⟨gb441, 10, none⟩ = some (.int .i64 a1_10) ∧ w'.cell? ⟨gb441, 11, none⟩ = some (.int .i64 a1_11) ∧ w'.cell? ⟨gb441, 12, none⟩ = some (.int .i64 a1_12)) (ds := []) #[false, false, false, false, false, false] (by kernel_rfl) rfl rfl ⟨(blk_cell BK441.out 0).trans rfl, (blk_cell BK441.out 1).trans rfl, (blk_cell BK441.out 2).trans rfl, (blk_cell BK441.out 3).trans rfl, (blk_cell BK441.out 4).trans rfl, (blk_cell BK441.out 5).trans rfl, (blk_cell BK441.out 6).trans rfl, (blk_cell BK441.out 7).trans rfl, (blk_cell BK441.out 8).trans rfl, (blk_cell BK441.out 9).trans rfl, (blk_cell BK441.out 10).trans rfl, (blk_cell BK441.out 11).trans rfl, (blk_cell BK441.out 12).trans rfl⟩ (fun hHeld => ?_)
    generalize w16.drew = w17 at BK441 HB hHeld ⊢
    refine pure_ (i := 0) (N := some 14) (v := ?_) (a' := ?_) #[true, false, false, false, false, false] rfl rfl (by kernel_rfl) (fun _ _ _ h => h) (Or.inl ⟨by rfl, ?_⟩) ?_ ?_
    rotate_left
    ·intro w'
     go_simp
     with_reducible rfl
    rotate_left
    ·simp only [Act.put, List.setIfInBounds_toArray, List.set_cons_zero, List.set_cons_succ, i64_w, i32_w]
     rfl
    refine take_ (i := 2) (N := some 16) (v := ?_) (a' := ?_) #[true, false, true, false, false, false] rfl rfl (by kernel_rfl) (fun _ _ _ h => h) (Or.inl ⟨by rfl, ?_⟩) hHeld ?_ ?_
    rotate_left
    ·rintro w' ⟨s0, s1, s2, s3, s4, s5, s6, s7, s8, s9, s10, s11, s12⟩
     first | ((refine Gv.load_run (t := 32) (A := ⟨gb441, 0, none⟩) (cs := [_, _, _, _, _, _, _, _, _, _, _, _, _]) (x := ?xx51_) ?ho51_ ?hx51_ ⟨s0, s1, s2, s3, s4, s5, s6, s7, s8, s9, s10, s11, s12, trivial⟩ Try.underlying32 rfl (by kernel_rfl)); (case ho51_ => rfl); (case hx51_ => rfl)) | (go_simp; with_reducible rfl)
    rotate_left
    ·simp only [Act.put, List.setIfInBounds_toArray, List.set_cons_zero, List.set_cons_succ, i64_w, i32_w]
     rfl
    refine one_ (i := 1) (N := some 15) #[true, true, true, false, false, false] rfl rfl (by kernel_rfl) (by decide) (fun K hK => ?_)
    refine goes_ Try.func10 (by kernel_rfl) rfl #[.slice A0 l0.length c0] (by rfl) rfl rfl Gv.lm ?_
    with_reducible refine (laws_toRuleS.calls k _ _ l0 t443 _ ?side1 ?side2 A6.out).mono ?_
    (case side1 => repeat (first | exact (Kd.C_below HR0.out HB.out) | (with_reducible refine Kd.C_alloc ?_ _) | (with_reducible refine Kd.C_drewN ?_ _) | (with_reducible refine Kd.C_drew ?_)))
    (case side2 => exact HC0.out)
    rintro e w18 ⟨v444, rfl, ho0, hb⟩
    refine ⟨_, rfl, ?_⟩
    have n0_ := Gv.a0 (Kd.R_lower ho0 (below_size Gv.bw))
    have n1_ := Gv.a0 (Gv.bb BK441.out hb)
    have n2_ := Gv.a0 (below_step Gv.bw hb)
    clear BK441
    clear HB
    have HO445 := n0_
    have BK441 := n1_
    have HB := n2_
    clear n0_ n1_ n2_
    (try clear hb)
    (try clear hb2)
    (try clear hk)
    (try clear hi)
    (try clear ho0)
    refine hK.out _ _ ⟨(blk_cell BK441.out 0).trans rfl, (blk_cell BK441.out 1).trans rfl, (blk_cell BK441.out 2).trans rfl, (blk_cell BK441.out 3).trans rfl, (blk_cell BK441.out 4).trans rfl, (blk_cell BK441.out 5).trans rfl, (blk_cell BK441.out 6).trans rfl, (blk_cell BK441.out 7).trans rfl, (blk_cell BK441.out 8).trans rfl, (blk_cell BK441.out 9).trans rfl, (blk_cell BK441.out 10).trans rfl, (blk_cell BK441.out 11).trans rfl, (blk_cell BK441.out 12).trans rfl⟩ (fun hHeld => ?_)
    clear hK K
    refine norm_ (a' := ?_) ?_ ?_
    rotate_left
    ·show Act.put _ (some 15) _ = _
     simp only [Act.put, List.setIfInBounds_toArray, List.set_cons_zero, List.set_cons_succ, i64_w, i32_w]
     rfl
    refine one_ (i := 3) (N := some 17) #[true, true, true, true, false, false] rfl rfl (by kernel_rfl) (by decide) (fun K hK => ?_)
    refine goes_ Try.func14 (by kernel_rfl) rfl #[.agg #[.int .i64 a1_0, .int .i64 a1_1, .int .i64 a1_2, .int .i64 a1_3, .int .i64 a1_4, .int .i64 a1_5, .int .i64 a1_6, .int .i64 a1_7, .int .i64 a1_8, .int .i64 a1_9, .int .i64 a1_10, .int .i64 a1_11, .int .i64 a1_12]] (by rfl) rfl rfl Gv.lm ?_
    with_reducible refine (laws_toKey.calls a1_0 a1_1 a1_2 a1_3 a1_4 a1_5 a1_6 a1_7 a1_8 a1_9 a1_10 a1_11 a1_12 t446 t447 t448 t449 t450 t451 t452 t453 t454 t455 t456 t457 t458 _ A7.out).mono ?_
    rintro e w19 ⟨rfl, hb⟩
    refine ⟨_, rfl, ?_⟩
    have n0_ := Gv.a0 (Kd.R_below (Gv.kr HO445.out) hb)
    have n1_ := Gv.a0 (Gv.bb BK441.out hb)
    have n2_ := Gv.a0 (below_step Gv.bw hb)
    clear HO445
    clear BK441
    clear HB
    have HO445 := n0_
    have BK441 := n1_
    have HB := n2_
    clear n0_ n1_ n2_
    (try clear hb)
    (try clear hb2)
    (try clear hk)
    (try clear hi)
    obtain ⟨Ao20, co20, eo20⟩ := Kd.R_slice HO445.out
    (first | subst eo20 | (injection eo20 with f1_ f2_ f3_; have f4_ := f1_.symm; have f5_ := f3_.symm; clear f1_ f2_ f3_; subst f4_; subst f5_))
    refine hK.out _ _ ⟨(blk_cell BK441.out 0).trans rfl, (blk_cell BK441.out 1).trans rfl, (blk_cell BK441.out 2).trans rfl, (blk_cell BK441.out 3).trans rfl, (blk_cell BK441.out 4).trans rfl, (blk_cell BK441.out 5).trans rfl, (blk_cell BK441.out 6).trans rfl, (blk_cell BK441.out 7).trans rfl, (blk_cell BK441.out 8).trans rfl, (blk_cell BK441.out 9).trans rfl, (blk_cell BK441.out 10).trans rfl, (blk_cell BK441.out 11).trans rfl, (blk_cell BK441.out 12).trans rfl⟩ (fun hHeld => ?_)
    clear hK K
    refine norm_ (a' := ?_) ?_ ?_
    rotate_left
    ·show Act.put _ (some 17) _ = _
     simp only [Act.put, List.setIfInBounds_toArray, List.set_cons_zero, List.set_cons_succ, i64_w, i32_w]
     rfl
    refine one_ (i := 4) (N := some 18) #[true, true, true, true, true, false] rfl rfl (by kernel_rfl) (by decide) (fun K hK => ?_)
    refine goes_ Try.func13 (by kernel_rfl) rfl #[.slice Ao20 t443.length co20, .agg #[.int .i64 t446, .int .i64 t447, .int .i64 t448, .int .i64 t449, .int .i64 t450, .int .i64 t451, .int .i64 t452, .int .i64 t453, .int .i64 t454, .int .i64 t455, .int .i64 t456, .int .i64 t457, .int .i64 t458]] (by rfl) rfl rfl Gv.lm ?_
    with_reducible refine (spec_RuleFor.calls k _ _ t443 t446 t447 t448 t449 t450 t451 t452 t453 t454 t455 t456 t457 t458 t459 _ ?side1 ?side2 A8.out).mono ?_
    (case side1 => repeat (first | exact (Kd.R_reads' HO445.out).2.2 | (with_reducible refine Kd.C_alloc ?_ _) | (with_reducible refine Kd.C_drewN ?_ _) | (with_reducible refine Kd.C_drew ?_)))
    (case side2 => exact (Kd.R_reads' HO445.out).2.1)
    rintro e w21 ⟨rfl, hb⟩
    refine ⟨_, rfl, ?_⟩
    have n0_ := Gv.a0 (Kd.R_below (Gv.kr HO445.out) hb)
    have n1_ := Gv.a0 (Gv.bb BK441.out hb)
    have n2_ := Gv.a0 (below_step Gv.bw hb)
    clear HO445
    clear BK441
    clear HB
    have HO445 := n0_
    have BK441 := n1_
    have HB := n2_
    clear n0_ n1_ n2_
    (try clear hb)
    (try clear hb2)
    (try clear hk)
    (try clear hi)
    refine hK.out _ _ ⟨(blk_cell BK441.out 0).trans rfl, (blk_cell BK441.out 1).trans rfl, (blk_cell BK441.out 2).trans rfl, (blk_cell BK441.out 3).trans rfl, (blk_cell BK441.out 4).trans rfl, (blk_cell BK441.out 5).trans rfl, (blk_cell BK441.out 6).trans rfl, (blk_cell BK441.out 7).trans rfl, (blk_cell BK441.out 8).trans rfl, (blk_cell BK441.out 9).trans rfl, (blk_cell BK441.out 10).trans rfl, (blk_cell BK441.out 11).trans rfl, (blk_cell BK441.out 12).trans rfl⟩ (fun hHeld => ?_)
    clear hK K
    refine norm_ (a' := ?_) ?_ ?_
    rotate_left
    ·show Act.put _ (some 18) _ = _
     simp only [Act.put, List.setIfInBounds_toArray, List.set_cons_zero, List.set_cons_succ, i64_w, i32_w]
     rfl
    refine pure_ (i := 5) (N := some 6) (v := ?_) (a' := ?_) #[true, true, true, true, true, true] rfl rfl (by kernel_rfl) (fun _ _ _ h => h) (Or.inl ⟨by rfl, ?_⟩) ?_ ?_
    rotate_left
    ·intro w'
     go_simp
     with_reducible rfl
    rotate_left
    ·simp only [Act.put, List.setIfInBounds_toArray, List.set_cons_zero, List.set_cons_succ, i64_w, i32_w]
     rfl
    refine done_ (by kernel_rfl) ?_
    try go_wp2_with (first | ((with_reducible refine gate_callee (f := 10) rfl ?_); refine goesL_ (some 20) rfl rfl Try.func10 (by kernel_rfl) rfl #[.slice A0 l0.length c0] rfl Gv.lm ?_; (with_reducible refine (laws_toRuleS.calls k _ _ l0 t460 _ ?side1 ?side2 A9.out).mono ?_); (case side1 => repeat (first | exact (Kd.C_below HR0.out HB.out) | (with_reducible refine Kd.C_alloc ?_ _) | (with_reducible refine Kd.C_drewN ?_ _) | (with_reducible refine Kd.C_drew ?_))); (case side2 => exact HC0.out); rintro e w22 ⟨v461, rfl, ho0, hb⟩; refine ⟨_, rfl, ?_⟩; have n0_ := Gv.a0 (Kd.R_elder' (Gv.kr HO445.out) (Kd.R_base ho0) hb); have n1_ := Gv.a0 (Kd.R_lower (Kd.R_new' ho0 (Kd.R_lt (Gv.kr HO445.out))) (below_size Gv.bw)); have n2_ := Gv.a0 (Gv.bb BK441.out hb); have n3_ := Gv.a0 (below_step Gv.bw hb); clear HO445; clear BK441; clear HB; have HO445 := n0_; have HO462 := n1_; have BK441 := n2_; have HB := n3_; clear n0_ n1_ n2_ n3_; (try clear hb); (try clear hb2); (try clear hk); (try clear hi); (try clear ho0); obtain ⟨hcz23_0, hcz23_1, hcz23_2, hcz23_3, hcz23_4, hcz23_5, hcz23_6, hcz23_7, hcz23_8, hcz23_9, hcz23_10, hcz23_11, hcz23_12⟩ := Gv.c13 BK441.out; obtain ⟨hfz23_0, hfz23_1, hfz23_2, hfz23_3, hfz23_4, hfz23_5, hfz23_6, hfz23_7, hfz23_8, hfz23_9, hfz23_10, hfz23_11, hfz23_12⟩ := Gv.f13 BK441.out) | ((with_reducible refine gate_callee (f := 14) rfl ?_); refine goesL_ (some 23) rfl rfl Try.func14 (by kernel_rfl) rfl #[.agg #[.int .i64 a1_0, .int .i64 a1_1, .int .i64 a1_2, .int .i64 a1_3, .int .i64 a1_4, .int .i64 a1_5, .int .i64 a1_6, .int .i64 a1_7, .int .i64 a1_8, .int .i64 a1_9, .int .i64 a1_10, .int .i64 a1_11, .int .i64 a1_12]] rfl Gv.lm ?_; (with_reducible refine (laws_toKey.calls a1_0 a1_1 a1_2 a1_3 a1_4 a1_5 a1_6 a1_7 a1_8 a1_9 a1_10 a1_11 a1_12 t463 t464 t465 t466 t467 t468 t469 t470 t471 t472 t473 t474 t475 _ A10.out).mono ?_); rintro e w24 ⟨rfl, hb⟩; refine ⟨_, rfl, ?_⟩; have n0_ := Gv.a0 (Kd.R_below (Gv.kr HO445.out) hb); have n1_ := Gv.a0 (Kd.R_below (Gv.kr HO462.out) hb); have n2_ := Gv.a0 (Gv.bb BK441.out hb); have n3_ := Gv.a0 (below_step Gv.bw hb); clear HO445; clear HO462; clear BK441; clear HB; have HO445 := n0_; have HO462 := n1_; have BK441 := n2_; have HB := n3_; clear n0_ n1_ n2_ n3_; (try clear hb); (try clear hb2); (try clear hk); (try clear hi); obtain ⟨Ao25, co25, eo25⟩ := Kd.R_slice HO462.out; subst eo25) | ((with_reducible refine gate_callee (f := 15) rfl ?_); refine goesL_ (some 24) rfl rfl Try.func15 (by kernel_rfl) rfl #[.slice Ao25 t460.length co25, .agg #[.int .i64 t463, .int .i64 t464, .int .i64 t465, .int .i64 t466, .int .i64 t467, .int .i64 t468, .int .i64 t469, .int .i64 t470, .int .i64 t471, .int .i64 t472, .int .i64 t473, .int .i64 t474, .int .i64 t475]] rfl Gv.lm ?_; (with_reducible refine (impl_RuleFor.calls k _ _ t460 t463 t464 t465 t466 t467 t468 t469 t470 t471 t472 t473 t474 t475 t476 _ ?side1 ?side2 A11.out).mono ?_); (case side1 => repeat (first | exact (Kd.R_reads' HO462.out).2.2 | (with_reducible refine Kd.C_alloc ?_ _) | (with_reducible refine Kd.C_drewN ?_ _) | (with_reducible refine Kd.C_drew ?_))); (case side2 => exact (Kd.R_reads' HO462.out).2.1); rintro e w26 ⟨rfl, hb⟩; refine ⟨_, rfl, ?_⟩; have n0_ := Gv.a0 (Kd.R_below (Gv.kr HO445.out) hb); have n1_ := Gv.a0 (Kd.R_below (Gv.kr HO462.out) hb); have n2_ := Gv.a0 (Gv.bb BK441.out hb); have n3_ := Gv.a0 (below_step Gv.bw hb); clear HO445; clear HO462; clear BK441; clear HB; have HO445 := n0_; have HO462 := n1_; have BK441 := n2_; have HB := n3_; clear n0_ n1_ n2_ n3_; (try clear hb); (try clear hb2); (try clear hk); (try clear hi)) | ((with_reducible refine gate_callee (f := 10) rfl ?_); refine goesL_ (some 30) rfl rfl Try.func10 (by kernel_rfl) rfl #[.slice A0 l0.length c0] rfl Gv.lm ?_; (with_reducible refine (laws_toRuleS.calls k _ _ l0 t477 _ ?side1 ?side2 A13.out).mono ?_); (case side1 => repeat (first | exact (Kd.C_below HR0.out HB.out) | (with_reducible refine Kd.C_alloc ?_ _) | (with_reducible refine Kd.C_drewN ?_ _) | (with_reducible refine Kd.C_drew ?_))); (case side2 => exact HC0.out); rintro e w27 ⟨v478, rfl, ho0, hb⟩; refine ⟨_, rfl, ?_⟩; have n0_ := Gv.a0 (Kd.R_elder' (Gv.kr HO445.out) (Kd.R_base ho0) hb); have n1_ := Gv.a0 (Kd.R_elder' (Gv.kr HO462.out) (Kd.R_base ho0) hb); have n2_ := Gv.a0 (Kd.R_lower (Kd.R_new' (Kd.R_new' ho0 (Kd.R_lt (Gv.kr HO445.out))) (Kd.R_lt (Gv.kr HO462.out))) (below_size Gv.bw)); have n3_ := Gv.a0 (Gv.bb BK441.out hb); have n4_ := Gv.a0 (below_step Gv.bw hb); clear HO445; clear HO462; clear BK441; clear HB; have HO445 := n0_; have HO462 := n1_; have HO479 := n2_; have BK441 := n3_; have HB := n4_; clear n0_ n1_ n2_ n3_ n4_; (try clear hb); (try clear hb2); (try clear hk); (try clear hi); (try clear ho0); obtain ⟨Ao28, co28, eo28⟩ := Kd.R_slice HO479.out; subst eo28) | ((with_reducible refine gate_callee (f := 12) rfl ?_); refine goesL_ (some 31) rfl rfl Try.func12 (by kernel_rfl) rfl #[.slice Ao25 t460.length co25, .slice Ao28 t477.length co28] rfl Gv.lm ?_; (with_reducible refine (laws_eqRuleS.calls k _ _ t460 _ _ t477 true _ ?side1 ?side2 ?side3 ?side4 A14.out).mono ?_); (case side1 => repeat (first | exact (Kd.R_reads' HO462.out).2.2 | (with_reducible refine Kd.C_alloc ?_ _) | (with_reducible refine Kd.C_drewN ?_ _) | (with_reducible refine Kd.C_drew ?_))); (case side2 => exact (Kd.R_reads' HO462.out).2.1); (case side3 => repeat (first | exact (Kd.R_reads' HO479.out).2.2 | (with_reducible refine Kd.C_alloc ?_ _) | (with_reducible refine Kd.C_drewN ?_ _) | (with_reducible refine Kd.C_drew ?_))); (case side4 => exact (Kd.R_reads' HO479.out).2.1); rintro e w29 ⟨rfl, hb⟩; refine ⟨_, rfl, ?_⟩; have n0_ := Gv.a0 (Kd.R_below (Gv.kr HO445.out) hb); have n1_ := Gv.a0 (Kd.R_below (Gv.kr HO462.out) hb); have n2_ := Gv.a0 (Kd.R_below (Gv.kr HO479.out) hb); have n3_ := Gv.a0 (Gv.bb BK441.out hb); have n4_ := Gv.a0 (below_step Gv.bw hb); clear HO445; clear HO462; clear HO479; clear BK441; clear HB; have HO445 := n0_; have HO462 := n1_; have HO479 := n2_; have BK441 := n3_; have HB := n4_; clear n0_ n1_ n2_ n3_ n4_; (try clear hb); (try clear hb2); (try clear hk); (try clear hi)))
    go_ret
    exact ⟨Gv.rt, Gv.bw⟩
   ·replace c15 := Bool.eq_false_iff.mpr c15
    subst c15
    have H1 : (none) = some r := by rw [if_neg (show ¬ (false = true) by decide)] at H; exact H
    clear H
    have H := H1
    clear H1
    exact absurd H (by simp)
  ·rw [if_neg c12] at H
   exact absurd H (by simp)

end Go.Proofs.Ytbihbbkdciebhaa.PRf
