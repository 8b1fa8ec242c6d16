/- Plain Lean functions of a law's Go functions, their contracts, by a program of this session (wip/pr.py over the kit's print). -/
import Derived.Test.YtfnpodebjejhpaaPTnx0
import Derived.Test.YtfnpodebjejhpaaPTnx4
namespace Go.Proofs.Ytfnpodebjejhpaa.PTn
open Go.RowKit Go.Proofs.YtfnpodebjejhpaaW.PrintWords Go.Proofs.YtfnpodebjejhpaaW.PrintLast Go.Proofs.YtfnpodebjejhpaaW.PrintMore
attribute [local go_sem] max2_int min2_int max_two min_two max_three min_three max_four min_four   -- for this text's walks alone
set_option linter.unusedVariables false
set_option linter.unusedSimpArgs false

/-! ### laws_eqTable: function 20 -/
def laws_eqTable.f (k : Nat) (a0_0 : Int) (l0_1 : List (S75)) (a1_0 : Int) (l1_1 : List (S75)) : Option (Bool) := if a0_0 = a1_0 then ((laws_eqCellS.f k l0_1 l1_1).bind fun t241 => (if t241 = true then (some true) else (none))) else (none)
theorem laws_eqTable.mono : ∀ a0 a1 a2 a3 k, LeO (laws_eqTable.f k a0 a1 a2 a3) (laws_eqTable.f (k + 1) a0 a1 a2 a3) := by
 intro a0 a1 a2 a3 k
 unfold laws_eqTable.f
 repeat' first
   | (with_reducible exact laws_eqCellS.mono _ _ _)
   | (with_reducible exact LeO.refl _)
   | (with_reducible exact LeO.none _)
   | (with_reducible refine LeO.ite ?_ ?_)
   | (with_reducible refine LeO.bind ?_ (fun _ => ?_))
   | exact laws_eqCellS.mono _ _ _
   | exact LeO.none _
   | refine LeO.ite ?_ ?_
   | refine LeO.bind ?_ (fun _ => ?_)
set_option maxHeartbeats 8000000 in
set_option maxRecDepth 100000 in
theorem laws_eqTable.calls (k : Nat) (a0_0 : Int) (A0_1 : Option Addr) (c0_1 : Nat) (l0_1 : List (S75)) (a1_0 : Int) (A1_1 : Option Addr) (c1_1 : Nat) (l1_1 : List (S75)) (r : Bool) (w : World) (hr0_1 : Kd.C k75 w A0_1 l0_1.length l0_1) (hc0_1 : l0_1.length ≤ c0_1) (hr1_1 : Kd.C k75 w A1_1 l1_1.length l1_1) (hc1_1 : l1_1.length ≤ c1_1) (h : laws_eqTable.f k a0_0 l0_1 a1_0 l1_1 = some r) :
  Calls Try.prog 20 #[.agg #[.int .i64 a0_0, .slice A0_1 l0_1.length c0_1], .agg #[.int .i64 a1_0, .slice A1_1 l1_1.length c1_1]] w fun e w' => e = .returned (.bool r) ∧ Below w.heap.size w w' := by
 have hu40 := Try.underlying40
 have HR0_1 := Gv.a0 hr0_1
 have HC0_1 := Gv.a0 hc0_1
 clear hr0_1 hc0_1
 have HR1_1 := Gv.a0 hr1_1
 have HC1_1 := Gv.a0 hc1_1
 clear hr1_1 hc1_1
 have HB := Gv.a0 (Below.refl w.heap.size w)
 have H : (if a0_0 = a1_0 then ((laws_eqCellS.f k l0_1 l1_1).bind fun t241 => (if t241 = true then (some true) else (none))) else (none)) = some r := h
 clear h
 by_cases c3 : a0_0 = a1_0
 ·rw [if_pos c3] at H
  have c3b0 : (a0_0 == a1_0) = true := beq_iff_eq.mpr c3
  have c3b1 : (a0_0 != a1_0) = false := bne_eq_false_iff_eq.mpr c3
  clear c3
  replace H := Option.bind_eq_some_iff.mp H
  obtain ⟨t241, A40, H⟩ := H
  replace H : (if t241 = true then (some true) else (none)) = some r := H
  have A4 := Gv.a0 A40
  clear A40
  by_cases c5 : t241 = true
  ·subst c5
   have H1 : (some true) = some r := by rw [if_pos rfl] at H; exact H
   clear H
   have H := H1
   clear H1
   obtain rfl := Option.some.inj H
   go_enter Try.func20, Try.ntmps20
   go_wp2_with (first | ((with_reducible refine gate_dst (N := 2) rfl ?_); refine box_event ?hg (N := 2) ?hd (cs := #[.int .i64 a0_0, .slice A0_1 l0_1.length c0_1]) (t := 40) ?hr ?_; (case hd => rfl); (case hg => rfl); (case hr => first | (go_simp; done) | (go_simp; rfl)); intro gb239 hg w6 hbox hb; have n0_ := Gv.a0 (below_step Gv.bw hb); have n1_ := Gv.a0 (hbox); have n2_ := Gv.a0 ((Gv.ble hg Gv.bw : w.heap.size ≤ gb239)); have n3_ := Gv.a0 ((Gv.ble hg Gv.bw : w.heap.size ≤ gb239)); clear HB; have HB := n0_; have BK239 := n1_; have GW239 := n2_; have GE239 := n3_; clear n0_ n1_ n2_ n3_; clear hb hbox hg) | ((with_reducible refine gate_dst (N := 3) rfl ?_); refine box_event ?hg (N := 3) ?hd (cs := #[.int .i64 a1_0, .slice A1_1 l1_1.length c1_1]) (t := 40) ?hr ?_; (case hd => rfl); (case hg => rfl); (case hr => first | (go_simp; done) | (go_simp; rfl)); intro gb240 hg w7 hbox hb; have n0_ := Gv.a0 (Gv.bb BK239.out hb); have n1_ := Gv.a0 (below_step Gv.bw hb); have n2_ := Gv.a0 (hbox); have n3_ := Gv.a0 ((Gv.ble hg Gv.bw : w.heap.size ≤ gb240)); have n4_ := Gv.a0 ((Gv.ble hg Gv.bw : w.heap.size ≤ gb240)); have n5_ := Gv.a0 ((Gv.nlt hg (Gv.kb BK239.out) : gb239 ≠ gb240)); have n6_ := Gv.a0 ((Gv.ngt hg (Gv.kb BK239.out) : gb240 ≠ gb239)); clear BK239; clear HB; have BK239 := n0_; have HB := n1_; have BK240 := n2_; have GW240 := n3_; have GE240 := n4_; have NB239_240 := n5_; have NB240_239 := n6_; clear n0_ n1_ n2_ n3_ n4_ n5_ n6_; clear hb hbox hg; have hnb8 := NB239_240.out; have hnc8 := NB240_239.out; have hcz9_0 : w7.cell? ⟨gb239, 0, none⟩ = some (.int .i64 a0_0) := (blk_cell BK239.out 0).trans rfl; have hcz9_1 : w7.cell? ⟨gb239, 1, none⟩ = some (.slice A0_1 l0_1.length c0_1) := (blk_cell BK239.out 1).trans rfl; have hfz9_0 := blk_frozen BK239.out 0; have hfz9_1 := blk_frozen BK239.out 1; have hcz10_0 : w7.cell? ⟨gb240, 0, none⟩ = some (.int .i64 a1_0) := (blk_cell BK240.out 0).trans rfl; have hcz10_1 : w7.cell? ⟨gb240, 1, none⟩ = some (.slice A1_1 l1_1.length c1_1) := (blk_cell BK240.out 1).trans rfl; have hfz10_0 := blk_frozen BK240.out 0; have hfz10_1 := blk_frozen BK240.out 1) | ((with_reducible refine gate_callee (f := 49) rfl ?_); refine goesL_ (some 14) rfl rfl Try.func49 (by kernel_rfl) rfl #[.slice A0_1 l0_1.length c0_1, .slice A1_1 l1_1.length c1_1] rfl Gv.lm ?_; (with_reducible refine (laws_eqCellS.calls k _ _ l0_1 _ _ l1_1 true _ ?side1 ?side2 ?side3 ?side4 A4.out).mono ?_); (case side1 => repeat (first | exact (Kd.C_below HR0_1.out HB.out) | (with_reducible refine Kd.C_alloc ?_ _) | (with_reducible refine Kd.C_drewN ?_ _) | (with_reducible refine Kd.C_drew ?_))); (case side2 => exact HC0_1.out); (case side3 => repeat (first | exact (Kd.C_below HR1_1.out HB.out) | (with_reducible refine Kd.C_alloc ?_ _) | (with_reducible refine Kd.C_drewN ?_ _) | (with_reducible refine Kd.C_drew ?_))); (case side4 => exact HC1_1.out); rintro e w11 ⟨rfl, hb⟩; refine ⟨_, rfl, ?_⟩; have n0_ := Gv.a0 (Gv.bb BK239.out hb); have n1_ := Gv.a0 (Gv.bb BK240.out hb); have n2_ := Gv.a0 (below_step Gv.bw hb); clear BK239; clear BK240; clear HB; have BK239 := n0_; have BK240 := n1_; have HB := n2_; clear n0_ n1_ n2_; (try clear hb); (try clear hb2); (try clear hk); (try clear hi)))
   go_ret
   exact ⟨Gv.rt, Gv.bw⟩
  ·replace c5 := Bool.eq_false_iff.mpr c5
   subst c5
   have H1 : (none) = some r := by rw [if_neg (show ¬ (false = true) by decide)] at H; exact H
   clear H
   have H := H1
   clear H1
   exact absurd H (by simp)
 ·rw [if_neg c3] at H
  exact absurd H (by simp)

/-! ### laws_markCellS: function 50 -/
def laws_markCellS.f (l0 : List (S75)) (a1 : Int) : Option (Int × (List (S75))) := some (Gv.stepN (Gv.stepN Gv.nx 16) l0.length a1, Gv.mkL (fun a : Int => (⟨(Int.tmod (Gv.stepN Gv.nx 0 a) 3 == 0), (⟨(Gv.stepN Gv.nx 1 a), (⟨(⟨(Gv.stepN Gv.nx 2 a), (Gv.stepN Gv.nx 3 a), (Gv.stepN Gv.nx 4 a), (Gv.stepN Gv.nx 5 a), (Gv.stepN Gv.nx 6 a)⟩ : S29), (⟨(Gv.stepN Gv.nx 7 a), (Gv.stepN Gv.nx 8 a), (Gv.stepN Gv.nx 9 a), (Gv.stepN Gv.nx 10 a), (Gv.stepN Gv.nx 11 a)⟩ : S29), (Gv.stepN Gv.nx 12 a), (Gv.stepN Gv.nx 13 a), (Gv.stepN Gv.nx 14 a)⟩ : S31)⟩ : S33), (Gv.stepN Gv.nx 15 a)⟩ : S75)) (Gv.stepN Gv.nx 16) l0.length a1)
set_option maxHeartbeats 8000000 in
set_option maxRecDepth 100000 in
theorem laws_markCellS.calls (P0_ : Nat → Prop) (u9000_ : Value) (l0 : List (S75)) (a1 : Int) (r1 : Int) (r2 : List (S75)) (w0 w : World) (hB : Below w0.heap.size w0 w) (ho0 : Kd.R k75 75 w w0.heap.size P0_ u9000_ l0) (h : laws_markCellS.f l0 a1 = some (r1, r2)) :
  Calls Try.prog 50 #[u9000_, .int .i64 a1] w fun e w' => e = .returned (.int .i64 r1) ∧ Kd.R k75 75 w' w0.heap.size (fun k_ => (P0_ k_ ∨ w.heap.size ≤ k_)) u9000_ r2 ∧ Below w0.heap.size w0 w' ∧ Kept w w' (fun k_ => P0_ k_) := by
 obtain ⟨rfl, rfl⟩ := Prod.mk.inj (Option.some.inj h)
 clear h
 obtain ⟨hok, inner, ⟨hlen, ho⟩, hrep⟩ := ho0
 rcases ho with ⟨rfl, hz⟩ | ⟨g, cap, cur, rfl, hbase, hg, hnc, hcm, hsz, htk⟩
 ·have hl : l0 = [] := List.length_eq_zero_iff.1 hz
  subst hl
  have HB := Gv.a0 hB
  clear hrep hok hlen hB
  go_enter Try.func50, Try.ntmps50
  go_wp2
  go_loopg [1, 5] 0 (fun gg s1 s5 wr => s1 = .int .i64 a1 ∧ s5 = .int .i64 0 ∧ wr = w)
  case atStart => exact ⟨rfl, rfl, rfl⟩
  case round =>
   obtain ⟨rfl, rfl, rfl⟩ := hrel
   go_wp2_with fail
   go_ret
   exact ⟨rfl, Kd.R_nil _ _ _ _ _, HB.out, Kept.refl _ _⟩
 ·have hS : l0.length * 16 ≤ cap * 16 := Nat.mul_le_mul_right _ hnc
  have hN : inner.length = l0.length * 16 := hlen
  have hP : P0_ g := hok g rfl
  have hle : w0.heap.size ≤ g := hbase
  have hcap : cap ≤ 9223372036854775807 := by
   unfold maxLen at hcm
   omega
  have HM0 := Gv.a0 (show Gv.MK w0 w g 75 (l0.length * 16) (cap * 16) inner w [] 0 from ⟨rfl, ⟨cur, hg, hsz, htk⟩, fun _ _ => rfl, hB, Nat.le_refl _⟩)
  have HF := Gv.a0 (And.intro hnc (And.intro hcm hP))
  clear hok hlen hrep hbase hg hcm hsz htk hB hP hnc
  go_enter Try.func50, Try.ntmps50
  go_wp2
  go_loopg [1, 5] l0.length (fun gg s1 s5 wr => ∃ kk : Nat, kk ≤ l0.length ∧ l0.length - kk ≤ gg ∧ s1 = .int .i64 (Gv.stepN (Gv.stepN Gv.nx 16) kk a1) ∧ s5 = .int .i64 kk ∧ Aside0 (Gv.MK w0 w g 75 (l0.length * 16) (cap * 16) inner wr ((Gv.mkL (fun a : Int => (⟨(Int.tmod (Gv.stepN Gv.nx 0 a) 3 == 0), (⟨(Gv.stepN Gv.nx 1 a), (⟨(⟨(Gv.stepN Gv.nx 2 a), (Gv.stepN Gv.nx 3 a), (Gv.stepN Gv.nx 4 a), (Gv.stepN Gv.nx 5 a), (Gv.stepN Gv.nx 6 a)⟩ : S29), (⟨(Gv.stepN Gv.nx 7 a), (Gv.stepN Gv.nx 8 a), (Gv.stepN Gv.nx 9 a), (Gv.stepN Gv.nx 10 a), (Gv.stepN Gv.nx 11 a)⟩ : S29), (Gv.stepN Gv.nx 12 a), (Gv.stepN Gv.nx 13 a), (Gv.stepN Gv.nx 14 a)⟩ : S31)⟩ : S33), (Gv.stepN Gv.nx 15 a)⟩ : S75)) (Gv.stepN Gv.nx 16) kk a1).flatMap (fun x : S75 => ([.bool x.f0, .int .i64 x.f1.f0, .int .i64 x.f1.f1.f0.f0, .int .i64 x.f1.f1.f0.f1, .int .i64 x.f1.f1.f0.f2, .int .i64 x.f1.f1.f0.f3, .int .i64 x.f1.f1.f0.f4, .int .i64 x.f1.f1.f1.f0, .int .i64 x.f1.f1.f1.f1, .int .i64 x.f1.f1.f1.f2, .int .i64 x.f1.f1.f1.f3, .int .i64 x.f1.f1.f1.f4, .int .i64 x.f1.f1.f2, .int .i64 x.f1.f1.f3, .int .i64 x.f1.f1.f4, .int .i64 x.f2] : List Value))) (kk * 16)))
  case atStart => exact ⟨0, Nat.zero_le _, by omega, rfl, rfl, ⟨HM0.out⟩⟩
  case round =>
   obtain ⟨kk, hkk, hgg, rfl, rfl, HM⟩ := hrel
   obtain ⟨x_, hx_⟩ : ∃ x_, x_ = Gv.stepN (Gv.stepN Gv.nx 16) kk a1 := ⟨_, rfl⟩
   rw [← hx_]
   obtain ⟨done, hd_⟩ : ∃ d_, d_ = (Gv.mkL (fun a : Int => (⟨(Int.tmod (Gv.stepN Gv.nx 0 a) 3 == 0), (⟨(Gv.stepN Gv.nx 1 a), (⟨(⟨(Gv.stepN Gv.nx 2 a), (Gv.stepN Gv.nx 3 a), (Gv.stepN Gv.nx 4 a), (Gv.stepN Gv.nx 5 a), (Gv.stepN Gv.nx 6 a)⟩ : S29), (⟨(Gv.stepN Gv.nx 7 a), (Gv.stepN Gv.nx 8 a), (Gv.stepN Gv.nx 9 a), (Gv.stepN Gv.nx 10 a), (Gv.stepN Gv.nx 11 a)⟩ : S29), (Gv.stepN Gv.nx 12 a), (Gv.stepN Gv.nx 13 a), (Gv.stepN Gv.nx 14 a)⟩ : S31)⟩ : S33), (Gv.stepN Gv.nx 15 a)⟩ : S75)) (Gv.stepN Gv.nx 16) kk a1).flatMap (fun x : S75 => ([.bool x.f0, .int .i64 x.f1.f0, .int .i64 x.f1.f1.f0.f0, .int .i64 x.f1.f1.f0.f1, .int .i64 x.f1.f1.f0.f2, .int .i64 x.f1.f1.f0.f3, .int .i64 x.f1.f1.f0.f4, .int .i64 x.f1.f1.f1.f0, .int .i64 x.f1.f1.f1.f1, .int .i64 x.f1.f1.f1.f2, .int .i64 x.f1.f1.f1.f3, .int .i64 x.f1.f1.f1.f4, .int .i64 x.f1.f1.f2, .int .i64 x.f1.f1.f3, .int .i64 x.f1.f1.f4, .int .i64 x.f2] : List Value)) := ⟨_, rfl⟩
   rw [← hd_] at HM
   have HX := Gv.a0 hx_
   have HD := Gv.a0 hd_
   clear hx_ hd_
   by_cases hlt : kk < l0.length
   ·have hltz : (kk : Int) < (l0.length : Int) := by omega
    have hk0 : 0 ≤ (kk : Int) := by omega
    go_wp2_with (first | ((with_reducible refine gate_store (t := 3) rfl ?_); refine Gv.mark_event rfl rfl rfl rfl rfl (.inl ⟨_, _, rfl⟩) (by kernel_rfl) HM.out hS hN (by omega) (by omega) hle ?_; intro wm hM; have HM' := Gv.a0 hM; clear hM HM; have HM := HM'; clear HM') | ((with_reducible refine gate_store (t := 4) rfl ?_); refine Gv.mark_event rfl rfl rfl rfl rfl (.inr ⟨_, rfl⟩) (by kernel_rfl) HM.out hS hN (by omega) (by omega) hle ?_; intro wm hM; have HM' := Gv.a0 hM; clear hM HM; have HM := HM'; clear HM'))
    go_roundg (l0.length - (kk + 1))
    case measure => omega
    case rel =>
     refine ⟨kk + 1, by omega, by omega, by rw [Gv.stepN, ← HX.out]; rfl, by go_num, ⟨?_⟩⟩
     have hm := HM.out
     rw [HD.out] at hm
     rw [Gv.mkL, List.flatMap_append, ← HX.out, Nat.succ_mul]
     simp only [List.append_assoc, List.cons_append, List.nil_append] at hm
     exact hm
   ·have hk : kk = l0.length := by omega
    have hltz : ¬ (kk : Int) < (l0.length : Int) := by omega
    have HK := Gv.a0 hk
    clear hk
    go_wp2_with fail
    go_ret
    obtain ⟨h1, ⟨cur, h2, h3, h4⟩, h5, h6, h7⟩ := HM.out
    have hk := HK.out
    subst hk
    rw [HX.out]
    rw [HD.out, List.drop_eq_nil_of_le (by omega), List.append_nil] at h4
    refine ⟨rfl, ⟨fun k hk => ?_, _, ⟨?_, .inr ⟨g, cap, cur, ?_, hle, h2, ?_, HF.out.2.1, h3, ?_⟩⟩, Gv.mkL_reps _ _ _ (fun x => k75_mkM _ _ _ x) (fun _ => rfl) _⟩, h6, h7, fun i hi hni => h5 i (fun e => hni (by rw [e]; exact HF.out.2.2))⟩
    ·have : g = k := by simpa [Value.ownBlock] using hk
     subst this
     exact .inl HF.out.2.2
    ·rw [← HD.out, h1, Gv.mkL_length]; rfl
    ·rw [Gv.mkL_length]
    ·rw [Gv.mkL_length]; exact HF.out.1
    ·rw [Gv.mkL_length]; exact h4

/-! ### laws_markTable: function 21 -/
def laws_markTable.f (a0_0 : Int) (l0_1 : List (S75)) (a1 : Int) : Option (Int × (List (S75))) := (laws_markCellS.f l0_1 a1).bind fun bt244 => (some (bt244.1, bt244.2))
set_option maxHeartbeats 8000000 in
set_option maxRecDepth 100000 in
theorem laws_markTable.calls (a0_0 : Int) (P0_1_ : Nat → Prop) (u9000_ : Value) (l0_1 : List (S75)) (a1 : Int) (r1 : Int) (r2 : List (S75)) (w0 w : World) (hB : Below w0.heap.size w0 w) (ho0_1 : Kd.R k75 75 w w0.heap.size P0_1_ u9000_ l0_1) (h : laws_markTable.f a0_0 l0_1 a1 = some (r1, r2)) :
  Calls Try.prog 21 #[.agg #[.int .i64 a0_0, u9000_], .int .i64 a1] w fun e w' => e = .returned (.int .i64 r1) ∧ Kd.R k75 75 w' w0.heap.size (fun k_ => (P0_1_ k_ ∨ w.heap.size ≤ k_)) u9000_ r2 ∧ Below w0.heap.size w0 w' ∧ Kept w w' (fun k_ => P0_1_ k_) := by
 have hu40 := Try.underlying40
 have HO0_1 := Gv.a0 (show Kd.R k75 75 w w0.heap.size (fun k_ => (P0_1_ k_ ∨ w.heap.size ≤ k_)) u9000_ l0_1 from Kd.R_mono ho0_1 (fun k_ hk => (.inl hk)))
 have HK := Gv.a0 (Kept.refl w (fun k_ => P0_1_ k_))
 have HW0 := Gv.a0 hB.size
 have HB := Gv.a0 hB
 clear hB
 have H : ((laws_markCellS.f l0_1 a1).bind fun bt244 => (some (bt244.1, bt244.2))) = some (r1, r2) := h
 clear h
 replace H := Option.bind_eq_some_iff.mp H
 obtain ⟨⟨t244, t245⟩, A30, H⟩ := H
 replace H : (some (t244, t245)) = some (r1, r2) := H
 have A3 := Gv.a0 A30
 clear A30
 simp only [Option.some.injEq, Prod.mk.injEq] at H
 obtain ⟨rfl, rfl⟩ := H
 obtain ⟨Ao4, co4, eo4⟩ := Kd.R_slice HO0_1.out
 subst eo4
 go_enter Try.func21, Try.ntmps21
 go_wp2_with (first | ((with_reducible refine gate_dst (N := 2) rfl ?_); refine box_event ?hg (N := 2) ?hd (cs := #[.int .i64 a0_0, .slice Ao4 l0_1.length co4]) (t := 40) ?hr ?_; (case hd => rfl); (case hg => rfl); (case hr => first | (go_simp; done) | (go_simp; rfl)); intro gb243 hg w5 hbox hb; have n0_ := Gv.a0 (Kd.R_below (Gv.kr HO0_1.out) hb); have n1_ := Gv.a0 (Kept.below (S := (fun k_ => P0_1_ k_)) (by repeat (first | (with_reducible first | exact HK.out | apply Kept.alloc | apply Kept.drewN | apply Kept.drew) | exact HK.out)) hb); have n2_ := Gv.a0 (below_step Gv.bw hb); have n3_ := Gv.a0 (hbox); have n4_ := Gv.a0 ((by rw [hg]; exact (by first | exact HK.out.1 | exact (show Kept w _ (fun k_ => P0_1_ k_) from by repeat (first | (with_reducible first | exact HK.out | apply Kept.alloc | apply Kept.drewN | apply Kept.drew) | exact HK.out)).1) : w.heap.size ≤ gb243)); have n5_ := Gv.a0 ((Gv.ble hg Gv.bw : w0.heap.size ≤ gb243)); clear HO0_1; clear HK; clear HB; have HO0_1 := n0_; have HK := n1_; have HB := n2_; have BK243 := n3_; have GW243 := n4_; have GE243 := n5_; clear n0_ n1_ n2_ n3_ n4_ n5_; clear hb hbox hg; have hcz6_0 : w5.cell? ⟨gb243, 0, none⟩ = some (.int .i64 a0_0) := (blk_cell BK243.out 0).trans rfl; have hcz6_1 : w5.cell? ⟨gb243, 1, none⟩ = some (.slice Ao4 l0_1.length co4) := (blk_cell BK243.out 1).trans rfl; have hfz6_0 := blk_frozen BK243.out 0; have hfz6_1 := blk_frozen BK243.out 1) | ((with_reducible refine gate_callee (f := 50) rfl ?_); refine goesL_ (some 8) rfl rfl Try.func50 (by kernel_rfl) rfl #[.slice Ao4 l0_1.length co4, .int .i64 a1] rfl Gv.lm ?_; (with_reducible refine (laws_markCellS.calls (fun k_ => some k_ = (.slice Ao4 l0_1.length co4 : Value).ownBlock) (.slice Ao4 l0_1.length co4) l0_1 a1 t244 t245 w0 _ ?side1 ?side2 A3.out).mono ?_); (case side1 => repeat (first | (with_reducible first | exact HB.out | apply below_alloc | apply pw_below_drewN | apply below_drew1 | refine below_set ?_ GE243.out) | exact HB.out)); (case side2 => exact Kd.R_tight rfl HO0_1.out); rintro e w7 ⟨rfl, hy0, hb, hkp⟩; refine ⟨_, rfl, ?_⟩; have n0_ := Gv.a0 (Kd.R_reok rfl hy0 (fun k_ e_ => HO0_1.out.1 k_ e_)); have n1_ := Gv.a0 (blk_kept Gv.bk hkp (fun hs_ => (fun e_ => (Kd.R_ne HO0_1.out BK243.out (by decide)) e_) hs_)); have n2_ := Gv.a0 (Kept.then_ (S := (fun k_ => P0_1_ k_)) (by repeat (first | (with_reducible first | exact HK.out | apply Kept.alloc | apply Kept.drewN | apply Kept.drew | refine Kept.setCell ?_ (.inr GW243.out) _) | exact HK.out)) hkp (fun k_ hs_ => (fun e_ => (HO0_1.out.1 k_ e_.symm)) hs_)); have n3_ := Gv.a0 (hb); clear HO0_1; clear BK243; clear HK; clear HB; have HO0_1 := n0_; have BK243 := n1_; have HK := n2_; have HB := n3_; clear n0_ n1_ n2_ n3_; (try clear hb); (try clear hkp); (try clear hy0)))
 go_ret
 exact ⟨Gv.rt, Gv.kr HO0_1.out, Gv.bw, by repeat (first | (with_reducible first | exact HK.out | apply Kept.alloc | apply Kept.drewN | apply Kept.drew | refine Kept.setCell ?_ (.inr GW243.out) _) | exact HK.out)⟩

/-! ### laws_heldCellS: function 51 -/
def laws_heldCellS.f (l0 : List (S75)) (a1 : Int) : Option (Int) := Gv.heldL (fun (x : S75) (a : Int) => (x.f0 == (Int.tmod (Gv.stepN Gv.nx 0 a) 3 == 0)) && (decide (x.f1.f0 = Gv.stepN Gv.nx 1 a) && (decide (x.f1.f1.f0.f0 = Gv.stepN Gv.nx 2 a) && (decide (x.f1.f1.f0.f1 = Gv.stepN Gv.nx 3 a) && (decide (x.f1.f1.f0.f2 = Gv.stepN Gv.nx 4 a) && (decide (x.f1.f1.f0.f3 = Gv.stepN Gv.nx 5 a) && (decide (x.f1.f1.f0.f4 = Gv.stepN Gv.nx 6 a) && (decide (x.f1.f1.f1.f0 = Gv.stepN Gv.nx 7 a) && (decide (x.f1.f1.f1.f1 = Gv.stepN Gv.nx 8 a) && (decide (x.f1.f1.f1.f2 = Gv.stepN Gv.nx 9 a) && (decide (x.f1.f1.f1.f3 = Gv.stepN Gv.nx 10 a) && (decide (x.f1.f1.f1.f4 = Gv.stepN Gv.nx 11 a) && (decide (x.f1.f1.f2 = Gv.stepN Gv.nx 12 a) && (decide (x.f1.f1.f3 = Gv.stepN Gv.nx 13 a) && (decide (x.f1.f1.f4 = Gv.stepN Gv.nx 14 a) && (decide (x.f2 = Gv.stepN Gv.nx 15 a))))))))))))))))) (Gv.stepN Gv.nx 16) l0 a1
set_option maxHeartbeats 8000000 in
set_option maxRecDepth 100000 in
theorem laws_heldCellS.calls (A0 : Option Addr) (c0 : Nat) (l0 : List (S75)) (a1 : Int) (r : Int) (w : World) (hr0 : Kd.C k75 w A0 l0.length l0) (hc0 : l0.length ≤ c0) (h : laws_heldCellS.f l0 a1 = some r) :
  Calls Try.prog 51 #[.slice A0 l0.length c0, .int .i64 a1] w fun e w' => e = .returned (.int .i64 r) ∧ Below w.heap.size w w' := by
 have hlm := hr0.2.1
 have HR0 := Gv.a0 hr0
 have H0 := Gv.a0 h
 clear hr0 h hc0
 go_enter Try.func51, Try.ntmps51
 go_wp2
 go_loopg [1, 5] l0.length (fun gg s1 s5 wr => ∃ (kk : Nat) (x_ : Int), kk ≤ l0.length ∧ l0.length - kk ≤ gg ∧ s1 = .int .i64 x_ ∧ s5 = .int .i64 kk ∧ Aside0 (Gv.heldL (fun (x : S75) (a : Int) => (x.f0 == (Int.tmod (Gv.stepN Gv.nx 0 a) 3 == 0)) && (decide (x.f1.f0 = Gv.stepN Gv.nx 1 a) && (decide (x.f1.f1.f0.f0 = Gv.stepN Gv.nx 2 a) && (decide (x.f1.f1.f0.f1 = Gv.stepN Gv.nx 3 a) && (decide (x.f1.f1.f0.f2 = Gv.stepN Gv.nx 4 a) && (decide (x.f1.f1.f0.f3 = Gv.stepN Gv.nx 5 a) && (decide (x.f1.f1.f0.f4 = Gv.stepN Gv.nx 6 a) && (decide (x.f1.f1.f1.f0 = Gv.stepN Gv.nx 7 a) && (decide (x.f1.f1.f1.f1 = Gv.stepN Gv.nx 8 a) && (decide (x.f1.f1.f1.f2 = Gv.stepN Gv.nx 9 a) && (decide (x.f1.f1.f1.f3 = Gv.stepN Gv.nx 10 a) && (decide (x.f1.f1.f1.f4 = Gv.stepN Gv.nx 11 a) && (decide (x.f1.f1.f2 = Gv.stepN Gv.nx 12 a) && (decide (x.f1.f1.f3 = Gv.stepN Gv.nx 13 a) && (decide (x.f1.f1.f4 = Gv.stepN Gv.nx 14 a) && (decide (x.f2 = Gv.stepN Gv.nx 15 a))))))))))))))))) (Gv.stepN Gv.nx 16) (l0.drop kk) x_ = some r) ∧ Aside0 (Drawn0 w wr))
 case atStart => exact ⟨0, a1, Nat.zero_le _, by omega, rfl, rfl, ⟨H0.out⟩, ⟨Drawn0.refl w⟩⟩
 case round =>
  obtain ⟨kk, z0, hkk, hg, rfl, rfl, HN, HD⟩ := hrel
  by_cases hlt : kk < l0.length
  ·have hltz : (kk : Int) < (l0.length : Int) := by omega
   have hk0 : 0 ≤ (kk : Int) := by omega
   obtain ⟨ad, e1, hx0, hx1, hx2, hx3, hx4, hx5, hx6, hx7, hx8, hx9, hx10, hx11, hx12, hx13, hx14, hx15⟩ := at_T75 (Kd.C_below HR0.out HD.out.below) (kk : Int) hk0 hltz
   cases e1
   obtain ⟨y_, hy_⟩ : ∃ y_, y_ = rd_T75 l0 kk := ⟨_, rfl⟩
   rw [← hy_, Int.toNat_natCast] at hx0 hx1 hx2 hx3 hx4 hx5 hx6 hx7 hx8 hx9 hx10 hx11 hx12 hx13 hx14 hx15
   have hN := HN.out
   have hget : l0.drop kk = y_ :: l0.drop (kk + 1) := by
    rw [hy_, List.drop_eq_getElem_cons hlt]
    congr 1
    unfold rd_T75
    rw [Int.toNat_natCast, List.getD_eq_getElem?_getD, List.getElem?_eq_getElem hlt]
    rfl
   rw [hget, Gv.heldL] at hN
   clear hget hy_ HN
   by_cases hq : (fun (x : S75) (a : Int) => (x.f0 == (Int.tmod (Gv.stepN Gv.nx 0 a) 3 == 0)) && (decide (x.f1.f0 = Gv.stepN Gv.nx 1 a) && (decide (x.f1.f1.f0.f0 = Gv.stepN Gv.nx 2 a) && (decide (x.f1.f1.f0.f1 = Gv.stepN Gv.nx 3 a) && (decide (x.f1.f1.f0.f2 = Gv.stepN Gv.nx 4 a) && (decide (x.f1.f1.f0.f3 = Gv.stepN Gv.nx 5 a) && (decide (x.f1.f1.f0.f4 = Gv.stepN Gv.nx 6 a) && (decide (x.f1.f1.f1.f0 = Gv.stepN Gv.nx 7 a) && (decide (x.f1.f1.f1.f1 = Gv.stepN Gv.nx 8 a) && (decide (x.f1.f1.f1.f2 = Gv.stepN Gv.nx 9 a) && (decide (x.f1.f1.f1.f3 = Gv.stepN Gv.nx 10 a) && (decide (x.f1.f1.f1.f4 = Gv.stepN Gv.nx 11 a) && (decide (x.f1.f1.f2 = Gv.stepN Gv.nx 12 a) && (decide (x.f1.f1.f3 = Gv.stepN Gv.nx 13 a) && (decide (x.f1.f1.f4 = Gv.stepN Gv.nx 14 a) && (decide (x.f2 = Gv.stepN Gv.nx 15 a))))))))))))))))) y_ z0 = true
   ·rw [if_pos hq] at hN
    simp only [Bool.and_eq_true, decide_eq_true_eq, beq_iff_eq] at hq
    obtain ⟨q0, q1, q2, q3, q4, q5, q6, q7, q8, q9, q10, q11, q12, q13, q14, q15⟩ := hq
    have e0 : Gv.stepN Gv.nx 0 z0 = z0 := rfl
    obtain ⟨z1, hw1⟩ : ∃ z_, IntKind.i64.wrap (z0 + 1) = z_ := ⟨_, rfl⟩
    have e1 : Gv.stepN Gv.nx 1 z0 = z1 := by rw [Gv.stepN, e0]; first | exact hw1 | exact (i64_w _).symm.trans hw1
    obtain ⟨z2, hw2⟩ : ∃ z_, IntKind.i64.wrap (z1 + 1) = z_ := ⟨_, rfl⟩
    have e2 : Gv.stepN Gv.nx 2 z0 = z2 := by rw [Gv.stepN, e1]; first | exact hw2 | exact (i64_w _).symm.trans hw2
    obtain ⟨z3, hw3⟩ : ∃ z_, IntKind.i64.wrap (z2 + 1) = z_ := ⟨_, rfl⟩
    have e3 : Gv.stepN Gv.nx 3 z0 = z3 := by rw [Gv.stepN, e2]; first | exact hw3 | exact (i64_w _).symm.trans hw3
    obtain ⟨z4, hw4⟩ : ∃ z_, IntKind.i64.wrap (z3 + 1) = z_ := ⟨_, rfl⟩
    have e4 : Gv.stepN Gv.nx 4 z0 = z4 := by rw [Gv.stepN, e3]; first | exact hw4 | exact (i64_w _).symm.trans hw4
    obtain ⟨z5, hw5⟩ : ∃ z_, IntKind.i64.wrap (z4 + 1) = z_ := ⟨_, rfl⟩
    have e5 : Gv.stepN Gv.nx 5 z0 = z5 := by rw [Gv.stepN, e4]; first | exact hw5 | exact (i64_w _).symm.trans hw5
    obtain ⟨z6, hw6⟩ : ∃ z_, IntKind.i64.wrap (z5 + 1) = z_ := ⟨_, rfl⟩
    have e6 : Gv.stepN Gv.nx 6 z0 = z6 := by rw [Gv.stepN, e5]; first | exact hw6 | exact (i64_w _).symm.trans hw6
    obtain ⟨z7, hw7⟩ : ∃ z_, IntKind.i64.wrap (z6 + 1) = z_ := ⟨_, rfl⟩
    have e7 : Gv.stepN Gv.nx 7 z0 = z7 := by rw [Gv.stepN, e6]; first | exact hw7 | exact (i64_w _).symm.trans hw7
    obtain ⟨z8, hw8⟩ : ∃ z_, IntKind.i64.wrap (z7 + 1) = z_ := ⟨_, rfl⟩
    have e8 : Gv.stepN Gv.nx 8 z0 = z8 := by rw [Gv.stepN, e7]; first | exact hw8 | exact (i64_w _).symm.trans hw8
    obtain ⟨z9, hw9⟩ : ∃ z_, IntKind.i64.wrap (z8 + 1) = z_ := ⟨_, rfl⟩
    have e9 : Gv.stepN Gv.nx 9 z0 = z9 := by rw [Gv.stepN, e8]; first | exact hw9 | exact (i64_w _).symm.trans hw9
    obtain ⟨z10, hw10⟩ : ∃ z_, IntKind.i64.wrap (z9 + 1) = z_ := ⟨_, rfl⟩
    have e10 : Gv.stepN Gv.nx 10 z0 = z10 := by rw [Gv.stepN, e9]; first | exact hw10 | exact (i64_w _).symm.trans hw10
    obtain ⟨z11, hw11⟩ : ∃ z_, IntKind.i64.wrap (z10 + 1) = z_ := ⟨_, rfl⟩
    have e11 : Gv.stepN Gv.nx 11 z0 = z11 := by rw [Gv.stepN, e10]; first | exact hw11 | exact (i64_w _).symm.trans hw11
    obtain ⟨z12, hw12⟩ : ∃ z_, IntKind.i64.wrap (z11 + 1) = z_ := ⟨_, rfl⟩
    have e12 : Gv.stepN Gv.nx 12 z0 = z12 := by rw [Gv.stepN, e11]; first | exact hw12 | exact (i64_w _).symm.trans hw12
    obtain ⟨z13, hw13⟩ : ∃ z_, IntKind.i64.wrap (z12 + 1) = z_ := ⟨_, rfl⟩
    have e13 : Gv.stepN Gv.nx 13 z0 = z13 := by rw [Gv.stepN, e12]; first | exact hw13 | exact (i64_w _).symm.trans hw13
    obtain ⟨z14, hw14⟩ : ∃ z_, IntKind.i64.wrap (z13 + 1) = z_ := ⟨_, rfl⟩
    have e14 : Gv.stepN Gv.nx 14 z0 = z14 := by rw [Gv.stepN, e13]; first | exact hw14 | exact (i64_w _).symm.trans hw14
    obtain ⟨z15, hw15⟩ : ∃ z_, IntKind.i64.wrap (z14 + 1) = z_ := ⟨_, rfl⟩
    have e15 : Gv.stepN Gv.nx 15 z0 = z15 := by rw [Gv.stepN, e14]; first | exact hw15 | exact (i64_w _).symm.trans hw15
    obtain ⟨z16, hw16⟩ : ∃ z_, IntKind.i64.wrap (z15 + 1) = z_ := ⟨_, rfl⟩
    have e16 : Gv.stepN Gv.nx 16 z0 = z16 := by rw [Gv.stepN, e15]; first | exact hw16 | exact (i64_w _).symm.trans hw16
    rw [q0, e0] at hx0
    rw [q1, e1] at hx1
    rw [q2, e2] at hx2
    rw [q3, e3] at hx3
    rw [q4, e4] at hx4
    rw [q5, e5] at hx5
    rw [q6, e6] at hx6
    rw [q7, e7] at hx7
    rw [q8, e8] at hx8
    rw [q9, e9] at hx9
    rw [q10, e10] at hx10
    rw [q11, e11] at hx11
    rw [q12, e12] at hx12
    rw [q13, e13] at hx13
    rw [q14, e14] at hx14
    rw [q15, e15] at hx15
    rw [e16] at hN
    have HN2 := Gv.a0 hN
    clear hN q0 q1 q2 q3 q4 q5 q6 q7 q8 q9 q10 q11 q12 q13 q14 q15
    go_wp2_with fail
    go_roundg (l0.length - (kk + 1))
    case measure => omega
    case rel => exact ⟨kk + 1, z16, by omega, by omega, by simp [*], by go_num, HN2, HD⟩
   ·rw [if_neg hq] at hN
    cases hN
  ·have hltz : ¬ (kk : Int) < (l0.length : Int) := by omega
   have hN := HN.out
   rw [List.drop_eq_nil_of_le (by omega), Gv.heldL] at hN
   have HN2 := Gv.a0 (Option.some.inj hN)
   clear hN
   go_wp2_with fail
   go_ret
   exact ⟨by rw [← HN2.out]; rfl, by first | exact HD.out | exact HD.out.below⟩

/-! ### laws_heldTable: function 22 -/
def laws_heldTable.f (a0_0 : Int) (l0_1 : List (S75)) (a1 : Int) : Option (Int) := (laws_heldCellS.f l0_1 a1).bind fun t247 => (if t247 < 0 then (some (-1)) else (some t247))
set_option maxHeartbeats 8000000 in
set_option maxRecDepth 100000 in
theorem laws_heldTable.calls (a0_0 : Int) (A0_1 : Option Addr) (c0_1 : Nat) (l0_1 : List (S75)) (a1 : Int) (r : Int) (w : World) (hr0_1 : Kd.C k75 w A0_1 l0_1.length l0_1) (hc0_1 : l0_1.length ≤ c0_1) (h : laws_heldTable.f a0_0 l0_1 a1 = some r) :
  Calls Try.prog 22 #[.agg #[.int .i64 a0_0, .slice A0_1 l0_1.length c0_1], .int .i64 a1] w fun e w' => e = .returned (.int .i64 r) ∧ Below w.heap.size w w' := by
 have hu40 := Try.underlying40
 have HR0_1 := Gv.a0 hr0_1
 have HC0_1 := Gv.a0 hc0_1
 clear hr0_1 hc0_1
 have HB := Gv.a0 (Below.refl w.heap.size w)
 have H : ((laws_heldCellS.f l0_1 a1).bind fun t247 => (if t247 < 0 then (some (-1)) else (some t247))) = some r := h
 clear h
 replace H := Option.bind_eq_some_iff.mp H
 obtain ⟨t247, A30, H⟩ := H
 replace H : (if t247 < 0 then (some (-1)) else (some t247)) = some r := H
 have A3 := Gv.a0 A30
 clear A30
 by_cases c4 : t247 < 0
 ·rw [if_pos c4] at H
  have c4b0 : decide (t247 < 0) = true := decide_eq_true c4
  clear c4
  obtain rfl := Option.some.inj H
  go_enter Try.func22, Try.ntmps22
  go_wp2_with (first | ((with_reducible refine gate_dst (N := 2) rfl ?_); refine box_event ?hg (N := 2) ?hd (cs := #[.int .i64 a0_0, .slice A0_1 l0_1.length c0_1]) (t := 40) ?hr ?_; (case hd => rfl); (case hg => rfl); (case hr => first | (go_simp; done) | (go_simp; rfl)); intro gb246 hg w5 hbox hb; have n0_ := Gv.a0 (below_step Gv.bw hb); have n1_ := Gv.a0 (hbox); have n2_ := Gv.a0 ((Gv.ble hg Gv.bw : w.heap.size ≤ gb246)); have n3_ := Gv.a0 ((Gv.ble hg Gv.bw : w.heap.size ≤ gb246)); clear HB; have HB := n0_; have BK246 := n1_; have GW246 := n2_; have GE246 := n3_; clear n0_ n1_ n2_ n3_; clear hb hbox hg; have hcz6_0 : w5.cell? ⟨gb246, 0, none⟩ = some (.int .i64 a0_0) := (blk_cell BK246.out 0).trans rfl; have hcz6_1 : w5.cell? ⟨gb246, 1, none⟩ = some (.slice A0_1 l0_1.length c0_1) := (blk_cell BK246.out 1).trans rfl; have hfz6_0 := blk_frozen BK246.out 0; have hfz6_1 := blk_frozen BK246.out 1) | ((with_reducible refine gate_callee (f := 51) rfl ?_); refine goesL_ (some 8) rfl rfl Try.func51 (by kernel_rfl) rfl #[.slice A0_1 l0_1.length c0_1, .int .i64 a1] rfl Gv.lm ?_; (with_reducible refine (laws_heldCellS.calls _ _ l0_1 a1 t247 _ ?side1 ?side2 A3.out).mono ?_); (case side1 => repeat (first | exact (Kd.C_below HR0_1.out HB.out) | (with_reducible refine Kd.C_alloc ?_ _) | (with_reducible refine Kd.C_drewN ?_ _) | (with_reducible refine Kd.C_drew ?_))); (case side2 => exact HC0_1.out); rintro e w7 ⟨rfl, hb⟩; refine ⟨_, rfl, ?_⟩; have n0_ := Gv.a0 (Gv.bb BK246.out hb); have n1_ := Gv.a0 (below_step Gv.bw hb); clear BK246; clear HB; have BK246 := n0_; have HB := n1_; clear n0_ n1_; (try clear hb); (try clear hb2); (try clear hk); (try clear hi)))
  go_ret
  exact ⟨Gv.rt, Gv.bw⟩
 ·rw [if_neg c4] at H
  have c4b0 : decide (t247 < 0) = false := decide_eq_false c4
  clear c4
  obtain rfl := Option.some.inj H
  go_enter Try.func22, Try.ntmps22
  go_wp2_with (first | ((with_reducible refine gate_dst (N := 2) rfl ?_); refine box_event ?hg (N := 2) ?hd (cs := #[.int .i64 a0_0, .slice A0_1 l0_1.length c0_1]) (t := 40) ?hr ?_; (case hd => rfl); (case hg => rfl); (case hr => first | (go_simp; done) | (go_simp; rfl)); intro gb246 hg w8 hbox hb; have n0_ := Gv.a0 (below_step Gv.bw hb); have n1_ := Gv.a0 (hbox); have n2_ := Gv.a0 ((Gv.ble hg Gv.bw : w.heap.size ≤ gb246)); have n3_ := Gv.a0 ((Gv.ble hg Gv.bw : w.heap.size ≤ gb246)); clear HB; have HB := n0_; have BK246 := n1_; have GW246 := n2_; have GE246 := n3_; clear n0_ n1_ n2_ n3_; clear hb hbox hg; have hcz9_0 : w8.cell? ⟨gb246, 0, none⟩ = some (.int .i64 a0_0) := (blk_cell BK246.out 0).trans rfl; have hcz9_1 : w8.cell? ⟨gb246, 1, none⟩ = some (.slice A0_1 l0_1.length c0_1) := (blk_cell BK246.out 1).trans rfl; have hfz9_0 := blk_frozen BK246.out 0; have hfz9_1 := blk_frozen BK246.out 1) | ((with_reducible refine gate_callee (f := 51) rfl ?_); refine goesL_ (some 8) rfl rfl Try.func51 (by kernel_rfl) rfl #[.slice A0_1 l0_1.length c0_1, .int .i64 a1] rfl Gv.lm ?_; (with_reducible refine (laws_heldCellS.calls _ _ l0_1 a1 t247 _ ?side1 ?side2 A3.out).mono ?_); (case side1 => repeat (first | exact (Kd.C_below HR0_1.out HB.out) | (with_reducible refine Kd.C_alloc ?_ _) | (with_reducible refine Kd.C_drewN ?_ _) | (with_reducible refine Kd.C_drew ?_))); (case side2 => exact HC0_1.out); rintro e w10 ⟨rfl, hb⟩; refine ⟨_, rfl, ?_⟩; have n0_ := Gv.a0 (Gv.bb BK246.out hb); have n1_ := Gv.a0 (below_step Gv.bw hb); clear BK246; clear HB; have BK246 := n0_; have HB := n1_; clear n0_ n1_; (try clear hb); (try clear hb2); (try clear hk); (try clear hi)))
  go_ret
  exact ⟨Gv.rt, Gv.bw⟩

/-! ### laws_FnExactTableNew: function 5 -/
def laws_FnExactTableNew.f (k : Nat) (a0 : Int) (a1 : Int) : Option (Bool) := (spec_TableNew.f k a0 a1).bind fun bt248 => ((impl_TableNew.f a0 a1).bind fun bt253 => ((laws_eqTable.f k bt253.1 bt253.2 bt248.1 bt248.2).bind fun t258 => (if t258 = true then ((laws_markTable.f bt253.1 bt253.2 1).bind fun bt259 => ((laws_heldTable.f bt253.1 bt259.2 1).bind fun t261 => (if t261 < 0 then (none) else (if t261 = bt259.1 then ((impl_TableNew.f a0 a1).bind fun bt262 => ((laws_eqTable.f k bt262.1 bt262.2 bt248.1 bt248.2).bind fun t267 => (if t267 = true then ((laws_heldTable.f bt253.1 bt259.2 1).bind fun t268 => (if t268 < 0 then (none) else (if t268 = bt259.1 then (some true) else (none)))) else (none)))) else (none))))) else (none))))
theorem laws_FnExactTableNew.mono : ∀ a0 a1 k, LeO (laws_FnExactTableNew.f k a0 a1) (laws_FnExactTableNew.f (k + 1) a0 a1) := by
 intro a0 a1 k
 unfold laws_FnExactTableNew.f
 repeat' first
   | (with_reducible exact laws_eqTable.mono _ _ _ _ _)
   | (with_reducible exact spec_TableNew.mono _ _ _)
   | (with_reducible exact LeO.refl _)
   | (with_reducible exact LeO.none _)
   | (with_reducible refine LeO.ite ?_ ?_)
   | (with_reducible refine LeO.bind ?_ (fun _ => ?_))
   | exact laws_eqTable.mono _ _ _ _ _
   | exact spec_TableNew.mono _ _ _
   | exact LeO.none _
   | refine LeO.ite ?_ ?_
   | refine LeO.bind ?_ (fun _ => ?_)
set_option maxHeartbeats 8000000 in
set_option maxRecDepth 100000 in
theorem laws_FnExactTableNew.calls (k : Nat) (a0 : Int) (a1 : Int) (r : Bool) (w : World) (h : laws_FnExactTableNew.f k a0 a1 = some r) :
  Calls Try.prog 5 #[.int .i64 a0, .int .i64 a1] w fun e w' => e = .returned (.bool r) ∧ Below w.heap.size w w' := by
 have hu40 := Try.underlying40
 have HB := Gv.a0 (Below.refl w.heap.size w)
 have H : ((spec_TableNew.f k a0 a1).bind fun bt248 => ((impl_TableNew.f a0 a1).bind fun bt253 => ((laws_eqTable.f k bt253.1 bt253.2 bt248.1 bt248.2).bind fun t258 => (if t258 = true then ((laws_markTable.f bt253.1 bt253.2 1).bind fun bt259 => ((laws_heldTable.f bt253.1 bt259.2 1).bind fun t261 => (if t261 < 0 then (none) else (if t261 = bt259.1 then ((impl_TableNew.f a0 a1).bind fun bt262 => ((laws_eqTable.f k bt262.1 bt262.2 bt248.1 bt248.2).bind fun t267 => (if t267 = true then ((laws_heldTable.f bt253.1 bt259.2 1).bind fun t268 => (if t268 < 0 then (none) else (if t268 = bt259.1 then (some true) else (none)))) else (none)))) else (none))))) else (none))))) = some r := h
 clear h
 replace H := Option.bind_eq_some_iff.mp H
 obtain ⟨⟨t248, t249⟩, A30, H⟩ := H
 replace H : ((impl_TableNew.f a0 a1).bind fun bt253 => ((laws_eqTable.f k bt253.1 bt253.2 t248 t249).bind fun t258 => (if t258 = true then ((laws_markTable.f bt253.1 bt253.2 1).bind fun bt259 => ((laws_heldTable.f bt253.1 bt259.2 1).bind fun t261 => (if t261 < 0 then (none) else (if t261 = bt259.1 then ((impl_TableNew.f a0 a1).bind fun bt262 => ((laws_eqTable.f k bt262.1 bt262.2 t248 t249).bind fun t267 => (if t267 = true then ((laws_heldTable.f bt253.1 bt259.2 1).bind fun t268 => (if t268 < 0 then (none) else (if t268 = bt259.1 then (some true) else (none)))) else (none)))) else (none))))) else (none)))) = some r := H
 have A3 := Gv.a0 A30
 clear A30
 replace H := Option.bind_eq_some_iff.mp H
 obtain ⟨⟨t253, t254⟩, A40, H⟩ := H
 replace H : ((laws_eqTable.f k t253 t254 t248 t249).bind fun t258 => (if t258 = true then ((laws_markTable.f t253 t254 1).bind fun bt259 => ((laws_heldTable.f t253 bt259.2 1).bind fun t261 => (if t261 < 0 then (none) else (if t261 = bt259.1 then ((impl_TableNew.f a0 a1).bind fun bt262 => ((laws_eqTable.f k bt262.1 bt262.2 t248 t249).bind fun t267 => (if t267 = true then ((laws_heldTable.f t253 bt259.2 1).bind fun t268 => (if t268 < 0 then (none) else (if t268 = bt259.1 then (some true) else (none)))) else (none)))) else (none))))) else (none))) = some r := H
 have A4 := Gv.a0 A40
 clear A40
 replace H := Option.bind_eq_some_iff.mp H
 obtain ⟨t258, A50, H⟩ := H
 replace H : (if t258 = true then ((laws_markTable.f t253 t254 1).bind fun bt259 => ((laws_heldTable.f t253 bt259.2 1).bind fun t261 => (if t261 < 0 then (none) else (if t261 = bt259.1 then ((impl_TableNew.f a0 a1).bind fun bt262 => ((laws_eqTable.f k bt262.1 bt262.2 t248 t249).bind fun t267 => (if t267 = true then ((laws_heldTable.f t253 bt259.2 1).bind fun t268 => (if t268 < 0 then (none) else (if t268 = bt259.1 then (some true) else (none)))) else (none)))) else (none))))) else (none)) = some r := H
 have A5 := Gv.a0 A50
 clear A50
 by_cases c6 : t258 = true
 ·subst c6
  have H1 : ((laws_markTable.f t253 t254 1).bind fun bt259 => ((laws_heldTable.f t253 bt259.2 1).bind fun t261 => (if t261 < 0 then (none) else (if t261 = bt259.1 then ((impl_TableNew.f a0 a1).bind fun bt262 => ((laws_eqTable.f k bt262.1 bt262.2 t248 t249).bind fun t267 => (if t267 = true then ((laws_heldTable.f t253 bt259.2 1).bind fun t268 => (if t268 < 0 then (none) else (if t268 = bt259.1 then (some true) else (none)))) else (none)))) else (none))))) = some r := by rw [if_pos rfl] at H; exact H
  clear H
  have H := H1
  clear H1
  replace H := Option.bind_eq_some_iff.mp H
  obtain ⟨⟨t259, t260⟩, A70, H⟩ := H
  replace H : ((laws_heldTable.f t253 t260 1).bind fun t261 => (if t261 < 0 then (none) else (if t261 = t259 then ((impl_TableNew.f a0 a1).bind fun bt262 => ((laws_eqTable.f k bt262.1 bt262.2 t248 t249).bind fun t267 => (if t267 = true then ((laws_heldTable.f t253 t260 1).bind fun t268 => (if t268 < 0 then (none) else (if t268 = t259 then (some true) else (none)))) else (none)))) else (none)))) = some r := H
  have A7 := Gv.a0 A70
  clear A70
  replace H := Option.bind_eq_some_iff.mp H
  obtain ⟨t261, A80, H⟩ := H
  replace H : (if t261 < 0 then (none) else (if t261 = t259 then ((impl_TableNew.f a0 a1).bind fun bt262 => ((laws_eqTable.f k bt262.1 bt262.2 t248 t249).bind fun t267 => (if t267 = true then ((laws_heldTable.f t253 t260 1).bind fun t268 => (if t268 < 0 then (none) else (if t268 = t259 then (some true) else (none)))) else (none)))) else (none))) = some r := H
  have A8 := Gv.a0 A80
  clear A80
  by_cases c9 : t261 < 0
  ·rw [if_pos c9] at H
   exact absurd H (by simp)
  ·rw [if_neg c9] at H
   have c9b0 : decide (t261 < 0) = false := decide_eq_false c9
   clear c9
   by_cases c10 : t261 = t259
   ·rw [if_pos c10] at H
    have c10b0 : (t261 == t259) = true := beq_iff_eq.mpr c10
    have c10b1 : (t261 != t259) = false := bne_eq_false_iff_eq.mpr c10
    clear c10
    replace H := Option.bind_eq_some_iff.mp H
    obtain ⟨⟨t262, t263⟩, A110, H⟩ := H
    replace H : ((laws_eqTable.f k t262 t263 t248 t249).bind fun t267 => (if t267 = true then ((laws_heldTable.f t253 t260 1).bind fun t268 => (if t268 < 0 then (none) else (if t268 = t259 then (some true) else (none)))) else (none))) = some r := H
    have A11 := Gv.a0 A110
    clear A110
    replace H := Option.bind_eq_some_iff.mp H
    obtain ⟨t267, A120, H⟩ := H
    replace H : (if t267 = true then ((laws_heldTable.f t253 t260 1).bind fun t268 => (if t268 < 0 then (none) else (if t268 = t259 then (some true) else (none)))) else (none)) = some r := H
    have A12 := Gv.a0 A120
    clear A120
    by_cases c13 : t267 = true
    ·subst c13
     have H1 : ((laws_heldTable.f t253 t260 1).bind fun t268 => (if t268 < 0 then (none) else (if t268 = t259 then (some true) else (none)))) = some r := by rw [if_pos rfl] at H; exact H
     clear H
     have H := H1
     clear H1
     replace H := Option.bind_eq_some_iff.mp H
     obtain ⟨t268, A140, H⟩ := H
     replace H : (if t268 < 0 then (none) else (if t268 = t259 then (some true) else (none))) = some r := H
     have A14 := Gv.a0 A140
     clear A140
     by_cases c15 : t268 < 0
     ·rw [if_pos c15] at H
      exact absurd H (by simp)
     ·rw [if_neg c15] at H
      have c15b0 : decide (t268 < 0) = false := decide_eq_false c15
      clear c15
      by_cases c16 : t268 = t259
      ·rw [if_pos c16] at H
       have c16b0 : (t268 == t259) = true := beq_iff_eq.mpr c16
       have c16b1 : (t268 != t259) = false := bne_eq_false_iff_eq.mpr c16
       clear c16
       obtain rfl := Option.some.inj H
       go_enter Try.func5, Try.ntmps5
       go_wp2_with (first | ((with_reducible refine gate_callee (f := 18) rfl ?_); refine goesL_ (some 12) rfl rfl Try.func18 (by kernel_rfl) rfl #[.int .i64 a0, .int .i64 a1] rfl Gv.lm ?_; (with_reducible refine (spec_TableNew.calls k a0 a1 t248 t249 _ A3.out).mono ?_); rintro e w17 ⟨v250, rfl, ho0, hb⟩; refine ⟨_, rfl, ?_⟩; have n0_ := Gv.a0 (Kd.R_lower ho0 (below_size Gv.bw)); have n1_ := Gv.a0 (below_step Gv.bw hb); clear HB; have HO251 := n0_; have HB := n1_; clear n0_ n1_; (try clear hb); (try clear hb2); (try clear hk); (try clear hi); (try clear ho0)) | ((with_reducible refine gate_dst (N := 5) rfl ?_); refine box_event ?hg (N := 5) ?hd (cs := #[.int .i64 0, .slice none 0 0]) (t := 40) ?hr ?_; (case hd => rfl); (case hg => rfl); (case hr => first | (go_simp; done) | (go_simp; rfl)); intro gb252 hg w18 hbox hb; have n0_ := Gv.a0 (Kd.R_below (Gv.kr HO251.out) hb); have n1_ := Gv.a0 (below_step Gv.bw hb); have n2_ := Gv.a0 (hbox); have n3_ := Gv.a0 ((Gv.ble hg Gv.bw : w.heap.size ≤ gb252)); have n4_ := Gv.a0 ((Gv.ble hg Gv.bw : w.heap.size ≤ gb252)); clear HO251; clear HB; have HO251 := n0_; have HB := n1_; have BK252 := n2_; have GW252 := n3_; have GE252 := n4_; clear n0_ n1_ n2_ n3_ n4_; clear hb hbox hg; have hcz19_0 : w18.cell? ⟨gb252, 0, none⟩ = some (.int .i64 0) := (blk_cell BK252.out 0).trans rfl; have hcz19_1 : w18.cell? ⟨gb252, 1, none⟩ = some (.slice none 0 0) := (blk_cell BK252.out 1).trans rfl; have hfz19_0 := blk_frozen BK252.out 0; have hfz19_1 := blk_frozen BK252.out 1; obtain ⟨Ao20, co20, eo20⟩ := Kd.R_slice HO251.out; subst eo20) | ((with_reducible refine gate_callee (f := 19) rfl ?_); refine goesL_ (some 15) rfl rfl Try.func19 (by kernel_rfl) rfl #[.int .i64 a0, .int .i64 a1] rfl Gv.lm ?_; (with_reducible refine (impl_TableNew.calls a0 a1 t253 t254 _ A4.out).mono ?_); rintro e w21 ⟨v255, rfl, ho0, hb⟩; refine ⟨_, rfl, ?_⟩; have n0_ := Gv.a0 (Kd.R_elder' (by (with_reducible repeat (first | apply Kd.R_alloc | apply Kd.R_drewN | apply Kd.R_drew)); exact (Kd.R_mono (Kd.R_far (p := ⟨gb252, 1, none⟩) (Kd.R_far (p := ⟨gb252, 0, none⟩) (Kd.R_types HO251.out BK252.out (by decide)) (fun _ hk => hk.2) (.int .i64 t248)) (fun _ hk => hk.2) (.slice Ao20 t249.length co20)) (fun _ h_ => h_.1))) (Kd.R_base ho0) hb); have n1_ := Gv.a0 (Kd.R_lower (Kd.R_new' ho0 (Kd.R_lt (by (with_reducible repeat (first | apply Kd.R_alloc | apply Kd.R_drewN | apply Kd.R_drew)); exact (Kd.R_mono (Kd.R_far (p := ⟨gb252, 1, none⟩) (Kd.R_far (p := ⟨gb252, 0, none⟩) (Kd.R_types HO251.out BK252.out (by decide)) (fun _ hk => hk.2) (.int .i64 t248)) (fun _ hk => hk.2) (.slice Ao20 t249.length co20)) (fun _ h_ => h_.1))))) (below_size Gv.bw)); have n2_ := Gv.a0 (blk_below (g := gb252) (o := .cells #[.int .i64 t248, .slice Ao20 t249.length co20] 40 (0, 0)) (by (with_reducible repeat (first | refine blk_drewN ?_ _ | refine blk_drew ?_ | refine blk_alloc ?_ _)); refine blk_put (cs := #[.int .i64 t248, .slice none 0 0]) ?_ 1 _ rfl; (with_reducible repeat (first | refine blk_drewN ?_ _ | refine blk_drew ?_ | refine blk_alloc ?_ _)); refine blk_put (cs := #[.int .i64 0, .slice none 0 0]) ?_ 0 _ rfl; (with_reducible repeat (first | refine blk_drewN ?_ _ | refine blk_drew ?_ | refine blk_alloc ?_ _)); exact BK252.out) hb); have n3_ := Gv.a0 (below_step Gv.bw hb); clear HO251; clear BK252; clear HB; have HO251 := n0_; have HO256 := n1_; have BK252 := n2_; have HB := n3_; clear n0_ n1_ n2_ n3_; (try clear hb); (try clear hb2); (try clear hk); (try clear hi); (try clear ho0)) | ((with_reducible refine gate_dst (N := 6) rfl ?_); refine box_event ?hg (N := 6) ?hd (cs := #[.int .i64 0, .slice none 0 0]) (t := 40) ?hr ?_; (case hd => rfl); (case hg => rfl); (case hr => first | (go_simp; done) | (go_simp; rfl)); intro gb257 hg w22 hbox hb; have n0_ := Gv.a0 (Kd.R_below (Gv.kr HO251.out) hb); have n1_ := Gv.a0 (Kd.R_below (Gv.kr HO256.out) hb); have n2_ := Gv.a0 (Gv.bb BK252.out hb); have n3_ := Gv.a0 (below_step Gv.bw hb); have n4_ := Gv.a0 (hbox); have n5_ := Gv.a0 ((Gv.ble hg Gv.bw : w.heap.size ≤ gb257)); have n6_ := Gv.a0 ((Gv.ble hg Gv.bw : w.heap.size ≤ gb257)); have n7_ := Gv.a0 ((Gv.nlt hg (Gv.kb BK252.out) : gb252 ≠ gb257)); have n8_ := Gv.a0 ((Gv.ngt hg (Gv.kb BK252.out) : gb257 ≠ gb252)); clear HO251; clear HO256; clear BK252; clear HB; have HO251 := n0_; have HO256 := n1_; have BK252 := n2_; have HB := n3_; have BK257 := n4_; have GW257 := n5_; have GE257 := n6_; have NB252_257 := n7_; have NB257_252 := n8_; clear n0_ n1_ n2_ n3_ n4_ n5_ n6_ n7_ n8_; clear hb hbox hg; have hnb23 := NB257_252.out; have hnc23 := NB252_257.out; have hcz24_0 : w22.cell? ⟨gb257, 0, none⟩ = some (.int .i64 0) := (blk_cell BK257.out 0).trans rfl; have hcz24_1 : w22.cell? ⟨gb257, 1, none⟩ = some (.slice none 0 0) := (blk_cell BK257.out 1).trans rfl; have hfz24_0 := blk_frozen BK257.out 0; have hfz24_1 := blk_frozen BK257.out 1; obtain ⟨Ao25, co25, eo25⟩ := Kd.R_slice HO256.out; subst eo25; have hcz26_0 : w22.cell? ⟨gb252, 0, none⟩ = some (.int .i64 t248) := (blk_cell BK252.out 0).trans rfl; have hcz26_1 : w22.cell? ⟨gb252, 1, none⟩ = some (.slice Ao20 t249.length co20) := (blk_cell BK252.out 1).trans rfl; have hfz26_0 := blk_frozen BK252.out 0; have hfz26_1 := blk_frozen BK252.out 1) | ((with_reducible refine gate_callee (f := 20) rfl ?_); refine goesL_ (some 18) rfl rfl Try.func20 (by kernel_rfl) rfl #[.agg #[.int .i64 t253, .slice Ao25 t254.length co25], .agg #[.int .i64 t248, .slice Ao20 t249.length co20]] rfl Gv.lm ?_; (with_reducible refine (laws_eqTable.calls k t253 _ _ t254 t248 _ _ t249 true _ ?side1 ?side2 ?side3 ?side4 A5.out).mono ?_); (case side1 => refine (Kd.R_reads' (e := 75) (base := w.heap.size) (ok := fun k_ => (True ∧ some k_ ≠ (.slice Ao20 t249.length co20 : Value).ownBlock)) (n := t254.length) (c := co25) ?_).2.2; exact (by (with_reducible repeat (first | apply Kd.R_alloc | apply Kd.R_drewN | apply Kd.R_drew)); exact (Kd.R_mono (Kd.R_far (p := ⟨gb257, 1, none⟩) (Kd.R_far (p := ⟨gb257, 0, none⟩) (Kd.R_types HO256.out BK257.out (by decide)) (fun _ hk => hk.2) (.int .i64 t253)) (fun _ hk => hk.2) (.slice Ao25 t254.length co25)) (fun _ h_ => h_.1)))); (case side2 => exact (Kd.R_reads' HO256.out).2.1); (case side3 => refine (Kd.R_reads' (e := 75) (base := w.heap.size) (ok := fun k_ => (True ∧ some k_ ≠ (.slice Ao25 t254.length co25 : Value).ownBlock)) (n := t249.length) (c := co20) ?_).2.2; exact (by (with_reducible repeat (first | apply Kd.R_alloc | apply Kd.R_drewN | apply Kd.R_drew)); exact (Kd.R_mono (Kd.R_far (p := ⟨gb257, 1, none⟩) (Kd.R_far (p := ⟨gb257, 0, none⟩) (Kd.R_types HO251.out BK257.out (by decide)) (fun _ hk => hk.2) (.int .i64 t253)) (fun _ hk => hk.2) (.slice Ao25 t254.length co25)) (fun _ h_ => h_.1)))); (case side4 => exact (Kd.R_reads' HO251.out).2.1); rintro e w27 ⟨rfl, hb⟩; refine ⟨_, rfl, ?_⟩; have n0_ := Gv.a0 (Kd.R_below (by (with_reducible repeat (first | apply Kd.R_alloc | apply Kd.R_drewN | apply Kd.R_drew)); exact (Kd.R_mono (Kd.R_far (p := ⟨gb257, 1, none⟩) (Kd.R_far (p := ⟨gb257, 0, none⟩) (Kd.R_types HO251.out BK257.out (by decide)) (fun _ hk => hk.2) (.int .i64 t253)) (fun _ hk => hk.2) (.slice Ao25 t254.length co25)) (fun _ h_ => h_.1))) hb); have n1_ := Gv.a0 (Kd.R_below (by (with_reducible repeat (first | apply Kd.R_alloc | apply Kd.R_drewN | apply Kd.R_drew)); exact (Kd.R_mono (Kd.R_far (p := ⟨gb257, 1, none⟩) (Kd.R_far (p := ⟨gb257, 0, none⟩) (Kd.R_types HO256.out BK257.out (by decide)) (fun _ hk => hk.2) (.int .i64 t253)) (fun _ hk => hk.2) (.slice Ao25 t254.length co25)) (fun _ h_ => h_.1))) hb); have n2_ := Gv.a0 (blk_below (g := gb252) (o := .cells #[.int .i64 t248, .slice Ao20 t249.length co20] 40 (0, 0)) Gv.bkf hb); have n3_ := Gv.a0 (blk_below (g := gb257) (o := .cells #[.int .i64 t253, .slice Ao25 t254.length co25] 40 (0, 0)) (by (with_reducible repeat (first | refine blk_drewN ?_ _ | refine blk_drew ?_ | refine blk_alloc ?_ _)); refine blk_put (cs := #[.int .i64 t253, .slice none 0 0]) ?_ 1 _ rfl; (with_reducible repeat (first | refine blk_drewN ?_ _ | refine blk_drew ?_ | refine blk_alloc ?_ _)); refine blk_put (cs := #[.int .i64 0, .slice none 0 0]) ?_ 0 _ rfl; (with_reducible repeat (first | refine blk_drewN ?_ _ | refine blk_drew ?_ | refine blk_alloc ?_ _)); exact BK257.out) hb); have n4_ := Gv.a0 (below_step Gv.bw hb); clear HO251; clear HO256; clear BK252; clear BK257; clear HB; have HO251 := n0_; have HO256 := n1_; have BK252 := n2_; have BK257 := n3_; have HB := n4_; clear n0_ n1_ n2_ n3_ n4_; (try clear hb); (try clear hb2); (try clear hk); (try clear hi); have hcz28_0 : w27.cell? ⟨gb257, 0, none⟩ = some (.int .i64 t253) := (blk_cell BK257.out 0).trans rfl; have hcz28_1 : w27.cell? ⟨gb257, 1, none⟩ = some (.slice Ao25 t254.length co25) := (blk_cell BK257.out 1).trans rfl; have hfz28_0 := blk_frozen BK257.out 0; have hfz28_1 := blk_frozen BK257.out 1) | ((with_reducible refine gate_callee (f := 21) rfl ?_); refine goesL_ (some 22) rfl rfl Try.func21 (by kernel_rfl) rfl #[.agg #[.int .i64 t253, .slice Ao25 t254.length co25], .int .i64 1] rfl Gv.lm ?_; (with_reducible refine (laws_markTable.calls t253 (fun k_ => some k_ = (.slice Ao25 t254.length co25 : Value).ownBlock) (.slice Ao25 t254.length co25) t254 1 t259 t260 w _ ?side1 ?side2 A7.out).mono ?_); (case side1 => repeat (first | (with_reducible first | exact HB.out | apply below_alloc | apply pw_below_drewN | apply below_drew1 | refine below_set ?_ GE252.out | refine below_set ?_ GE257.out) | exact HB.out)); (case side2 => exact Kd.R_tight rfl HO256.out); rintro e w29 ⟨rfl, hy0, hb, hkp⟩; refine ⟨_, rfl, ?_⟩; have n0_ := Gv.a0 (Kd.R_mono (ok' := fun k_ => some k_ ≠ (.slice Ao25 t254.length co25 : Value).ownBlock) (Kd.R_keptB (HO251.out) hkp (fun k_ hk_ hs_ => (hk_.2) hs_)) (fun k_ hk_ => hk_.1.2)); have n1_ := Gv.a0 (blk_kept Gv.bk hkp (fun hs_ => (fun e_ => (Kd.R_ne HO256.out BK252.out (by decide)) e_) hs_)); have n2_ := Gv.a0 (Kd.R_reok rfl hy0 (fun k_ e_ => HO256.out.1 k_ e_)); have n3_ := Gv.a0 (blk_kept Gv.bk hkp (fun hs_ => (fun e_ => (Kd.R_ne HO256.out BK257.out (by decide)) e_) hs_)); have n4_ := Gv.a0 (hb); clear HO251; clear BK252; clear HO256; clear BK257; clear HB; have HO251 := n0_; have BK252 := n1_; have HO256 := n2_; have BK257 := n3_; have HB := n4_; clear n0_ n1_ n2_ n3_ n4_; (try clear hb); (try clear hkp); (try clear hy0); have hcz30_0 : w29.cell? ⟨gb257, 0, none⟩ = some (.int .i64 t253) := (blk_cell BK257.out 0).trans rfl; have hcz30_1 : w29.cell? ⟨gb257, 1, none⟩ = some (.slice Ao25 t254.length co25) := (blk_cell BK257.out 1).trans rfl; have hfz30_0 := blk_frozen BK257.out 0; have hfz30_1 := blk_frozen BK257.out 1) | ((with_reducible refine gate_callee (f := 22) rfl ?_); refine goesL_ (some 25) rfl rfl Try.func22 (by kernel_rfl) rfl #[.agg #[.int .i64 t253, .slice Ao25 t260.length co25], .int .i64 1] rfl (by (try simp only [List.map_toArray, List.map_cons, List.map_nil]); first | done | (rw [show t260.length = t254.length from (Kd.R_reads' HO256.out).1.symm] <;> rfl) | rfl | (simp only [List.length_drop, List.length_take]; rfl)) ?_; (with_reducible refine (laws_heldTable.calls t253 _ _ t260 1 t261 _ ?side1 ?side2 A8.out).mono ?_); (case side1 => repeat (first | exact (Kd.R_reads' HO256.out).2.2 | (with_reducible refine Kd.C_alloc ?_ _) | (with_reducible refine Kd.C_drewN ?_ _) | (with_reducible refine Kd.C_drew ?_))); (case side2 => rw [show t260.length = t254.length from (Kd.R_reads' HO256.out).1.symm]; exact (Kd.R_reads' HO256.out).2.1); rintro e w31 ⟨rfl, hb⟩; refine ⟨_, rfl, ?_⟩; have n0_ := Gv.a0 (Kd.R_below (Gv.kr HO251.out) hb); have n1_ := Gv.a0 (Kd.R_below (Gv.kr HO256.out) hb); have n2_ := Gv.a0 (Gv.bb BK252.out hb); have n3_ := Gv.a0 (Gv.bb BK257.out hb); have n4_ := Gv.a0 (below_step Gv.bw hb); clear HO251; clear HO256; clear BK252; clear BK257; clear HB; have HO251 := n0_; have HO256 := n1_; have BK252 := n2_; have BK257 := n3_; have HB := n4_; clear n0_ n1_ n2_ n3_ n4_; (try clear hb); (try clear hb2); (try clear hk); (try clear hi)) | ((with_reducible refine gate_callee (f := 19) rfl ?_); refine goesL_ (some 33) rfl rfl Try.func19 (by kernel_rfl) rfl #[.int .i64 a0, .int .i64 a1] rfl Gv.lm ?_; (with_reducible refine (impl_TableNew.calls a0 a1 t262 t263 _ A11.out).mono ?_); rintro e w32 ⟨v264, rfl, ho0, hb⟩; refine ⟨_, rfl, ?_⟩; have n0_ := Gv.a0 (Kd.R_elder' (Gv.kr HO251.out) (Kd.R_base ho0) hb); have n1_ := Gv.a0 (Kd.R_elder' (Gv.kr HO256.out) (Kd.R_base ho0) hb); have n2_ := Gv.a0 (Kd.R_lower (Kd.R_new' (Kd.R_new' ho0 (Kd.R_lt (Gv.kr HO251.out))) (Kd.R_lt (Gv.kr HO256.out))) (below_size Gv.bw)); have n3_ := Gv.a0 (Gv.bb BK252.out hb); have n4_ := Gv.a0 (Gv.bb BK257.out hb); have n5_ := Gv.a0 (below_step Gv.bw hb); clear HO251; clear HO256; clear BK252; clear BK257; clear HB; have HO251 := n0_; have HO256 := n1_; have HO265 := n2_; have BK252 := n3_; have BK257 := n4_; have HB := n5_; clear n0_ n1_ n2_ n3_ n4_ n5_; (try clear hb); (try clear hb2); (try clear hk); (try clear hi); (try clear ho0)) | ((with_reducible refine gate_dst (N := 9) rfl ?_); refine box_event ?hg (N := 9) ?hd (cs := #[.int .i64 0, .slice none 0 0]) (t := 40) ?hr ?_; (case hd => rfl); (case hg => rfl); (case hr => first | (go_simp; done) | (go_simp; rfl)); intro gb266 hg w33 hbox hb; have n0_ := Gv.a0 (Kd.R_below (Gv.kr HO251.out) hb); have n1_ := Gv.a0 (Kd.R_below (Gv.kr HO256.out) hb); have n2_ := Gv.a0 (Kd.R_below (Gv.kr HO265.out) hb); have n3_ := Gv.a0 (Gv.bb BK252.out hb); have n4_ := Gv.a0 (Gv.bb BK257.out hb); have n5_ := Gv.a0 (below_step Gv.bw hb); have n6_ := Gv.a0 (hbox); have n7_ := Gv.a0 ((Gv.ble hg Gv.bw : w.heap.size ≤ gb266)); have n8_ := Gv.a0 ((Gv.ble hg Gv.bw : w.heap.size ≤ gb266)); have n9_ := Gv.a0 ((Gv.nlt hg (Gv.kb BK252.out) : gb252 ≠ gb266)); have n10_ := Gv.a0 ((Gv.ngt hg (Gv.kb BK252.out) : gb266 ≠ gb252)); have n11_ := Gv.a0 ((Gv.nlt hg (Gv.kb BK257.out) : gb257 ≠ gb266)); have n12_ := Gv.a0 ((Gv.ngt hg (Gv.kb BK257.out) : gb266 ≠ gb257)); clear HO251; clear HO256; clear HO265; clear BK252; clear BK257; clear HB; have HO251 := n0_; have HO256 := n1_; have HO265 := n2_; have BK252 := n3_; have BK257 := n4_; have HB := n5_; have BK266 := n6_; have GW266 := n7_; have GE266 := n8_; have NB252_266 := n9_; have NB266_252 := n10_; have NB257_266 := n11_; have NB266_257 := n12_; clear n0_ n1_ n2_ n3_ n4_ n5_ n6_ n7_ n8_ n9_ n10_ n11_ n12_; clear hb hbox hg; have hnb34 := NB266_252.out; have hnc34 := NB252_266.out; have hnb35 := NB266_257.out; have hnc35 := NB257_266.out; have hcz36_0 : w33.cell? ⟨gb266, 0, none⟩ = some (.int .i64 0) := (blk_cell BK266.out 0).trans rfl; have hcz36_1 : w33.cell? ⟨gb266, 1, none⟩ = some (.slice none 0 0) := (blk_cell BK266.out 1).trans rfl; have hfz36_0 := blk_frozen BK266.out 0; have hfz36_1 := blk_frozen BK266.out 1; obtain ⟨Ao37, co37, eo37⟩ := Kd.R_slice HO265.out; subst eo37; have hcz38_0 : w33.cell? ⟨gb252, 0, none⟩ = some (.int .i64 t248) := (blk_cell BK252.out 0).trans rfl; have hcz38_1 : w33.cell? ⟨gb252, 1, none⟩ = some (.slice Ao20 t249.length co20) := (blk_cell BK252.out 1).trans rfl; have hfz38_0 := blk_frozen BK252.out 0; have hfz38_1 := blk_frozen BK252.out 1) | ((with_reducible refine gate_callee (f := 20) rfl ?_); refine goesL_ (some 36) rfl rfl Try.func20 (by kernel_rfl) rfl #[.agg #[.int .i64 t262, .slice Ao37 t263.length co37], .agg #[.int .i64 t248, .slice Ao20 t249.length co20]] rfl Gv.lm ?_; (with_reducible refine (laws_eqTable.calls k t262 _ _ t263 t248 _ _ t249 true _ ?side1 ?side2 ?side3 ?side4 A12.out).mono ?_); (case side1 => refine (Kd.R_reads' (e := 75) (base := w.heap.size) (ok := fun k_ => ((True ∧ some k_ ≠ (.slice Ao20 t249.length co20 : Value).ownBlock) ∧ some k_ ≠ (.slice Ao25 t254.length co25 : Value).ownBlock)) (n := t263.length) (c := co37) ?_).2.2; exact (by (with_reducible repeat (first | apply Kd.R_alloc | apply Kd.R_drewN | apply Kd.R_drew)); exact (Kd.R_mono (Kd.R_far (p := ⟨gb266, 1, none⟩) (Kd.R_far (p := ⟨gb266, 0, none⟩) (Kd.R_types HO265.out BK266.out (by decide)) (fun _ hk => hk.2) (.int .i64 t262)) (fun _ hk => hk.2) (.slice Ao37 t263.length co37)) (fun _ h_ => h_.1)))); (case side2 => exact (Kd.R_reads' HO265.out).2.1); (case side3 => refine (Kd.R_reads' (e := 75) (base := w.heap.size) (ok := fun k_ => (some k_ ≠ (.slice Ao25 t254.length co25 : Value).ownBlock ∧ some k_ ≠ (.slice Ao37 t263.length co37 : Value).ownBlock)) (n := t249.length) (c := co20) ?_).2.2; exact (by (with_reducible repeat (first | apply Kd.R_alloc | apply Kd.R_drewN | apply Kd.R_drew)); exact (Kd.R_mono (Kd.R_far (p := ⟨gb266, 1, none⟩) (Kd.R_far (p := ⟨gb266, 0, none⟩) (Kd.R_types HO251.out BK266.out (by decide)) (fun _ hk => hk.2) (.int .i64 t262)) (fun _ hk => hk.2) (.slice Ao37 t263.length co37)) (fun _ h_ => h_.1)))); (case side4 => exact (Kd.R_reads' HO251.out).2.1); rintro e w39 ⟨rfl, hb⟩; refine ⟨_, rfl, ?_⟩; have n0_ := Gv.a0 (Kd.R_below (by (with_reducible repeat (first | apply Kd.R_alloc | apply Kd.R_drewN | apply Kd.R_drew)); exact (Kd.R_mono (Kd.R_far (p := ⟨gb266, 1, none⟩) (Kd.R_far (p := ⟨gb266, 0, none⟩) (Kd.R_types HO251.out BK266.out (by decide)) (fun _ hk => hk.2) (.int .i64 t262)) (fun _ hk => hk.2) (.slice Ao37 t263.length co37)) (fun _ h_ => h_.1))) hb); have n1_ := Gv.a0 (Kd.R_below (by (with_reducible repeat (first | apply Kd.R_alloc | apply Kd.R_drewN | apply Kd.R_drew)); exact (Kd.R_mono (Kd.R_far (p := ⟨gb266, 1, none⟩) (Kd.R_far (p := ⟨gb266, 0, none⟩) (Kd.R_types HO256.out BK266.out (by decide)) (fun _ hk => hk.2) (.int .i64 t262)) (fun _ hk => hk.2) (.slice Ao37 t263.length co37)) (fun _ h_ => h_.1))) hb); have n2_ := Gv.a0 (Kd.R_below (by (with_reducible repeat (first | apply Kd.R_alloc | apply Kd.R_drewN | apply Kd.R_drew)); exact (Kd.R_mono (Kd.R_far (p := ⟨gb266, 1, none⟩) (Kd.R_far (p := ⟨gb266, 0, none⟩) (Kd.R_types HO265.out BK266.out (by decide)) (fun _ hk => hk.2) (.int .i64 t262)) (fun _ hk => hk.2) (.slice Ao37 t263.length co37)) (fun _ h_ => h_.1))) hb); have n3_ := Gv.a0 (blk_below (g := gb252) (o := .cells #[.int .i64 t248, .slice Ao20 t249.length co20] 40 (0, 0)) Gv.bkf hb); have n4_ := Gv.a0 (blk_below (g := gb257) (o := .cells #[.int .i64 t253, .slice Ao25 t254.length co25] 40 (0, 0)) Gv.bkf hb); have n5_ := Gv.a0 (blk_below (g := gb266) (o := .cells #[.int .i64 t262, .slice Ao37 t263.length co37] 40 (0, 0)) (by (with_reducible repeat (first | refine blk_drewN ?_ _ | refine blk_drew ?_ | refine blk_alloc ?_ _)); refine blk_put (cs := #[.int .i64 t262, .slice none 0 0]) ?_ 1 _ rfl; (with_reducible repeat (first | refine blk_drewN ?_ _ | refine blk_drew ?_ | refine blk_alloc ?_ _)); refine blk_put (cs := #[.int .i64 0, .slice none 0 0]) ?_ 0 _ rfl; (with_reducible repeat (first | refine blk_drewN ?_ _ | refine blk_drew ?_ | refine blk_alloc ?_ _)); exact BK266.out) hb); have n6_ := Gv.a0 (below_step Gv.bw hb); clear HO251; clear HO256; clear HO265; clear BK252; clear BK257; clear BK266; clear HB; have HO251 := n0_; have HO256 := n1_; have HO265 := n2_; have BK252 := n3_; have BK257 := n4_; have BK266 := n5_; have HB := n6_; clear n0_ n1_ n2_ n3_ n4_ n5_ n6_; (try clear hb); (try clear hb2); (try clear hk); (try clear hi); have hcz40_0 : w39.cell? ⟨gb257, 0, none⟩ = some (.int .i64 t253) := (blk_cell BK257.out 0).trans rfl; have hcz40_1 : w39.cell? ⟨gb257, 1, none⟩ = some (.slice Ao25 t254.length co25) := (blk_cell BK257.out 1).trans rfl; have hfz40_0 := blk_frozen BK257.out 0; have hfz40_1 := blk_frozen BK257.out 1) | ((with_reducible refine gate_callee (f := 22) rfl ?_); refine goesL_ (some 40) rfl rfl Try.func22 (by kernel_rfl) rfl #[.agg #[.int .i64 t253, .slice Ao25 t260.length co25], .int .i64 1] rfl (by (try simp only [List.map_toArray, List.map_cons, List.map_nil]); first | done | (rw [show t260.length = t254.length from (Kd.R_reads' HO256.out).1.symm] <;> rfl) | rfl | (simp only [List.length_drop, List.length_take]; rfl)) ?_; (with_reducible refine (laws_heldTable.calls t253 _ _ t260 1 t268 _ ?side1 ?side2 A14.out).mono ?_); (case side1 => repeat (first | exact (Kd.R_reads' HO256.out).2.2 | (with_reducible refine Kd.C_alloc ?_ _) | (with_reducible refine Kd.C_drewN ?_ _) | (with_reducible refine Kd.C_drew ?_))); (case side2 => rw [show t260.length = t254.length from (Kd.R_reads' HO256.out).1.symm]; exact (Kd.R_reads' HO256.out).2.1); rintro e w41 ⟨rfl, hb⟩; refine ⟨_, rfl, ?_⟩; have n0_ := Gv.a0 (Kd.R_below (Gv.kr HO251.out) hb); have n1_ := Gv.a0 (Kd.R_below (Gv.kr HO256.out) hb); have n2_ := Gv.a0 (Kd.R_below (Gv.kr HO265.out) hb); have n3_ := Gv.a0 (Gv.bb BK252.out hb); have n4_ := Gv.a0 (Gv.bb BK257.out hb); have n5_ := Gv.a0 (Gv.bb BK266.out hb); have n6_ := Gv.a0 (below_step Gv.bw hb); clear HO251; clear HO256; clear HO265; clear BK252; clear BK257; clear BK266; clear HB; have HO251 := n0_; have HO256 := n1_; have HO265 := n2_; have BK252 := n3_; have BK257 := n4_; have BK266 := n5_; have HB := n6_; clear n0_ n1_ n2_ n3_ n4_ n5_ n6_; (try clear hb); (try clear hb2); (try clear hk); (try clear hi)))
       go_ret
       exact ⟨Gv.rt, Gv.bw⟩
      ·rw [if_neg c16] at H
       exact absurd H (by simp)
    ·replace c13 := Bool.eq_false_iff.mpr c13
     subst c13
     have H1 : (none) = some r := by rw [if_neg (show ¬ (false = true) by decide)] at H; exact H
     clear H
     have H := H1
     clear H1
     exact absurd H (by simp)
   ·rw [if_neg c10] at H
    exact absurd H (by simp)
 ·replace c6 := Bool.eq_false_iff.mpr c6
  subst c6
  have H1 : (none) = some r := by rw [if_neg (show ¬ (false = true) by decide)] at H; exact H
  clear H
  have H := H1
  clear H1
  exact absurd H (by simp)

/-- THE ONE PURE STATEMENT of laws_FnExactTableNew: yours. -/
def laws_FnExactTableNew.Pure : Prop := ∀ (a0 : Int) (a1 : Int), (Lit.int .i64 a0).wf = true → (Lit.int .i64 a1).wf = true → ∃ k, laws_FnExactTableNew.f k a0 a1 = some true
theorem laws_FnExactTableNew.walk (P : laws_FnExactTableNew.Pure) (a0 : Int) (a1 : Int) (w : World) (w0 : (Lit.int .i64 a0).wf = true) (w1 : (Lit.int .i64 a1).wf = true) :
  Calls Try.prog 5 #[.int .i64 a0, .int .i64 a1] w fun e w' => e = .returned (.bool true) ∧ Below w.heap.size w w' := by
 obtain ⟨k, h⟩ := P a0 a1 w0 w1
 refine (laws_FnExactTableNew.calls k a0 a1 true w h).mono ?_
 rintro e w' ⟨rfl, hd⟩
 exact ⟨rfl, hd⟩

end Go.Proofs.Ytfnpodebjejhpaa.PTn
