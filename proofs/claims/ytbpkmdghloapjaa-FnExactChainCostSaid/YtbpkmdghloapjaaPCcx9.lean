/- Plain Lean functions of a law's Go functions, their contracts, by a program of this session (wip/pr.py over the kit's print). -/
import Derived.Test.YtbpkmdghloapjaaPCcx0
import Derived.Test.YtbpkmdghloapjaaPCcx4
import Derived.Test.YtbpkmdghloapjaaPCcx7
import Derived.Test.YtbpkmdghloapjaaPCcx8
namespace Go.Proofs.Ytbpkmdghloapjaa.PCc
open Go.RowKit Go.Proofs.YtbpkmdghloapjaaW.PrintWords Go.Proofs.YtbpkmdghloapjaaW.PrintLast Go.Proofs.YtbpkmdghloapjaaW.PrintMore
attribute [local go_sem] max2_int min2_int max_two min_two max_three min_three max_four min_four   -- for this text's walks alone
set_option linter.unusedVariables false
set_option linter.unusedSimpArgs false

/-! ### impl_Module_c47: function 46 over a closure -/
set_option maxHeartbeats 8000000 in
set_option maxRecDepth 100000 in
theorem impl_Module_c47.idx (g : Nat) (lb : Array Value) (eg : ∀ args w, (callFunc g args).run Try.prog w = .ok (.enter g args) w) (p : S38 → Option Bool) (A0 : Option Addr) (c0 : Nat) (l0 : List S38) (r : Int) (w : World) (hr0 : Kd.C k38 w A0 l0.length l0)
    (hp : ∀ (W : World) (x : S38) (b : Bool), p x = some b → Below w.heap.size w W → Calls Try.prog g (#[.agg #[.int .i64 x.f0, .int .i64 x.f1.f0.f0, .int .i64 x.f1.f0.f1, .int .i64 x.f1.f0.f2, .int .i64 x.f1.f0.f3, .int .i64 x.f1.f0.f4, .int .i64 x.f1.f1, .int .i64 x.f2.f0.f0, .int .i64 x.f2.f0.f1, .int .i64 x.f2.f0.f2, .int .i64 x.f2.f0.f3, .int .i64 x.f2.f0.f4, .int .i64 x.f2.f1, .int .i64 x.f3, .int .i64 x.f4, .int .i64 x.f5, .int .i64 x.f6]] ++ lb) W fun e w' => e = .returned (.bool b) ∧ Below W.heap.size W w') (h : Gv.idxO p l0 0 = some r) :
    Calls Try.prog 71 #[.slice A0 l0.length c0, .func (.func g) #[] lb] w fun e w' => e = .returned (.int .i64 r) ∧ Below w.heap.size w w' := by
  have hu38 := Try.underlying38
  have HR0 := Aside0.mk hr0
  have HP := Aside0.mk hp
  have hlm := hr0.2.1
  have H0 := Aside0.mk h
  clear hr0 hp h
  go_enter Try.func71, Try.ntmps71
  go_wp2
  go_loopg [5, 8] l0.length (fun gg _ s8 wr => ∃ kk : Nat, kk ≤ l0.length ∧ l0.length - kk ≤ gg ∧ s8 = .int .i64 kk ∧ Aside0 (Below w.heap.size w wr) ∧ Aside0 (Gv.idxO p (l0.drop kk) kk = some r))
  case atStart => exact ⟨0, Nat.zero_le _, by omega, rfl, ⟨Below.refl _ w⟩, ⟨H0.out⟩⟩
  case round =>
    obtain ⟨kk, hkk, hg, rfl, HB, HN⟩ := hrel
    by_cases hlt : kk < l0.length
    · have hltz : (kk : Int) < (l0.length : Int) := by omega
      have hk0 : 0 ≤ (kk : Int) := by omega
      obtain ⟨ad, e1, hx0, hx1, hx2, hx3, hx4, hx5, hx6, hx7, hx8, hx9, hx10, hx11, hx12, hx13, hx14, hx15, hx16⟩ := at_T38 (Kd.C_below HR0.out HB.out) (kk : Int) hk0 hltz
      cases e1
      obtain ⟨x_, hx_⟩ : ∃ x_, x_ = rd_T38 l0 kk := ⟨_, rfl⟩
      rw [← hx_, Int.toNat_natCast] at hx0 hx1 hx2 hx3 hx4 hx5 hx6 hx7 hx8 hx9 hx10 hx11 hx12 hx13 hx14 hx15 hx16
      have hN := HN.out
      have hget : l0.drop kk = x_ :: l0.drop (kk + 1) := by
        rw [hx_, List.drop_eq_getElem_cons hlt]
        congr 1
        unfold rd_T38
        rw [Int.toNat_natCast, List.getD_eq_getElem?_getD, List.getElem?_eq_getElem hlt]
        rfl
      rw [hget] at hN
      obtain ⟨b, hq, hN⟩ := Option.bind_eq_some_iff.mp hN
      have hcall := HP.out wr x_ b hq HB.out
      have HC := Aside0.mk hcall
      have HN2 := Aside0.mk hN
      clear hcall hN hq hget HN hx_
      cases b with
      | true =>
        have HRr := Aside0.mk (show (kk : Int) = r from Option.some.inj HN2.out)
        go_wp2_with (first | ((with_reducible refine Gv.gate_load (t := 38) rfl ?_); refine Gv.load_event (cs := [_, _, _, _, _, _, _, _, _, _, _, _, _, _, _, _, _]) rfl rfl rfl ⟨hx0, hx1, hx2, hx3, hx4, hx5, hx6, hx7, hx8, hx9, hx10, hx11, hx12, hx13, hx14, hx15, hx16, trivial⟩ Try.underlying38 rfl (by kernel_rfl) ?_))
        refine HC.out.mono ?_
        rintro e w' ⟨rfl, hb⟩
        have HB' := Aside0.mk (HB.out.trans (hb.mono HB.out.size))
        clear hb
        go_wp2_with fail
        go_ret
        exact ⟨by rw [← HRr.out]; rfl, HB'.out⟩
      | false =>
        go_wp2_with (first | ((with_reducible refine Gv.gate_load (t := 38) rfl ?_); refine Gv.load_event (cs := [_, _, _, _, _, _, _, _, _, _, _, _, _, _, _, _, _]) rfl rfl rfl ⟨hx0, hx1, hx2, hx3, hx4, hx5, hx6, hx7, hx8, hx9, hx10, hx11, hx12, hx13, hx14, hx15, hx16, trivial⟩ Try.underlying38 rfl (by kernel_rfl) ?_))
        refine HC.out.mono ?_
        rintro e w' ⟨rfl, hb⟩
        have HB' := Aside0.mk (HB.out.trans (hb.mono HB.out.size))
        clear hb
        go_wp2_with fail
        go_roundg (l0.length - (kk + 1))
        case measure => omega
        case rel =>
          have e_ : ((kk + 1 : Nat) : Int) = (kk : Int) + 1 := by omega
          exact ⟨kk + 1, by omega, by omega, by go_num, HB', ⟨by rw [e_]; exact HN2.out⟩⟩
    · have hltz : ¬ (kk : Int) < (l0.length : Int) := by omega
      have HRr := Aside0.mk (show (-1 : Int) = r from by
        have hN := HN.out
        rw [List.drop_eq_nil_of_le (by omega)] at hN
        exact Option.some.inj hN)
      go_wp2_with fail
      go_ret
      exact ⟨by rw [← HRr.out]; rfl, HB.out⟩
set_option maxHeartbeats 8000000 in
set_option maxRecDepth 100000 in
theorem impl_Module_c47.clo (k : Nat)  (x : S38) (b : Bool) (W : World)  (h : ((impl_ModuleOk.f k x.f0 x.f1.f0.f0 x.f1.f0.f1 x.f1.f0.f2 x.f1.f0.f3 x.f1.f0.f4 x.f1.f1 x.f2.f0.f0 x.f2.f0.f1 x.f2.f0.f2 x.f2.f0.f3 x.f2.f0.f4 x.f2.f1 x.f3 x.f4 x.f5 x.f6).bind fun b => some (!b)) = some b) :
    Calls Try.prog 47 (#[.agg #[.int .i64 x.f0, .int .i64 x.f1.f0.f0, .int .i64 x.f1.f0.f1, .int .i64 x.f1.f0.f2, .int .i64 x.f1.f0.f3, .int .i64 x.f1.f0.f4, .int .i64 x.f1.f1, .int .i64 x.f2.f0.f0, .int .i64 x.f2.f0.f1, .int .i64 x.f2.f0.f2, .int .i64 x.f2.f0.f3, .int .i64 x.f2.f0.f4, .int .i64 x.f2.f1, .int .i64 x.f3, .int .i64 x.f4, .int .i64 x.f5, .int .i64 x.f6]] ++ #[]) W fun e w' => e = .returned (.bool b) ∧ Below W.heap.size W w' := by
  obtain ⟨b1, h1, h⟩ := Option.bind_eq_some_iff.mp h
  obtain rfl := Option.some.inj h
  have H := Aside0.mk h1
  clear h1 h
  go_enter Try.func47, Try.ntmps47
  go_wp2_with fail
  refine (impl_ModuleOk.calls k _ _ _ _ _ _ _ _ _ _ _ _ _ _ _ _ _ _ _ H.out).mono ?_
  rintro e w' ⟨rfl, hb⟩
  have HB' := Aside0.mk hb
  clear hb
  go_wp2_with fail
  go_ret
  exact ⟨rfl, by first | exact HB'.out | exact HB'.out.below | exact ((Below.refl _ W).alloc (Nat.le_refl _) _).trans (HB'.out.mono ((Below.refl _ W).alloc (Nat.le_refl _) _).size)⟩
def impl_Module_c47.f (k : Nat) (l0 : List S38)  : Option Bool := (Gv.idxO (fun x : S38 => (impl_ModuleOk.f k x.f0 x.f1.f0.f0 x.f1.f0.f1 x.f1.f0.f2 x.f1.f0.f3 x.f1.f0.f4 x.f1.f1 x.f2.f0.f0 x.f2.f0.f1 x.f2.f0.f2 x.f2.f0.f3 x.f2.f0.f4 x.f2.f1 x.f3 x.f4 x.f5 x.f6).bind fun b => some (!b)) l0 0).bind fun i => some (decide (i ≥ 0))
theorem impl_Module_c47.mono : ∀ l0  k, LeO (impl_Module_c47.f k l0 ) (impl_Module_c47.f (k + 1) l0 ) := by
  intro l0  k r h
  unfold impl_Module_c47.f at h ⊢
  obtain ⟨i, hi, h⟩ := Option.bind_eq_some_iff.mp h
  refine Option.bind_eq_some_iff.mpr ⟨i, Gv.idxO_mono (fun x b hb => ?_) _ _ _ hi, h⟩
  obtain ⟨t, h1, h2⟩ := Option.bind_eq_some_iff.mp hb
  exact Option.bind_eq_some_iff.mpr ⟨t, impl_ModuleOk.mono _ _ _ _ _ _ _ _ _ _ _ _ _ _ _ _ _ k _ h1, h2⟩
set_option maxHeartbeats 8000000 in
set_option maxRecDepth 100000 in
theorem impl_Module_c47.calls (k : Nat) (A0 : Option Addr) (c0 : Nat) (l0 : List S38)  (r : Bool) (w : World) (hr0 : Kd.C k38 w A0 l0.length l0) (hc0_ : l0.length ≤ c0)  (h : impl_Module_c47.f k l0  = some r) :
    Calls Try.prog 46 #[.slice A0 l0.length c0, .func (.func 47) #[] #[]] w fun e w' => e = .returned (.bool r) ∧ Below w.heap.size w w' := by
  unfold impl_Module_c47.f at h
  obtain ⟨i, hi, h⟩ := Option.bind_eq_some_iff.mp h
  obtain rfl := Option.some.inj h
  have HR := Aside0.mk hr0
  have HI := Aside0.mk hi
  clear hr0 hi h
  go_enter Try.func46, Try.ntmps46
  go_wp2_with fail
  refine (impl_Module_c47.idx 47 #[] (enters_of Try.func47 (by kernel_rfl) rfl) (fun x => (impl_ModuleOk.f k x.f0 x.f1.f0.f0 x.f1.f0.f1 x.f1.f0.f2 x.f1.f0.f3 x.f1.f0.f4 x.f1.f1 x.f2.f0.f0 x.f2.f0.f1 x.f2.f0.f2 x.f2.f0.f3 x.f2.f0.f4 x.f2.f1 x.f3 x.f4 x.f5 x.f6).bind fun b => some (!b)) A0 c0 l0 i w HR.out (fun W x b hb hW => impl_Module_c47.clo k   x b W  hb) HI.out).mono ?_
  rintro e w' ⟨rfl, hb⟩
  have HB := Aside0.mk hb
  clear hb
  go_wp2_with fail
  go_ret
  exact ⟨rfl, HB.out⟩

/-! ### impl_ChainOk: function 19 -/
def impl_ChainOk.f (k : Nat) (l0 : List (S38)) : Option (Bool) := if (l0.length : Int) ≤ 8 then ((impl_Module_c47.f k l0).bind fun t414 => (some (!t414))) else (some false)
theorem impl_ChainOk.mono : ∀ a0 k, LeO (impl_ChainOk.f k a0) (impl_ChainOk.f (k + 1) a0) := by
 intro a0 k
 unfold impl_ChainOk.f
 repeat' first
   | (with_reducible exact impl_Module_c47.mono _ _)
   | (with_reducible exact LeO.refl _)
   | (with_reducible exact LeO.none _)
   | (with_reducible refine LeO.ite ?_ ?_)
   | (with_reducible refine LeO.bind ?_ (fun _ => ?_))
   | exact impl_Module_c47.mono _ _
   | exact LeO.none _
   | refine LeO.ite ?_ ?_
   | refine LeO.bind ?_ (fun _ => ?_)
set_option maxHeartbeats 8000000 in
set_option maxRecDepth 100000 in
theorem impl_ChainOk.calls (k : Nat) (A0 : Option Addr) (c0 : Nat) (l0 : List (S38)) (r : Bool) (w : World) (hr0 : Kd.C k38 w A0 l0.length l0) (hc0 : l0.length ≤ c0) (h : impl_ChainOk.f k l0 = some r) :
  Calls Try.prog 19 #[.slice A0 l0.length c0] w fun e w' => e = .returned (.bool r) ∧ Below w.heap.size w w' := by
 have HR0 := Gv.a0 hr0
 have HC0 := Gv.a0 hc0
 clear hr0 hc0
 have HB := Gv.a0 (Below.refl w.heap.size w)
 have H : (if (l0.length : Int) ≤ 8 then ((impl_Module_c47.f k l0).bind fun t414 => (some (!t414))) else (some false)) = some r := h
 clear h
 by_cases c2 : (l0.length : Int) ≤ 8
 ·rw [if_pos c2] at H
  have c2b0 : decide ((l0.length : Int) ≤ 8) = true := decide_eq_true c2
  have c2b1 : decide (l0.length ≤ 8) = true := decide_eq_true (by omega)
  clear c2
  replace H := Option.bind_eq_some_iff.mp H
  obtain ⟨t414, A30, H⟩ := H
  replace H : (some (!t414)) = some r := H
  have A3 := Gv.a0 A30
  clear A30
  obtain rfl := Option.some.inj H
  go_enter Try.func19, Try.ntmps19
  go_wp2_with (first | (go_at_call 46; (with_reducible refine (impl_Module_c47.calls k _ _ l0  t414 _ ?side1 ?side2 A3.out).mono ?_); (case side1 => repeat (first | exact HR0.out | (with_reducible refine Kd.C_alloc ?_ _) | (with_reducible refine Kd.C_drewN ?_ _) | (with_reducible refine Kd.C_drew ?_))); (case side2 => exact HC0.out); rintro e w4 ⟨rfl, hb⟩; have n0_ := Gv.a0 (below_step Gv.bw hb); clear HB; have HB := n0_; clear n0_; (try clear hb); (try clear hb2); (try clear hk); (try clear hi)))
  go_ret
  exact ⟨Gv.rt, Gv.bw⟩
 ·rw [if_neg c2] at H
  have c2b0 : decide ((l0.length : Int) ≤ 8) = false := decide_eq_false c2
  have c2b1 : decide (l0.length ≤ 8) = false := decide_eq_false (by omega)
  clear c2
  obtain rfl := Option.some.inj H
  go_enter Try.func19, Try.ntmps19
  go_wp2
  go_ret
  exact ⟨Gv.rt, Gv.bw⟩

/-! ### impl_Vec_isFrom: function 89 -/
def impl_Vec_isFrom.f (a0_0 : Int) (a0_1 : Int) (a0_2 : Int) (a1 : Int) (a2 : Int) : Option (Bool) := (impl_within.f a0_0 a1 a2).bind fun t416 => (if t416 = true then ((impl_within.f a0_1 a1 a2).bind fun t417 => (if t417 = true then ((impl_within.f a0_2 a1 a2).bind fun t418 => (some t418)) else (some false))) else (some false))
set_option maxHeartbeats 8000000 in
set_option maxRecDepth 100000 in
theorem impl_Vec_isFrom.calls (a0_0 : Int) (a0_1 : Int) (a0_2 : Int) (a1 : Int) (a2 : Int) (r : Bool) (w : World) (h : impl_Vec_isFrom.f a0_0 a0_1 a0_2 a1 a2 = some r) :
  Calls Try.prog 89 #[.agg #[.int .i64 a0_0, .int .i64 a0_1, .int .i64 a0_2], .int .i64 a1, .int .i64 a2] w fun e w' => e = .returned (.bool r) ∧ Below w.heap.size w w' := by
 have hu51 := Try.underlying51
 have HB := Gv.a0 (Below.refl w.heap.size w)
 have H : ((impl_within.f a0_0 a1 a2).bind fun t416 => (if t416 = true then ((impl_within.f a0_1 a1 a2).bind fun t417 => (if t417 = true then ((impl_within.f a0_2 a1 a2).bind fun t418 => (some t418)) else (some false))) else (some false))) = some r := h
 clear h
 replace H := Option.bind_eq_some_iff.mp H
 obtain ⟨t416, A40, H⟩ := H
 replace H : (if t416 = true then ((impl_within.f a0_1 a1 a2).bind fun t417 => (if t417 = true then ((impl_within.f a0_2 a1 a2).bind fun t418 => (some t418)) else (some false))) else (some false)) = some r := H
 have A4 := Gv.a0 A40
 clear A40
 by_cases c5 : t416 = true
 ·subst c5
  have H1 : ((impl_within.f a0_1 a1 a2).bind fun t417 => (if t417 = true then ((impl_within.f a0_2 a1 a2).bind fun t418 => (some t418)) else (some false))) = some r := by rw [if_pos rfl] at H; exact H
  clear H
  have H := H1
  clear H1
  replace H := Option.bind_eq_some_iff.mp H
  obtain ⟨t417, A60, H⟩ := H
  replace H : (if t417 = true then ((impl_within.f a0_2 a1 a2).bind fun t418 => (some t418)) else (some false)) = some r := H
  have A6 := Gv.a0 A60
  clear A60
  by_cases c7 : t417 = true
  ·subst c7
   have H1 : ((impl_within.f a0_2 a1 a2).bind fun t418 => (some t418)) = some r := by rw [if_pos rfl] at H; exact H
   clear H
   have H := H1
   clear H1
   replace H := Option.bind_eq_some_iff.mp H
   obtain ⟨t418, A80, H⟩ := H
   replace H : (some t418) = some r := H
   have A8 := Gv.a0 A80
   clear A80
   obtain rfl := Option.some.inj H
   go_enter Try.func89, Try.ntmps89
   go_wp2_with (first | ((with_reducible refine gate_dst (N := 3) rfl ?_); refine box_event ?hg (N := 3) ?hd (cs := #[.int .i64 a0_0, .int .i64 a0_1, .int .i64 a0_2]) (t := 51) ?hr ?_; (case hd => rfl); (case hg => rfl); (case hr => first | (go_simp; done) | (go_simp; rfl)); intro gb415 hg w9 hbox hb; have n0_ := Gv.a0 (below_step Gv.bw hb); have n1_ := Gv.a0 (hbox); have n2_ := Gv.a0 ((Gv.ble hg Gv.bw : w.heap.size ≤ gb415)); have n3_ := Gv.a0 ((Gv.ble hg Gv.bw : w.heap.size ≤ gb415)); clear HB; have HB := n0_; have BK415 := n1_; have GW415 := n2_; have GE415 := n3_; clear n0_ n1_ n2_ n3_; clear hb hbox hg; have hcz10_0 : w9.cell? ⟨gb415, 0, none⟩ = some (.int .i64 a0_0) := (blk_cell BK415.out 0).trans rfl; have hcz10_1 : w9.cell? ⟨gb415, 1, none⟩ = some (.int .i64 a0_1) := (blk_cell BK415.out 1).trans rfl; have hcz10_2 : w9.cell? ⟨gb415, 2, none⟩ = some (.int .i64 a0_2) := (blk_cell BK415.out 2).trans rfl; have hfz10_0 := blk_frozen BK415.out 0; have hfz10_1 := blk_frozen BK415.out 1; have hfz10_2 := blk_frozen BK415.out 2) | ((with_reducible refine gate_callee (f := 44) rfl ?_); refine goesL_ (some 11) rfl rfl Try.func44 (by kernel_rfl) rfl #[.int .i64 a0_0, .int .i64 a1, .int .i64 a2] rfl Gv.lm ?_; (with_reducible refine (impl_within.calls a0_0 a1 a2 true _ A4.out).mono ?_); rintro e w' ⟨rfl, ⟨nd, rfl⟩⟩; refine ⟨_, rfl, ?_⟩) | (go_at_call 44; (with_reducible refine (impl_within.calls a0_1 a1 a2 true _ A6.out).mono ?_); rintro e w' ⟨rfl, ⟨nd, rfl⟩⟩) | (go_at_call 44; (with_reducible refine (impl_within.calls a0_2 a1 a2 t418 _ A8.out).mono ?_); rintro e w' ⟨rfl, ⟨nd, rfl⟩⟩))
   go_ret
   exact ⟨Gv.rt, Gv.bw⟩
  ·replace c7 := Bool.eq_false_iff.mpr c7
   subst c7
   have H1 : (some false) = some r := by rw [if_neg (show ¬ (false = true) by decide)] at H; exact H
   clear H
   have H := H1
   clear H1
   obtain rfl := Option.some.inj H
   go_enter Try.func89, Try.ntmps89
   go_wp2_with (first | ((with_reducible refine gate_dst (N := 3) rfl ?_); refine box_event ?hg (N := 3) ?hd (cs := #[.int .i64 a0_0, .int .i64 a0_1, .int .i64 a0_2]) (t := 51) ?hr ?_; (case hd => rfl); (case hg => rfl); (case hr => first | (go_simp; done) | (go_simp; rfl)); intro gb415 hg w11 hbox hb; have n0_ := Gv.a0 (below_step Gv.bw hb); have n1_ := Gv.a0 (hbox); have n2_ := Gv.a0 ((Gv.ble hg Gv.bw : w.heap.size ≤ gb415)); have n3_ := Gv.a0 ((Gv.ble hg Gv.bw : w.heap.size ≤ gb415)); clear HB; have HB := n0_; have BK415 := n1_; have GW415 := n2_; have GE415 := n3_; clear n0_ n1_ n2_ n3_; clear hb hbox hg; have hcz12_0 : w11.cell? ⟨gb415, 0, none⟩ = some (.int .i64 a0_0) := (blk_cell BK415.out 0).trans rfl; have hcz12_1 : w11.cell? ⟨gb415, 1, none⟩ = some (.int .i64 a0_1) := (blk_cell BK415.out 1).trans rfl; have hcz12_2 : w11.cell? ⟨gb415, 2, none⟩ = some (.int .i64 a0_2) := (blk_cell BK415.out 2).trans rfl; have hfz12_0 := blk_frozen BK415.out 0; have hfz12_1 := blk_frozen BK415.out 1; have hfz12_2 := blk_frozen BK415.out 2) | ((with_reducible refine gate_callee (f := 44) rfl ?_); refine goesL_ (some 11) rfl rfl Try.func44 (by kernel_rfl) rfl #[.int .i64 a0_0, .int .i64 a1, .int .i64 a2] rfl Gv.lm ?_; (with_reducible refine (impl_within.calls a0_0 a1 a2 true _ A4.out).mono ?_); rintro e w' ⟨rfl, ⟨nd, rfl⟩⟩; refine ⟨_, rfl, ?_⟩) | (go_at_call 44; (with_reducible refine (impl_within.calls a0_1 a1 a2 false _ A6.out).mono ?_); rintro e w' ⟨rfl, ⟨nd, rfl⟩⟩))
   go_ret
   exact ⟨Gv.rt, Gv.bw⟩
 ·replace c5 := Bool.eq_false_iff.mpr c5
  subst c5
  have H1 : (some false) = some r := by rw [if_neg (show ¬ (false = true) by decide)] at H; exact H
  clear H
  have H := H1
  clear H1
  obtain rfl := Option.some.inj H
  go_enter Try.func89, Try.ntmps89
  go_wp2_with (first | ((with_reducible refine gate_dst (N := 3) rfl ?_); refine box_event ?hg (N := 3) ?hd (cs := #[.int .i64 a0_0, .int .i64 a0_1, .int .i64 a0_2]) (t := 51) ?hr ?_; (case hd => rfl); (case hg => rfl); (case hr => first | (go_simp; done) | (go_simp; rfl)); intro gb415 hg w13 hbox hb; have n0_ := Gv.a0 (below_step Gv.bw hb); have n1_ := Gv.a0 (hbox); have n2_ := Gv.a0 ((Gv.ble hg Gv.bw : w.heap.size ≤ gb415)); have n3_ := Gv.a0 ((Gv.ble hg Gv.bw : w.heap.size ≤ gb415)); clear HB; have HB := n0_; have BK415 := n1_; have GW415 := n2_; have GE415 := n3_; clear n0_ n1_ n2_ n3_; clear hb hbox hg; have hcz14_0 : w13.cell? ⟨gb415, 0, none⟩ = some (.int .i64 a0_0) := (blk_cell BK415.out 0).trans rfl; have hcz14_1 : w13.cell? ⟨gb415, 1, none⟩ = some (.int .i64 a0_1) := (blk_cell BK415.out 1).trans rfl; have hcz14_2 : w13.cell? ⟨gb415, 2, none⟩ = some (.int .i64 a0_2) := (blk_cell BK415.out 2).trans rfl; have hfz14_0 := blk_frozen BK415.out 0; have hfz14_1 := blk_frozen BK415.out 1; have hfz14_2 := blk_frozen BK415.out 2) | ((with_reducible refine gate_callee (f := 44) rfl ?_); refine goesL_ (some 11) rfl rfl Try.func44 (by kernel_rfl) rfl #[.int .i64 a0_0, .int .i64 a1, .int .i64 a2] rfl Gv.lm ?_; (with_reducible refine (impl_within.calls a0_0 a1 a2 false _ A4.out).mono ?_); rintro e w' ⟨rfl, ⟨nd, rfl⟩⟩; refine ⟨_, rfl, ?_⟩))
  go_ret
  exact ⟨Gv.rt, Gv.bw⟩

/-! ### impl_ProfOk: function 77 -/
def impl_ProfOk.f (a0_0 : Int) (a0_1 : Int) (a0_2 : Int) (a0_3 : Int) (a0_4 : Int) (a0_5 : Int) : Option (Bool) := (impl_Vec_isFrom.f a0_0 a0_1 a0_2 0 1000).bind fun t420 => (if t420 = true then ((impl_Vec_isFrom.f a0_3 a0_4 a0_5 0 1000).bind fun t421 => (some t421)) else (some false))
set_option maxHeartbeats 8000000 in
set_option maxRecDepth 100000 in
theorem impl_ProfOk.calls (a0_0 : Int) (a0_1 : Int) (a0_2 : Int) (a0_3 : Int) (a0_4 : Int) (a0_5 : Int) (r : Bool) (w : World) (h : impl_ProfOk.f a0_0 a0_1 a0_2 a0_3 a0_4 a0_5 = some r) :
  Calls Try.prog 77 #[.agg #[.int .i64 a0_0, .int .i64 a0_1, .int .i64 a0_2, .int .i64 a0_3, .int .i64 a0_4, .int .i64 a0_5]] w fun e w' => e = .returned (.bool r) ∧ Below w.heap.size w w' := by
 have hu75 := Try.underlying75
 have hu51 := Try.underlying51
 have HB := Gv.a0 (Below.refl w.heap.size w)
 have H : ((impl_Vec_isFrom.f a0_0 a0_1 a0_2 0 1000).bind fun t420 => (if t420 = true then ((impl_Vec_isFrom.f a0_3 a0_4 a0_5 0 1000).bind fun t421 => (some t421)) else (some false))) = some r := h
 clear h
 replace H := Option.bind_eq_some_iff.mp H
 obtain ⟨t420, A20, H⟩ := H
 replace H : (if t420 = true then ((impl_Vec_isFrom.f a0_3 a0_4 a0_5 0 1000).bind fun t421 => (some t421)) else (some false)) = some r := H
 have A2 := Gv.a0 A20
 clear A20
 by_cases c3 : t420 = true
 ·subst c3
  have H1 : ((impl_Vec_isFrom.f a0_3 a0_4 a0_5 0 1000).bind fun t421 => (some t421)) = some r := by rw [if_pos rfl] at H; exact H
  clear H
  have H := H1
  clear H1
  replace H := Option.bind_eq_some_iff.mp H
  obtain ⟨t421, A40, H⟩ := H
  replace H : (some t421) = some r := H
  have A4 := Gv.a0 A40
  clear A40
  obtain rfl := Option.some.inj H
  go_enter Try.func77, Try.ntmps77
  go_wp2_with (first | ((with_reducible refine gate_dst (N := 1) rfl ?_); refine box_event ?hg (N := 1) ?hd (cs := #[.int .i64 a0_0, .int .i64 a0_1, .int .i64 a0_2, .int .i64 a0_3, .int .i64 a0_4, .int .i64 a0_5]) (t := 75) ?hr ?_; (case hd => rfl); (case hg => rfl); (case hr => first | (go_simp; done) | (go_simp; rfl)); intro gb419 hg w5 hbox hb; have n0_ := Gv.a0 (below_step Gv.bw hb); have n1_ := Gv.a0 (hbox); have n2_ := Gv.a0 ((Gv.ble hg Gv.bw : w.heap.size ≤ gb419)); have n3_ := Gv.a0 ((Gv.ble hg Gv.bw : w.heap.size ≤ gb419)); clear HB; have HB := n0_; have BK419 := n1_; have GW419 := n2_; have GE419 := n3_; clear n0_ n1_ n2_ n3_; clear hb hbox hg; obtain ⟨hcz6_0, hcz6_1, hcz6_2, hcz6_3, hcz6_4, hcz6_5⟩ := Gv.c6 BK419.out; obtain ⟨hfz6_0, hfz6_1, hfz6_2, hfz6_3, hfz6_4, hfz6_5⟩ := Gv.f6 BK419.out) | ((with_reducible refine gate_callee (f := 89) rfl ?_); refine goesL_ (some 5) rfl rfl Try.func89 (by kernel_rfl) rfl #[.agg #[.int .i64 a0_0, .int .i64 a0_1, .int .i64 a0_2], .int .i64 0, .int .i64 1000] rfl Gv.lm ?_; (with_reducible refine (impl_Vec_isFrom.calls a0_0 a0_1 a0_2 0 1000 true _ A2.out).mono ?_); rintro e w7 ⟨rfl, hb⟩; refine ⟨_, rfl, ?_⟩; have n0_ := Gv.a0 (Gv.bb BK419.out hb); have n1_ := Gv.a0 (below_step Gv.bw hb); clear BK419; clear HB; have BK419 := n0_; have HB := n1_; clear n0_ n1_; (try clear hb); (try clear hb2); (try clear hk); (try clear hi); obtain ⟨hcz8_0, hcz8_1, hcz8_2, hcz8_3, hcz8_4, hcz8_5⟩ := Gv.c6 BK419.out; obtain ⟨hfz8_0, hfz8_1, hfz8_2, hfz8_3, hfz8_4, hfz8_5⟩ := Gv.f6 BK419.out) | (go_at_call 89; (with_reducible refine (impl_Vec_isFrom.calls a0_3 a0_4 a0_5 0 1000 t421 _ A4.out).mono ?_); rintro e w9 ⟨rfl, hb⟩; have n0_ := Gv.a0 (Gv.bb BK419.out hb); have n1_ := Gv.a0 (below_step Gv.bw hb); clear BK419; clear HB; have BK419 := n0_; have HB := n1_; clear n0_ n1_; (try clear hb); (try clear hb2); (try clear hk); (try clear hi)))
  go_ret
  exact ⟨Gv.rt, Gv.bw⟩
 ·replace c3 := Bool.eq_false_iff.mpr c3
  subst c3
  have H1 : (some false) = some r := by rw [if_neg (show ¬ (false = true) by decide)] at H; exact H
  clear H
  have H := H1
  clear H1
  obtain rfl := Option.some.inj H
  go_enter Try.func77, Try.ntmps77
  go_wp2_with (first | ((with_reducible refine gate_dst (N := 1) rfl ?_); refine box_event ?hg (N := 1) ?hd (cs := #[.int .i64 a0_0, .int .i64 a0_1, .int .i64 a0_2, .int .i64 a0_3, .int .i64 a0_4, .int .i64 a0_5]) (t := 75) ?hr ?_; (case hd => rfl); (case hg => rfl); (case hr => first | (go_simp; done) | (go_simp; rfl)); intro gb419 hg w10 hbox hb; have n0_ := Gv.a0 (below_step Gv.bw hb); have n1_ := Gv.a0 (hbox); have n2_ := Gv.a0 ((Gv.ble hg Gv.bw : w.heap.size ≤ gb419)); have n3_ := Gv.a0 ((Gv.ble hg Gv.bw : w.heap.size ≤ gb419)); clear HB; have HB := n0_; have BK419 := n1_; have GW419 := n2_; have GE419 := n3_; clear n0_ n1_ n2_ n3_; clear hb hbox hg; obtain ⟨hcz11_0, hcz11_1, hcz11_2, hcz11_3, hcz11_4, hcz11_5⟩ := Gv.c6 BK419.out; obtain ⟨hfz11_0, hfz11_1, hfz11_2, hfz11_3, hfz11_4, hfz11_5⟩ := Gv.f6 BK419.out) | ((with_reducible refine gate_callee (f := 89) rfl ?_); refine goesL_ (some 5) rfl rfl Try.func89 (by kernel_rfl) rfl #[.agg #[.int .i64 a0_0, .int .i64 a0_1, .int .i64 a0_2], .int .i64 0, .int .i64 1000] rfl Gv.lm ?_; (with_reducible refine (impl_Vec_isFrom.calls a0_0 a0_1 a0_2 0 1000 false _ A2.out).mono ?_); rintro e w12 ⟨rfl, hb⟩; refine ⟨_, rfl, ?_⟩; have n0_ := Gv.a0 (Gv.bb BK419.out hb); have n1_ := Gv.a0 (below_step Gv.bw hb); clear BK419; clear HB; have BK419 := n0_; have HB := n1_; clear n0_ n1_; (try clear hb); (try clear hb2); (try clear hk); (try clear hi)))
  go_ret
  exact ⟨Gv.rt, Gv.bw⟩

/-! ### impl_Prof_c76: function 75 over a closure -/
set_option maxHeartbeats 8000000 in
set_option maxRecDepth 100000 in
theorem impl_Prof_c76.idx (g : Nat) (lb : Array Value) (eg : ∀ args w, (callFunc g args).run Try.prog w = .ok (.enter g args) w) (p : S75 → Option Bool) (A0 : Option Addr) (c0 : Nat) (l0 : List S75) (r : Int) (w : World) (hr0 : Kd.C k75 w A0 l0.length l0)
    (hp : ∀ (W : World) (x : S75) (b : Bool), p x = some b → Below w.heap.size w W → Calls Try.prog g (#[.agg #[.int .i64 x.f0.f0, .int .i64 x.f0.f1, .int .i64 x.f0.f2, .int .i64 x.f1.f0, .int .i64 x.f1.f1, .int .i64 x.f1.f2]] ++ lb) W fun e w' => e = .returned (.bool b) ∧ Below W.heap.size W w') (h : Gv.idxO p l0 0 = some r) :
    Calls Try.prog 88 #[.slice A0 l0.length c0, .func (.func g) #[] lb] w fun e w' => e = .returned (.int .i64 r) ∧ Below w.heap.size w w' := by
  have hu75 := Try.underlying75
  have HR0 := Aside0.mk hr0
  have HP := Aside0.mk hp
  have hlm := hr0.2.1
  have H0 := Aside0.mk h
  clear hr0 hp h
  go_enter Try.func88, Try.ntmps88
  go_wp2
  go_loopg [5, 8] l0.length (fun gg _ s8 wr => ∃ kk : Nat, kk ≤ l0.length ∧ l0.length - kk ≤ gg ∧ s8 = .int .i64 kk ∧ Aside0 (Below w.heap.size w wr) ∧ Aside0 (Gv.idxO p (l0.drop kk) kk = some r))
  case atStart => exact ⟨0, Nat.zero_le _, by omega, rfl, ⟨Below.refl _ w⟩, ⟨H0.out⟩⟩
  case round =>
    obtain ⟨kk, hkk, hg, rfl, HB, HN⟩ := hrel
    by_cases hlt : kk < l0.length
    · have hltz : (kk : Int) < (l0.length : Int) := by omega
      have hk0 : 0 ≤ (kk : Int) := by omega
      obtain ⟨ad, e1, hx0, hx1, hx2, hx3, hx4, hx5⟩ := at_T75 (Kd.C_below HR0.out HB.out) (kk : Int) hk0 hltz
      cases e1
      obtain ⟨x_, hx_⟩ : ∃ x_, x_ = rd_T75 l0 kk := ⟨_, rfl⟩
      rw [← hx_, Int.toNat_natCast] at hx0 hx1 hx2 hx3 hx4 hx5
      have hN := HN.out
      have hget : l0.drop kk = x_ :: l0.drop (kk + 1) := by
        rw [hx_, List.drop_eq_getElem_cons hlt]
        congr 1
        unfold rd_T75
        rw [Int.toNat_natCast, List.getD_eq_getElem?_getD, List.getElem?_eq_getElem hlt]
        rfl
      rw [hget] at hN
      obtain ⟨b, hq, hN⟩ := Option.bind_eq_some_iff.mp hN
      have hcall := HP.out wr x_ b hq HB.out
      have HC := Aside0.mk hcall
      have HN2 := Aside0.mk hN
      clear hcall hN hq hget HN hx_
      cases b with
      | true =>
        have HRr := Aside0.mk (show (kk : Int) = r from Option.some.inj HN2.out)
        go_wp2_with (first | ((with_reducible refine Gv.gate_load (t := 75) rfl ?_); refine Gv.load_event (cs := [_, _, _, _, _, _]) rfl rfl rfl ⟨hx0, hx1, hx2, hx3, hx4, hx5, trivial⟩ Try.underlying75 rfl (by kernel_rfl) ?_))
        refine HC.out.mono ?_
        rintro e w' ⟨rfl, hb⟩
        have HB' := Aside0.mk (HB.out.trans (hb.mono HB.out.size))
        clear hb
        go_wp2_with fail
        go_ret
        exact ⟨by rw [← HRr.out]; rfl, HB'.out⟩
      | false =>
        go_wp2_with (first | ((with_reducible refine Gv.gate_load (t := 75) rfl ?_); refine Gv.load_event (cs := [_, _, _, _, _, _]) rfl rfl rfl ⟨hx0, hx1, hx2, hx3, hx4, hx5, trivial⟩ Try.underlying75 rfl (by kernel_rfl) ?_))
        refine HC.out.mono ?_
        rintro e w' ⟨rfl, hb⟩
        have HB' := Aside0.mk (HB.out.trans (hb.mono HB.out.size))
        clear hb
        go_wp2_with fail
        go_roundg (l0.length - (kk + 1))
        case measure => omega
        case rel =>
          have e_ : ((kk + 1 : Nat) : Int) = (kk : Int) + 1 := by omega
          exact ⟨kk + 1, by omega, by omega, by go_num, HB', ⟨by rw [e_]; exact HN2.out⟩⟩
    · have hltz : ¬ (kk : Int) < (l0.length : Int) := by omega
      have HRr := Aside0.mk (show (-1 : Int) = r from by
        have hN := HN.out
        rw [List.drop_eq_nil_of_le (by omega)] at hN
        exact Option.some.inj hN)
      go_wp2_with fail
      go_ret
      exact ⟨by rw [← HRr.out]; rfl, HB.out⟩
set_option maxHeartbeats 8000000 in
set_option maxRecDepth 100000 in
theorem impl_Prof_c76.clo  (x : S75) (b : Bool) (W : World)  (h : ((impl_ProfOk.f x.f0.f0 x.f0.f1 x.f0.f2 x.f1.f0 x.f1.f1 x.f1.f2).bind fun b => some (!b)) = some b) :
    Calls Try.prog 76 (#[.agg #[.int .i64 x.f0.f0, .int .i64 x.f0.f1, .int .i64 x.f0.f2, .int .i64 x.f1.f0, .int .i64 x.f1.f1, .int .i64 x.f1.f2]] ++ #[]) W fun e w' => e = .returned (.bool b) ∧ Below W.heap.size W w' := by
  obtain ⟨b1, h1, h⟩ := Option.bind_eq_some_iff.mp h
  obtain rfl := Option.some.inj h
  have H := Aside0.mk h1
  clear h1 h
  go_enter Try.func76, Try.ntmps76
  go_wp2_with fail
  refine (impl_ProfOk.calls _ _ _ _ _ _ _ _ H.out).mono ?_
  rintro e w' ⟨rfl, hb⟩
  have HB' := Aside0.mk hb
  clear hb
  go_wp2_with fail
  go_ret
  exact ⟨rfl, by first | exact HB'.out | exact HB'.out.below | exact ((Below.refl _ W).alloc (Nat.le_refl _) _).trans (HB'.out.mono ((Below.refl _ W).alloc (Nat.le_refl _) _).size)⟩
def impl_Prof_c76.f (l0 : List S75)  : Option Bool := (Gv.idxO (fun x : S75 => (impl_ProfOk.f x.f0.f0 x.f0.f1 x.f0.f2 x.f1.f0 x.f1.f1 x.f1.f2).bind fun b => some (!b)) l0 0).bind fun i => some (decide (i ≥ 0))
set_option maxHeartbeats 8000000 in
set_option maxRecDepth 100000 in
theorem impl_Prof_c76.calls (A0 : Option Addr) (c0 : Nat) (l0 : List S75)  (r : Bool) (w : World) (hr0 : Kd.C k75 w A0 l0.length l0) (hc0_ : l0.length ≤ c0)  (h : impl_Prof_c76.f l0  = some r) :
    Calls Try.prog 75 #[.slice A0 l0.length c0, .func (.func 76) #[] #[]] w fun e w' => e = .returned (.bool r) ∧ Below w.heap.size w w' := by
  unfold impl_Prof_c76.f at h
  obtain ⟨i, hi, h⟩ := Option.bind_eq_some_iff.mp h
  obtain rfl := Option.some.inj h
  have HR := Aside0.mk hr0
  have HI := Aside0.mk hi
  clear hr0 hi h
  go_enter Try.func75, Try.ntmps75
  go_wp2_with fail
  refine (impl_Prof_c76.idx 76 #[] (enters_of Try.func76 (by kernel_rfl) rfl) (fun x => (impl_ProfOk.f x.f0.f0 x.f0.f1 x.f0.f2 x.f1.f0 x.f1.f1 x.f1.f2).bind fun b => some (!b)) A0 c0 l0 i w HR.out (fun W x b hb hW => impl_Prof_c76.clo   x b W  hb) HI.out).mono ?_
  rintro e w' ⟨rfl, hb⟩
  have HB := Aside0.mk hb
  clear hb
  go_wp2_with fail
  go_ret
  exact ⟨rfl, HB.out⟩

/-! ### impl_areProfs: function 53 -/
def impl_areProfs.f (l0 : List (S75)) : Option (Bool) := if (l0.length : Int) = 7 then ((impl_Prof_c76.f l0).bind fun t422 => (some (!t422))) else (some false)
set_option maxHeartbeats 8000000 in
set_option maxRecDepth 100000 in
theorem impl_areProfs.calls (A0 : Option Addr) (c0 : Nat) (l0 : List (S75)) (r : Bool) (w : World) (hr0 : Kd.C k75 w A0 l0.length l0) (hc0 : l0.length ≤ c0) (h : impl_areProfs.f l0 = some r) :
  Calls Try.prog 53 #[.slice A0 l0.length c0] w fun e w' => e = .returned (.bool r) ∧ Below w.heap.size w w' := by
 have HR0 := Gv.a0 hr0
 have HC0 := Gv.a0 hc0
 clear hr0 hc0
 have HB := Gv.a0 (Below.refl w.heap.size w)
 have H : (if (l0.length : Int) = 7 then ((impl_Prof_c76.f l0).bind fun t422 => (some (!t422))) else (some false)) = some r := h
 clear h
 by_cases c2 : (l0.length : Int) = 7
 ·rw [if_pos c2] at H
  have c2b0 : ((l0.length : Int) == 7) = true := beq_iff_eq.mpr c2
  have c2b1 : ((l0.length : Int) != 7) = false := bne_eq_false_iff_eq.mpr c2
  clear c2
  replace H := Option.bind_eq_some_iff.mp H
  obtain ⟨t422, A30, H⟩ := H
  replace H : (some (!t422)) = some r := H
  have A3 := Gv.a0 A30
  clear A30
  obtain rfl := Option.some.inj H
  go_enter Try.func53, Try.ntmps53
  go_wp2_with (first | (go_at_call 75; (with_reducible refine (impl_Prof_c76.calls _ _ l0  t422 _ ?side1 ?side2 A3.out).mono ?_); (case side1 => repeat (first | exact HR0.out | (with_reducible refine Kd.C_alloc ?_ _) | (with_reducible refine Kd.C_drewN ?_ _) | (with_reducible refine Kd.C_drew ?_))); (case side2 => exact HC0.out); rintro e w4 ⟨rfl, hb⟩; have n0_ := Gv.a0 (below_step Gv.bw hb); clear HB; have HB := n0_; clear n0_; (try clear hb); (try clear hb2); (try clear hk); (try clear hi)))
  go_ret
  exact ⟨Gv.rt, Gv.bw⟩
 ·rw [if_neg c2] at H
  have c2b0 : ((l0.length : Int) == 7) = false := beq_eq_false_iff_ne.mpr c2
  have c2b1 : ((l0.length : Int) != 7) = true := bne_iff_ne.mpr c2
  obtain rfl := Option.some.inj H
  go_enter Try.func53, Try.ntmps53
  go_wp2
  go_ret
  exact ⟨Gv.rt, Gv.bw⟩

/-! ### impl_isSize: function 54 -/
def impl_isSize.f (a0 : Int) : Option (Bool) := (impl_within.f a0 0 1600).bind fun t423 => (some t423)
set_option maxHeartbeats 8000000 in
set_option maxRecDepth 100000 in
theorem impl_isSize.calls (a0 : Int) (r : Bool) (w : World) (h : impl_isSize.f a0 = some r) :
  Calls Try.prog 54 #[.int .i64 a0] w fun e w' => e = .returned (.bool r) ∧ Drawn0 w w' := by
 have H : ((impl_within.f a0 0 1600).bind fun t423 => (some t423)) = some r := h
 clear h
 replace H := Option.bind_eq_some_iff.mp H
 obtain ⟨t423, A20, H⟩ := H
 replace H : (some t423) = some r := H
 have A2 := Gv.a0 A20
 clear A20
 obtain rfl := Option.some.inj H
 go_enter Try.func54, Try.ntmps54
 go_wp2_with (first | ((with_reducible refine gate_callee (f := 44) rfl ?_); refine goesL_ (some 4) rfl rfl Try.func44 (by kernel_rfl) rfl #[.int .i64 a0, .int .i64 0, .int .i64 1600] rfl Gv.lm ?_; (with_reducible refine (impl_within.calls a0 0 1600 t423 _ A2.out).mono ?_); rintro e w' ⟨rfl, ⟨nd, rfl⟩⟩; refine ⟨_, rfl, ?_⟩))
 go_ret
 exact ⟨by first | rfl | (simp; done) | (simp [Int.tdiv_eq_ediv_of_nonneg]; done) | (simp [*]; done), by repeat (first | exact Drawn0.refl _ | apply Drawn0.step)⟩

/-! ### impl_both: function 78 -/
def impl_both.f (Fo : Int → Int → Option Int) (a0_0 : Int) (a0_1 : Int) (a0_2 : Int) (a1_0 : Int) (a1_1 : Int) (a1_2 : Int) : Option (Int × Int × Int) := (Fo a0_0 a1_0).bind fun t427 => ((Fo a0_1 a1_1).bind fun t428 => ((Fo a0_2 a1_2).bind fun t429 => (some (t427, t428, t429))))
def impl_both.T1 : Bool × List (List Nat × List Nat) := (true, [([], []), ([], []), ([1], [1]), ([], []), ([3], [3]), ([0, 2, 4], [0, 2, 4]), ([], []), ([], []), ([7], [7]), ([], []), ([9], [9]), ([6, 8, 10, 5], [6, 8, 10]), ([], []), ([], []), ([13], [13]), ([], []), ([15], [15]), ([12, 14, 16, 11], [12, 14, 16]), ([5, 11, 17], [5, 11, 17]), ([18, 17, 0, 1, 2, 3, 4, 5, 6, 7, 8, 9, 10, 11, 12, 13, 14, 15, 16, 17, 18], [18])])
def impl_both.B1 : List Nat := [0, 0, 2, 0, 8, 31, 0, 0, 128, 0, 512, 2047, 0, 0, 8192, 0, 32768, 131071, 262143, 524287]
theorem impl_both.tab1 : rtab .any (opsOf Try.f78 1) = impl_both.T1 := by kernel_rfl
theorem impl_both.bits1 : waitsOk impl_both.T1.2 impl_both.B1 = true := by kernel_rfl
set_option maxHeartbeats 8000000 in
set_option maxRecDepth 100000 in
theorem impl_both.gen (fn : Nat) (fnc : Func) (hfn_ : Try.prog.funcs[fn]? = some fnc) (hnm_ : (fnc.name == "runtime.NumGoroutine") = false) (hbd_ : fnc.body.isSome = true) (lb : Array Value) (Fo : Int → Int → Option Int) (a0_0 : Int) (a0_1 : Int) (a0_2 : Int) (a1_0 : Int) (a1_1 : Int) (a1_2 : Int) (r1 : Int) (r2 : Int) (r3 : Int) (w : World) (hfo_ : ∀ (W : World) (x0 : Int) (x1 : Int) (r : Int), Below w.heap.size w W → Fo x0 x1 = some r → Calls Try.prog fn (#[.int .i64 x0, .int .i64 x1] ++ lb) W fun e w' => e = .returned (.int .i64 r) ∧ Below W.heap.size W w') (h : impl_both.f Fo a0_0 a0_1 a0_2 a1_0 a1_1 a1_2 = some (r1, r2, r3)) :
  Calls Try.prog 78 #[.agg #[.int .i64 a0_0, .int .i64 a0_1, .int .i64 a0_2], .agg #[.int .i64 a1_0, .int .i64 a1_1, .int .i64 a1_2], .func (.func fn) #[] lb] w fun e w' => e = .returned (.agg #[.int .i64 r1, .int .i64 r2, .int .i64 r3]) ∧ Below w.heap.size w w' := by
 have HFo := Gv.a0 hfo_
 clear hfo_
 have hu51 := Try.underlying51
 have HB := Gv.a0 (Below.refl w.heap.size w)
 have H : ((Fo a0_0 a1_0).bind fun t427 => ((Fo a0_1 a1_1).bind fun t428 => ((Fo a0_2 a1_2).bind fun t429 => (some (t427, t428, t429))))) = some (r1, r2, r3) := h
 clear h
 replace H := Option.bind_eq_some_iff.mp H
 obtain ⟨t427, A30, H⟩ := H
 replace H : ((Fo a0_1 a1_1).bind fun t428 => ((Fo a0_2 a1_2).bind fun t429 => (some (t427, t428, t429)))) = some (r1, r2, r3) := H
 have A3 := Gv.a0 A30
 clear A30
 replace H := Option.bind_eq_some_iff.mp H
 obtain ⟨t428, A40, H⟩ := H
 replace H : ((Fo a0_2 a1_2).bind fun t429 => (some (t427, t428, t429))) = some (r1, r2, r3) := H
 have A4 := Gv.a0 A40
 clear A40
 replace H := Option.bind_eq_some_iff.mp H
 obtain ⟨t429, A50, H⟩ := H
 replace H : (some (t427, t428, t429)) = some (r1, r2, r3) := H
 have A5 := Gv.a0 A50
 clear A50
 simp only [Option.some.injEq, Prod.mk.injEq] at H
 obtain ⟨rfl, rfl, rfl⟩ := H
 go_enter Try.func78, Try.ntmps78
 try go_wp2_with (first | ((with_reducible refine gate_dst (N := 3) rfl ?_); refine box_event ?hg (N := 3) ?hd (cs := #[.int .i64 a0_0, .int .i64 a0_1, .int .i64 a0_2]) (t := 51) ?hr ?_; (case hd => rfl); (case hg => rfl); (case hr => first | (go_simp; done) | (go_simp; rfl)); intro gb424 hg w6 hbox hb; have n0_ := Gv.a0 (below_step Gv.bw hb); have n1_ := Gv.a0 (hbox); have n2_ := Gv.a0 ((Gv.ble hg Gv.bw : w.heap.size ≤ gb424)); have n3_ := Gv.a0 ((Gv.ble hg Gv.bw : w.heap.size ≤ gb424)); clear HB; have HB := n0_; have BK424 := n1_; have GW424 := n2_; have GE424 := n3_; clear n0_ n1_ n2_ n3_; clear hb hbox hg) | ((with_reducible refine gate_dst (N := 4) rfl ?_); refine box_event ?hg (N := 4) ?hd (cs := #[.int .i64 a1_0, .int .i64 a1_1, .int .i64 a1_2]) (t := 51) ?hr ?_; (case hd => rfl); (case hg => rfl); (case hr => first | (go_simp; done) | (go_simp; rfl)); intro gb425 hg w7 hbox hb; have n0_ := Gv.a0 (Gv.bb BK424.out hb); have n1_ := Gv.a0 (below_step Gv.bw hb); have n2_ := Gv.a0 (hbox); have n3_ := Gv.a0 ((Gv.ble hg Gv.bw : w.heap.size ≤ gb425)); have n4_ := Gv.a0 ((Gv.ble hg Gv.bw : w.heap.size ≤ gb425)); have n5_ := Gv.a0 ((Gv.nlt hg (Gv.kb BK424.out) : gb424 ≠ gb425)); have n6_ := Gv.a0 ((Gv.ngt hg (Gv.kb BK424.out) : gb425 ≠ gb424)); clear BK424; clear HB; have BK424 := n0_; have HB := n1_; have BK425 := n2_; have GW425 := n3_; have GE425 := n4_; have NB424_425 := n5_; have NB425_424 := n6_; clear n0_ n1_ n2_ n3_ n4_ n5_ n6_; clear hb hbox hg) | ((with_reducible refine gate_dst (N := 6) rfl ?_); refine box_event ?hg (N := 6) ?hd (cs := #[.int .i64 0, .int .i64 0, .int .i64 0]) (t := 51) ?hr ?_; (case hd => rfl); (case hg => rfl); (case hr => first | (go_simp; done) | (go_simp; rfl)); intro gb426 hg w8 hbox hb; have n0_ := Gv.a0 (Gv.bb BK424.out hb); have n1_ := Gv.a0 (Gv.bb BK425.out hb); have n2_ := Gv.a0 (below_step Gv.bw hb); have n3_ := Gv.a0 (hbox); have n4_ := Gv.a0 ((Gv.ble hg Gv.bw : w.heap.size ≤ gb426)); have n5_ := Gv.a0 ((Gv.ble hg Gv.bw : w.heap.size ≤ gb426)); have n6_ := Gv.a0 ((Gv.nlt hg (Gv.kb BK424.out) : gb424 ≠ gb426)); have n7_ := Gv.a0 ((Gv.ngt hg (Gv.kb BK424.out) : gb426 ≠ gb424)); have n8_ := Gv.a0 ((Gv.nlt hg (Gv.kb BK425.out) : gb425 ≠ gb426)); have n9_ := Gv.a0 ((Gv.ngt hg (Gv.kb BK425.out) : gb426 ≠ gb425)); clear BK424; clear BK425; clear HB; have BK424 := n0_; have BK425 := n1_; have HB := n2_; have BK426 := n3_; have GW426 := n4_; have GE426 := n5_; have NB424_426 := n6_; have NB426_424 := n7_; have NB425_426 := n8_; have NB426_425 := n9_; clear n0_ n1_ n2_ n3_ n4_ n5_ n6_ n7_ n8_ n9_; clear hb hbox hg))
 have n0_ := Gv.a0 (blk_drew BK424.out)
 have n1_ := Gv.a0 (blk_drew BK425.out)
 have n2_ := Gv.a0 (blk_drew BK426.out)
 have n3_ := Gv.a0 (below_drew1 HB.out)
 clear BK424
 clear BK425
 clear BK426
 clear HB
 have BK424 := n0_
 have BK425 := n1_
 have BK426 := n2_
 have HB := n3_
 clear n0_ n1_ n2_ n3_
 refine start_ (n := 20) (S := fun w' => w'.cell? ⟨gb424, 0, none⟩ = some (.int .i64 a0_0) ∧ w'.cell? ⟨gb424, 1, none⟩ = some (.int .i64 a0_1) ∧ w'.cell? ⟨gb424, 2, none⟩ = some (.int .i64 a0_2) ∧ w'.cell? ⟨gb425, 0, none⟩ = some (.int .i64 a1_0) ∧ w'.cell? ⟨gb425, 1, none⟩ = some (.int .i64 a1_1) ∧ w'.cell? ⟨gb425, 2, none⟩ = some (.int .i64 a1_2)) (ds := []) #[false, false, false, false, false, false, false, false, false, false, false, false, false, false, false, false, false, false, false, false] (by kernel_rfl) rfl rfl ⟨(blk_cell BK424.out 0).trans rfl, (blk_cell BK424.out 1).trans rfl, (blk_cell BK424.out 2).trans rfl, (blk_cell BK425.out 0).trans rfl, (blk_cell BK425.out 1).trans rfl, (blk_cell BK425.out 2).trans rfl⟩ (fun hHeld => ?_); refine with_tabW impl_both.tab1 impl_both.bits1 (fun HT_ HW_ => ?_)
 generalize w8.drew = w9 at BK424 BK425 BK426 HB hHeld ⊢
 refine Gv.pu 0 (some 7) HT_ ?_
 refine Gv.pu 1 (some 8) HT_ ?_
 refine Gv.pu 3 (some 10) HT_ ?_
 refine Gv.pu 6 (some 13) HT_ ?_
 refine Gv.pu 7 (some 14) HT_ ?_
 refine Gv.pu 9 (some 16) HT_ ?_
 refine Gv.pu 12 (some 19) HT_ ?_
 refine Gv.pu 13 (some 20) HT_ ?_
 refine Gv.pu 15 (some 22) HT_ ?_
 refine take_ (i := 2) (N := some 9) (v := ?_) (a' := ?_) #[true, true, true, true, false, false, true, true, false, true, false, false, true, true, false, true, false, false, false, false] rfl rfl (take_ofW HT_.out HW_.out (by kernel_rfl)) (fun _ _ _ h => h) (Or.inl ⟨by rfl, ?_⟩) hHeld ?_ ?_
 rotate_left
 ·rintro w' ⟨s0, s1, s2, s3, s4, s5⟩
  go_simp
  with_reducible rfl
 rotate_left
 ·simp only [Act.put, List.setIfInBounds_toArray, List.set_cons_zero, List.set_cons_succ, i64_w, i32_w]
  rfl
 refine take_ (i := 4) (N := some 11) (v := ?_) (a' := ?_) #[true, true, true, true, true, false, true, true, false, true, false, false, true, true, false, true, false, false, false, false] rfl rfl (take_ofW HT_.out HW_.out (by kernel_rfl)) (fun _ _ _ h => h) (Or.inl ⟨by rfl, ?_⟩) hHeld ?_ ?_
 rotate_left
 ·rintro w' ⟨s0, s1, s2, s3, s4, s5⟩
  go_simp
  with_reducible rfl
 rotate_left
 ·simp only [Act.put, List.setIfInBounds_toArray, List.set_cons_zero, List.set_cons_succ, i64_w, i32_w]
  rfl
 refine take_ (i := 8) (N := some 15) (v := ?_) (a' := ?_) #[true, true, true, true, true, false, true, true, true, true, false, false, true, true, false, true, false, false, false, false] rfl rfl (take_ofW HT_.out HW_.out (by kernel_rfl)) (fun _ _ _ h => h) (Or.inl ⟨by rfl, ?_⟩) hHeld ?_ ?_
 rotate_left
 ·rintro w' ⟨s0, s1, s2, s3, s4, s5⟩
  go_simp
  with_reducible rfl
 rotate_left
 ·simp only [Act.put, List.setIfInBounds_toArray, List.set_cons_zero, List.set_cons_succ, i64_w, i32_w]
  rfl
 refine take_ (i := 10) (N := some 17) (v := ?_) (a' := ?_) #[true, true, true, true, true, false, true, true, true, true, true, false, true, true, false, true, false, false, false, false] rfl rfl (take_ofW HT_.out HW_.out (by kernel_rfl)) (fun _ _ _ h => h) (Or.inl ⟨by rfl, ?_⟩) hHeld ?_ ?_
 rotate_left
 ·rintro w' ⟨s0, s1, s2, s3, s4, s5⟩
  go_simp
  with_reducible rfl
 rotate_left
 ·simp only [Act.put, List.setIfInBounds_toArray, List.set_cons_zero, List.set_cons_succ, i64_w, i32_w]
  rfl
 refine take_ (i := 14) (N := some 21) (v := ?_) (a' := ?_) #[true, true, true, true, true, false, true, true, true, true, true, false, true, true, true, true, false, false, false, false] rfl rfl (take_ofW HT_.out HW_.out (by kernel_rfl)) (fun _ _ _ h => h) (Or.inl ⟨by rfl, ?_⟩) hHeld ?_ ?_
 rotate_left
 ·rintro w' ⟨s0, s1, s2, s3, s4, s5⟩
  go_simp
  with_reducible rfl
 rotate_left
 ·simp only [Act.put, List.setIfInBounds_toArray, List.set_cons_zero, List.set_cons_succ, i64_w, i32_w]
  rfl
 refine take_ (i := 16) (N := some 23) (v := ?_) (a' := ?_) #[true, true, true, true, true, false, true, true, true, true, true, false, true, true, true, true, true, false, false, false] rfl rfl (take_ofW HT_.out HW_.out (by kernel_rfl)) (fun _ _ _ h => h) (Or.inl ⟨by rfl, ?_⟩) hHeld ?_ ?_
 rotate_left
 ·rintro w' ⟨s0, s1, s2, s3, s4, s5⟩
  go_simp
  with_reducible rfl
 rotate_left
 ·simp only [Act.put, List.setIfInBounds_toArray, List.set_cons_zero, List.set_cons_succ, i64_w, i32_w]
  rfl
 refine one_ (i := 5) (N := some 12) #[true, true, true, true, true, true, true, true, true, true, true, false, true, true, true, true, true, false, false, false] rfl rfl (one_of HT_.out (by kernel_rfl)) (by decide) (fun K hK => ?_)
 refine Gv.goesV_ hfn_ hnm_ hbd_ #[.int .i64 a0_0, .int .i64 a1_0] lb (by rfl) rfl rfl rfl Gv.lm ?_
 with_reducible refine (HFo.out _ a0_0 a1_0 t427 HB.out A3.out).mono ?_
 rintro e w10 ⟨rfl, hb⟩
 refine ⟨_, rfl, ?_⟩
 have n0_ := Gv.a0 (Gv.bb BK424.out hb)
 have n1_ := Gv.a0 (Gv.bb BK425.out hb)
 have n2_ := Gv.a0 (Gv.bb BK426.out hb)
 have n3_ := Gv.a0 (below_step Gv.bw hb)
 clear BK424
 clear BK425
 clear BK426
 clear HB
 have BK424 := n0_
 have BK425 := n1_
 have BK426 := n2_
 have HB := n3_
 clear n0_ n1_ n2_ n3_
 (try clear hb)
 (try clear hb2)
 (try clear hk)
 (try clear hi)
 refine hK.out _ _ ⟨(blk_cell BK424.out 0).trans rfl, (blk_cell BK424.out 1).trans rfl, (blk_cell BK424.out 2).trans rfl, (blk_cell BK425.out 0).trans rfl, (blk_cell BK425.out 1).trans rfl, (blk_cell BK425.out 2).trans rfl⟩ (fun hHeld => ?_)
 clear hK K
 refine norm_ (a' := ?_) ?_ ?_
 rotate_left
 ·show Act.put _ (some 12) _ = _
  simp only [Act.put, List.setIfInBounds_toArray, List.set_cons_zero, List.set_cons_succ, i64_w, i32_w]
  rfl
 refine one_ (i := 11) (N := some 18) #[true, true, true, true, true, true, true, true, true, true, true, true, true, true, true, true, true, false, false, false] rfl rfl (one_of HT_.out (by kernel_rfl)) (by decide) (fun K hK => ?_)
 refine Gv.goesV_ hfn_ hnm_ hbd_ #[.int .i64 a0_1, .int .i64 a1_1] lb (by rfl) rfl rfl rfl Gv.lm ?_
 with_reducible refine (HFo.out _ a0_1 a1_1 t428 HB.out A4.out).mono ?_
 rintro e w11 ⟨rfl, hb⟩
 refine ⟨_, rfl, ?_⟩
 have n0_ := Gv.a0 (Gv.bb BK424.out hb)
 have n1_ := Gv.a0 (Gv.bb BK425.out hb)
 have n2_ := Gv.a0 (Gv.bb BK426.out hb)
 have n3_ := Gv.a0 (below_step Gv.bw hb)
 clear BK424
 clear BK425
 clear BK426
 clear HB
 have BK424 := n0_
 have BK425 := n1_
 have BK426 := n2_
 have HB := n3_
 clear n0_ n1_ n2_ n3_
 (try clear hb)
 (try clear hb2)
 (try clear hk)
 (try clear hi)
 refine hK.out _ _ ⟨(blk_cell BK424.out 0).trans rfl, (blk_cell BK424.out 1).trans rfl, (blk_cell BK424.out 2).trans rfl, (blk_cell BK425.out 0).trans rfl, (blk_cell BK425.out 1).trans rfl, (blk_cell BK425.out 2).trans rfl⟩ (fun hHeld => ?_)
 clear hK K
 refine norm_ (a' := ?_) ?_ ?_
 rotate_left
 ·show Act.put _ (some 18) _ = _
  simp only [Act.put, List.setIfInBounds_toArray, List.set_cons_zero, List.set_cons_succ, i64_w, i32_w]
  rfl
 refine one_ (i := 17) (N := some 24) #[true, true, true, true, true, true, true, true, true, true, true, true, true, true, true, true, true, true, false, false] rfl rfl (one_of HT_.out (by kernel_rfl)) (by decide) (fun K hK => ?_)
 refine Gv.goesV_ hfn_ hnm_ hbd_ #[.int .i64 a0_2, .int .i64 a1_2] lb (by rfl) rfl rfl rfl Gv.lm ?_
 with_reducible refine (HFo.out _ a0_2 a1_2 t429 HB.out A5.out).mono ?_
 rintro e w12 ⟨rfl, hb⟩
 refine ⟨_, rfl, ?_⟩
 have n0_ := Gv.a0 (Gv.bb BK424.out hb)
 have n1_ := Gv.a0 (Gv.bb BK425.out hb)
 have n2_ := Gv.a0 (Gv.bb BK426.out hb)
 have n3_ := Gv.a0 (below_step Gv.bw hb)
 clear BK424
 clear BK425
 clear BK426
 clear HB
 have BK424 := n0_
 have BK425 := n1_
 have BK426 := n2_
 have HB := n3_
 clear n0_ n1_ n2_ n3_
 (try clear hb)
 (try clear hb2)
 (try clear hk)
 (try clear hi)
 refine hK.out _ _ ⟨(blk_cell BK424.out 0).trans rfl, (blk_cell BK424.out 1).trans rfl, (blk_cell BK424.out 2).trans rfl, (blk_cell BK425.out 0).trans rfl, (blk_cell BK425.out 1).trans rfl, (blk_cell BK425.out 2).trans rfl⟩ (fun hHeld => ?_)
 clear hK K
 refine norm_ (a' := ?_) ?_ ?_
 rotate_left
 ·show Act.put _ (some 24) _ = _
  simp only [Act.put, List.setIfInBounds_toArray, List.set_cons_zero, List.set_cons_succ, i64_w, i32_w]
  rfl
 refine Gv.pu 18 (some 25) HT_ ?_
 refine one_ (i := 19) (N := none) #[true, true, true, true, true, true, true, true, true, true, true, true, true, true, true, true, true, true, true, true] rfl rfl (one_of HT_.out (by kernel_rfl)) (by decide) (fun K hK => ?_)
 have hs13 : w12.cell? ⟨gb426, 0, none⟩ = some (.int .i64 0) := (blk_cell BK426.out 0).trans rfl
 have hfs13 := blk_frozen BK426.out 0
 have hns13_0 := NB424_426.out
 have hns13_1 := NB425_426.out
 have hms13_0 := NB426_424.out
 have hms13_1 := NB426_425.out
 have hs14 : w12.cell? ⟨gb426, 1, none⟩ = some (.int .i64 0) := (blk_cell BK426.out 1).trans rfl
 have hfs14 := blk_frozen BK426.out 1
 have hns14_0 := NB424_426.out
 have hns14_1 := NB425_426.out
 have hms14_0 := NB426_424.out
 have hms14_1 := NB426_425.out
 have hs15 : w12.cell? ⟨gb426, 2, none⟩ = some (.int .i64 0) := (blk_cell BK426.out 2).trans rfl
 have hfs15 := blk_frozen BK426.out 2
 have hns15_0 := NB424_426.out
 have hns15_1 := NB425_426.out
 have hms15_0 := NB426_424.out
 have hms15_1 := NB426_425.out
 refine skip_ (w1 := ?_) (by rfl) rfl ?_ ?_
 rotate_left
 ·go_simp
  rfl
 refine hK.out _ _ ⟨((cell_far (p := ⟨gb426, _, none⟩) NB424_426.out _).trans (((cell_far (p := ⟨gb426, _, none⟩) NB424_426.out _).trans (((cell_far (p := ⟨gb426, _, none⟩) NB424_426.out _).trans (hHeld.1)))))), ((cell_far (p := ⟨gb426, _, none⟩) NB424_426.out _).trans (((cell_far (p := ⟨gb426, _, none⟩) NB424_426.out _).trans (((cell_far (p := ⟨gb426, _, none⟩) NB424_426.out _).trans (hHeld.2.1)))))), ((cell_far (p := ⟨gb426, _, none⟩) NB424_426.out _).trans (((cell_far (p := ⟨gb426, _, none⟩) NB424_426.out _).trans (((cell_far (p := ⟨gb426, _, none⟩) NB424_426.out _).trans (hHeld.2.2.1)))))), ((cell_far (p := ⟨gb426, _, none⟩) NB425_426.out _).trans (((cell_far (p := ⟨gb426, _, none⟩) NB425_426.out _).trans (((cell_far (p := ⟨gb426, _, none⟩) NB425_426.out _).trans (hHeld.2.2.2.1)))))), ((cell_far (p := ⟨gb426, _, none⟩) NB425_426.out _).trans (((cell_far (p := ⟨gb426, _, none⟩) NB425_426.out _).trans (((cell_far (p := ⟨gb426, _, none⟩) NB425_426.out _).trans (hHeld.2.2.2.2.1)))))), ((cell_far (p := ⟨gb426, _, none⟩) NB425_426.out _).trans (((cell_far (p := ⟨gb426, _, none⟩) NB425_426.out _).trans (((cell_far (p := ⟨gb426, _, none⟩) NB425_426.out _).trans (hHeld.2.2.2.2.2))))))⟩ (fun hHeld => ?_)
 clear hK K
 refine done_ (done_of HT_.out (by kernel_rfl)) ?_
 try go_wp2
 refine bodyPost_ret (results_cell_row rfl _ _ gb426 51 #[.int .i64 t427, .int .i64 t428, .int .i64 t429] (0, 0) _ rfl (by (with_reducible repeat (first | refine blk_drewN ?_ _ | refine blk_drew ?_ | refine blk_alloc ?_ _)); refine blk_put (cs := #[.int .i64 t427, .int .i64 t428, .int .i64 0]) ?_ 2 _ rfl; (with_reducible repeat (first | refine blk_drewN ?_ _ | refine blk_drew ?_ | refine blk_alloc ?_ _)); refine blk_put (cs := #[.int .i64 t427, .int .i64 0, .int .i64 0]) ?_ 1 _ rfl; (with_reducible repeat (first | refine blk_drewN ?_ _ | refine blk_drew ?_ | refine blk_alloc ?_ _)); refine blk_put (cs := #[.int .i64 0, .int .i64 0, .int .i64 0]) ?_ 0 _ rfl; (with_reducible repeat (first | refine blk_drewN ?_ _ | refine blk_drew ?_ | refine blk_alloc ?_ _)); exact BK426.out) Try.underlying51 rfl (by kernel_rfl)) rfl ?_
 exact ⟨Gv.rt, Gv.bw⟩

/-! ### impl_both_c79: function 78 over a closure -/
set_option maxHeartbeats 8000000 in
set_option maxRecDepth 100000 in
theorem impl_both_c79.clo   (x0 x1 : Int) (r : Int) (W : World)  (h : (some (wrap64 (x0 + x1))) = some r) :
    Calls Try.prog 79 (#[.int .i64 x0, .int .i64 x1] ++ #[]) W fun e w' => e = .returned (.int .i64 r) ∧ Below W.heap.size W w' := by
  obtain rfl := Option.some.inj h
  go_enter Try.func79, Try.ntmps79
  go_wp2
  go_ret
  exact ⟨by first | rfl | (simp [Int.tdiv_eq_ediv_of_nonneg]; done), Below.refl _ W⟩
def impl_both_c79.f (a0_0 a0_1 a0_2 a1_0 a1_1 a1_2 : Int)  : Option (Int × Int × Int) := impl_both.f (fun x0 x1 => some (wrap64 (x0 + x1))) a0_0 a0_1 a0_2 a1_0 a1_1 a1_2
theorem impl_both_c79.calls (a0_0 a0_1 a0_2 a1_0 a1_1 a1_2 : Int)  (r1 r2 r3 : Int) (w : World)  (h : impl_both_c79.f a0_0 a0_1 a0_2 a1_0 a1_1 a1_2  = some (r1, r2, r3)) :
    Calls Try.prog 78 #[.agg #[.int .i64 a0_0, .int .i64 a0_1, .int .i64 a0_2], .agg #[.int .i64 a1_0, .int .i64 a1_1, .int .i64 a1_2], .func (.func 79) #[] #[]] w fun e w' => e = .returned (.agg #[.int .i64 r1, .int .i64 r2, .int .i64 r3]) ∧ Below w.heap.size w w' :=
  impl_both.gen 79 _ (by first | exact Try.func79 | kernel_rfl) (by rfl) (by rfl) #[] (fun x0 x1 => some (wrap64 (x0 + x1))) a0_0 a0_1 a0_2 a1_0 a1_1 a1_2 r1 r2 r3 w (fun W x0 x1 r hW_ h_ => impl_both_c79.clo   x0 x1 r W  h_) h

/-! ### impl_Vec_plus: function 55 -/
def impl_Vec_plus.f (a0_0 : Int) (a0_1 : Int) (a0_2 : Int) (a1_0 : Int) (a1_1 : Int) (a1_2 : Int) : Option (Int × Int × Int) := (impl_both_c79.f a0_0 a0_1 a0_2 a1_0 a1_1 a1_2).bind fun bt433 => (some (bt433.1, bt433.2.1, bt433.2.2))
set_option maxHeartbeats 8000000 in
set_option maxRecDepth 100000 in
theorem impl_Vec_plus.calls (a0_0 : Int) (a0_1 : Int) (a0_2 : Int) (a1_0 : Int) (a1_1 : Int) (a1_2 : Int) (r1 : Int) (r2 : Int) (r3 : Int) (w : World) (h : impl_Vec_plus.f a0_0 a0_1 a0_2 a1_0 a1_1 a1_2 = some (r1, r2, r3)) :
  Calls Try.prog 55 #[.agg #[.int .i64 a0_0, .int .i64 a0_1, .int .i64 a0_2], .agg #[.int .i64 a1_0, .int .i64 a1_1, .int .i64 a1_2]] w fun e w' => e = .returned (.agg #[.int .i64 r1, .int .i64 r2, .int .i64 r3]) ∧ Below w.heap.size w w' := by
 have hu51 := Try.underlying51
 have HB := Gv.a0 (Below.refl w.heap.size w)
 have H : ((impl_both_c79.f a0_0 a0_1 a0_2 a1_0 a1_1 a1_2).bind fun bt433 => (some (bt433.1, bt433.2.1, bt433.2.2))) = some (r1, r2, r3) := h
 clear h
 replace H := Option.bind_eq_some_iff.mp H
 obtain ⟨⟨t433, t434, t435⟩, A30, H⟩ := H
 replace H : (some (t433, t434, t435)) = some (r1, r2, r3) := H
 have A3 := Gv.a0 A30
 clear A30
 simp only [Option.some.injEq, Prod.mk.injEq] at H
 obtain ⟨rfl, rfl, rfl⟩ := H
 go_enter Try.func55, Try.ntmps55
 go_wp2_with (first | ((with_reducible refine gate_dst (N := 2) rfl ?_); refine box_event ?hg (N := 2) ?hd (cs := #[.int .i64 a0_0, .int .i64 a0_1, .int .i64 a0_2]) (t := 51) ?hr ?_; (case hd => rfl); (case hg => rfl); (case hr => first | (go_simp; done) | (go_simp; rfl)); intro gb430 hg w4 hbox hb; have n0_ := Gv.a0 (below_step Gv.bw hb); have n1_ := Gv.a0 (hbox); have n2_ := Gv.a0 ((Gv.ble hg Gv.bw : w.heap.size ≤ gb430)); have n3_ := Gv.a0 ((Gv.ble hg Gv.bw : w.heap.size ≤ gb430)); clear HB; have HB := n0_; have BK430 := n1_; have GW430 := n2_; have GE430 := n3_; clear n0_ n1_ n2_ n3_; clear hb hbox hg) | ((with_reducible refine gate_dst (N := 3) rfl ?_); refine box_event ?hg (N := 3) ?hd (cs := #[.int .i64 a1_0, .int .i64 a1_1, .int .i64 a1_2]) (t := 51) ?hr ?_; (case hd => rfl); (case hg => rfl); (case hr => first | (go_simp; done) | (go_simp; rfl)); intro gb431 hg w5 hbox hb; have n0_ := Gv.a0 (Gv.bb BK430.out hb); have n1_ := Gv.a0 (below_step Gv.bw hb); have n2_ := Gv.a0 (hbox); have n3_ := Gv.a0 ((Gv.ble hg Gv.bw : w.heap.size ≤ gb431)); have n4_ := Gv.a0 ((Gv.ble hg Gv.bw : w.heap.size ≤ gb431)); have n5_ := Gv.a0 ((Gv.nlt hg (Gv.kb BK430.out) : gb430 ≠ gb431)); have n6_ := Gv.a0 ((Gv.ngt hg (Gv.kb BK430.out) : gb431 ≠ gb430)); clear BK430; clear HB; have BK430 := n0_; have HB := n1_; have BK431 := n2_; have GW431 := n3_; have GE431 := n4_; have NB430_431 := n5_; have NB431_430 := n6_; clear n0_ n1_ n2_ n3_ n4_ n5_ n6_; clear hb hbox hg) | ((with_reducible refine gate_dst (N := 4) rfl ?_); refine box_event ?hg (N := 4) ?hd (cs := #[.int .i64 0, .int .i64 0, .int .i64 0]) (t := 51) ?hr ?_; (case hd => rfl); (case hg => rfl); (case hr => first | (go_simp; done) | (go_simp; rfl)); intro gb432 hg w6 hbox hb; have n0_ := Gv.a0 (Gv.bb BK430.out hb); have n1_ := Gv.a0 (Gv.bb BK431.out hb); have n2_ := Gv.a0 (below_step Gv.bw hb); have n3_ := Gv.a0 (hbox); have n4_ := Gv.a0 ((Gv.ble hg Gv.bw : w.heap.size ≤ gb432)); have n5_ := Gv.a0 ((Gv.ble hg Gv.bw : w.heap.size ≤ gb432)); have n6_ := Gv.a0 ((Gv.nlt hg (Gv.kb BK430.out) : gb430 ≠ gb432)); have n7_ := Gv.a0 ((Gv.ngt hg (Gv.kb BK430.out) : gb432 ≠ gb430)); have n8_ := Gv.a0 ((Gv.nlt hg (Gv.kb BK431.out) : gb431 ≠ gb432)); have n9_ := Gv.a0 ((Gv.ngt hg (Gv.kb BK431.out) : gb432 ≠ gb431)); clear BK430; clear BK431; clear HB; have BK430 := n0_; have BK431 := n1_; have HB := n2_; have BK432 := n3_; have GW432 := n4_; have GE432 := n5_; have NB430_432 := n6_; have NB432_430 := n7_; have NB431_432 := n8_; have NB432_431 := n9_; clear n0_ n1_ n2_ n3_ n4_ n5_ n6_ n7_ n8_ n9_; clear hb hbox hg; have hnb7 := NB430_431.out; have hnc7 := NB431_430.out; have hnb8 := NB430_432.out; have hnc8 := NB432_430.out; have hcz9_0 : w6.cell? ⟨gb430, 0, none⟩ = some (.int .i64 a0_0) := (blk_cell BK430.out 0).trans rfl; have hcz9_1 : w6.cell? ⟨gb430, 1, none⟩ = some (.int .i64 a0_1) := (blk_cell BK430.out 1).trans rfl; have hcz9_2 : w6.cell? ⟨gb430, 2, none⟩ = some (.int .i64 a0_2) := (blk_cell BK430.out 2).trans rfl; have hfz9_0 := blk_frozen BK430.out 0; have hfz9_1 := blk_frozen BK430.out 1; have hfz9_2 := blk_frozen BK430.out 2; have hnb10 := NB431_432.out; have hnc10 := NB432_431.out; have hcz11_0 : w6.cell? ⟨gb431, 0, none⟩ = some (.int .i64 a1_0) := (blk_cell BK431.out 0).trans rfl; have hcz11_1 : w6.cell? ⟨gb431, 1, none⟩ = some (.int .i64 a1_1) := (blk_cell BK431.out 1).trans rfl; have hcz11_2 : w6.cell? ⟨gb431, 2, none⟩ = some (.int .i64 a1_2) := (blk_cell BK431.out 2).trans rfl; have hfz11_0 := blk_frozen BK431.out 0; have hfz11_1 := blk_frozen BK431.out 1; have hfz11_2 := blk_frozen BK431.out 2) | ((with_reducible refine gate_callee (f := 78) rfl ?_); refine goesL_ (some 7) rfl rfl Try.func78 (by kernel_rfl) rfl #[.agg #[.int .i64 a0_0, .int .i64 a0_1, .int .i64 a0_2], .agg #[.int .i64 a1_0, .int .i64 a1_1, .int .i64 a1_2], .func (.func 79) #[] #[]] rfl Gv.lm ?_; (with_reducible refine (impl_both_c79.calls a0_0 a0_1 a0_2 a1_0 a1_1 a1_2  t433 t434 t435 _ A3.out).mono ?_); rintro e w12 ⟨rfl, hb⟩; refine ⟨_, rfl, ?_⟩; have n0_ := Gv.a0 (Gv.bb BK430.out hb); have n1_ := Gv.a0 (Gv.bb BK431.out hb); have n2_ := Gv.a0 (Gv.bb BK432.out hb); have n3_ := Gv.a0 (below_step Gv.bw hb); clear BK430; clear BK431; clear BK432; clear HB; have BK430 := n0_; have BK431 := n1_; have BK432 := n2_; have HB := n3_; clear n0_ n1_ n2_ n3_; (try clear hb); (try clear hb2); (try clear hk); (try clear hi); have hcz13_0 : w12.cell? ⟨gb432, 0, none⟩ = some (.int .i64 0) := (blk_cell BK432.out 0).trans rfl; have hcz13_1 : w12.cell? ⟨gb432, 1, none⟩ = some (.int .i64 0) := (blk_cell BK432.out 1).trans rfl; have hcz13_2 : w12.cell? ⟨gb432, 2, none⟩ = some (.int .i64 0) := (blk_cell BK432.out 2).trans rfl; have hfz13_0 := blk_frozen BK432.out 0; have hfz13_1 := blk_frozen BK432.out 1; have hfz13_2 := blk_frozen BK432.out 2))
 refine bodyPost_ret (results_cell_row rfl _ _ gb432 51 #[.int .i64 t433, .int .i64 t434, .int .i64 t435] (0, 0) _ rfl (by (with_reducible repeat (first | refine blk_drewN ?_ _ | refine blk_drew ?_ | refine blk_alloc ?_ _)); refine blk_put (cs := #[.int .i64 t433, .int .i64 t434, .int .i64 0]) ?_ 2 _ rfl; (with_reducible repeat (first | refine blk_drewN ?_ _ | refine blk_drew ?_ | refine blk_alloc ?_ _)); refine blk_put (cs := #[.int .i64 t433, .int .i64 0, .int .i64 0]) ?_ 1 _ rfl; (with_reducible repeat (first | refine blk_drewN ?_ _ | refine blk_drew ?_ | refine blk_alloc ?_ _)); refine blk_put (cs := #[.int .i64 0, .int .i64 0, .int .i64 0]) ?_ 0 _ rfl; (with_reducible repeat (first | refine blk_drewN ?_ _ | refine blk_drew ?_ | refine blk_alloc ?_ _)); exact BK432.out) Try.underlying51 rfl (by kernel_rfl)) rfl ?_
 exact ⟨Gv.rt, Gv.bw⟩

/-! ### impl_both_c80: function 78 over a closure -/
set_option maxHeartbeats 8000000 in
set_option maxRecDepth 100000 in
theorem impl_both_c80.clo (g0 : Nat)  (c0_0 : Int) (x0 x1 : Int) (r : Int) (W : World) (hc0 : W.heap[g0]? = some (.cells #[.int .i64 c0_0] 3 (0, 0))) (h : (some (wrap64 (x0 + wrap64 ((wrap64 (x1 * c0_0)).tdiv 64)))) = some r) :
    Calls Try.prog 80 (#[.int .i64 x0, .int .i64 x1] ++ #[.pointer (some ⟨g0, 0, none⟩)]) W fun e w' => e = .returned (.int .i64 r) ∧ Below W.heap.size W w' := by
  have hs0_0 : W.cell? ⟨g0, 0, none⟩ = some (.int .i64 c0_0) := (blk_cell hc0 0).trans rfl
  obtain rfl := Option.some.inj h
  go_enter Try.func80, Try.ntmps80
  go_wp2
  go_ret
  exact ⟨by first | rfl | (simp [Int.tdiv_eq_ediv_of_nonneg]; done), Below.refl _ W⟩
def impl_both_c80.f (a0_0 a0_1 a0_2 a1_0 a1_1 a1_2 : Int) (c0_0 : Int) : Option (Int × Int × Int) := impl_both.f (fun x0 x1 => some (wrap64 (x0 + wrap64 ((wrap64 (x1 * c0_0)).tdiv 64)))) a0_0 a0_1 a0_2 a1_0 a1_1 a1_2
theorem impl_both_c80.calls (a0_0 a0_1 a0_2 a1_0 a1_1 a1_2 : Int) (g0 : Nat) (c0_0 : Int) (r1 r2 r3 : Int) (w : World) (hc0 : w.heap[g0]? = some (.cells #[.int .i64 c0_0] 3 (0, 0))) (h : impl_both_c80.f a0_0 a0_1 a0_2 a1_0 a1_1 a1_2 c0_0 = some (r1, r2, r3)) :
    Calls Try.prog 78 #[.agg #[.int .i64 a0_0, .int .i64 a0_1, .int .i64 a0_2], .agg #[.int .i64 a1_0, .int .i64 a1_1, .int .i64 a1_2], .func (.func 80) #[] #[.pointer (some ⟨g0, 0, none⟩)]] w fun e w' => e = .returned (.agg #[.int .i64 r1, .int .i64 r2, .int .i64 r3]) ∧ Below w.heap.size w w' :=
  impl_both.gen 80 _ (by first | exact Try.func80 | kernel_rfl) (by rfl) (by rfl) #[.pointer (some ⟨g0, 0, none⟩)] (fun x0 x1 => some (wrap64 (x0 + wrap64 ((wrap64 (x1 * c0_0)).tdiv 64)))) a0_0 a0_1 a0_2 a1_0 a1_1 a1_2 r1 r2 r3 w (fun W x0 x1 r hW_ h_ => impl_both_c80.clo g0 c0_0 x0 x1 r W (blk_below hc0 hW_) h_) h

/-! ### impl_ProfCost: function 56 -/
def impl_ProfCost.f (a0_0 : Int) (a0_1 : Int) (a0_2 : Int) (a0_3 : Int) (a0_4 : Int) (a0_5 : Int) (a1 : Int) : Option (Int × Int × Int) := (impl_ProfOk.f a0_0 a0_1 a0_2 a0_3 a0_4 a0_5).bind fun t439 => (if t439 = true then ((impl_isSize.f a1).bind fun t440 => (if t440 = true then ((impl_both_c80.f a0_0 a0_1 a0_2 a0_3 a0_4 a0_5 a1).bind fun bt441 => (some (bt441.1, bt441.2.1, bt441.2.2))) else (some (0, 0, 0)))) else (some (0, 0, 0)))
set_option maxHeartbeats 8000000 in
set_option maxRecDepth 100000 in
theorem impl_ProfCost.calls (a0_0 : Int) (a0_1 : Int) (a0_2 : Int) (a0_3 : Int) (a0_4 : Int) (a0_5 : Int) (a1 : Int) (r1 : Int) (r2 : Int) (r3 : Int) (w : World) (h : impl_ProfCost.f a0_0 a0_1 a0_2 a0_3 a0_4 a0_5 a1 = some (r1, r2, r3)) :
  Calls Try.prog 56 #[.agg #[.int .i64 a0_0, .int .i64 a0_1, .int .i64 a0_2, .int .i64 a0_3, .int .i64 a0_4, .int .i64 a0_5], .int .i64 a1] w fun e w' => e = .returned (.agg #[.int .i64 r1, .int .i64 r2, .int .i64 r3]) ∧ Below w.heap.size w w' := by
 have hu75 := Try.underlying75
 have hu51 := Try.underlying51
 have HB := Gv.a0 (Below.refl w.heap.size w)
 have H : ((impl_ProfOk.f a0_0 a0_1 a0_2 a0_3 a0_4 a0_5).bind fun t439 => (if t439 = true then ((impl_isSize.f a1).bind fun t440 => (if t440 = true then ((impl_both_c80.f a0_0 a0_1 a0_2 a0_3 a0_4 a0_5 a1).bind fun bt441 => (some (bt441.1, bt441.2.1, bt441.2.2))) else (some (0, 0, 0)))) else (some (0, 0, 0)))) = some (r1, r2, r3) := h
 clear h
 replace H := Option.bind_eq_some_iff.mp H
 obtain ⟨t439, A30, H⟩ := H
 replace H : (if t439 = true then ((impl_isSize.f a1).bind fun t440 => (if t440 = true then ((impl_both_c80.f a0_0 a0_1 a0_2 a0_3 a0_4 a0_5 a1).bind fun bt441 => (some (bt441.1, bt441.2.1, bt441.2.2))) else (some (0, 0, 0)))) else (some (0, 0, 0))) = some (r1, r2, r3) := H
 have A3 := Gv.a0 A30
 clear A30
 by_cases c4 : t439 = true
 ·subst c4
  have H1 : ((impl_isSize.f a1).bind fun t440 => (if t440 = true then ((impl_both_c80.f a0_0 a0_1 a0_2 a0_3 a0_4 a0_5 a1).bind fun bt441 => (some (bt441.1, bt441.2.1, bt441.2.2))) else (some (0, 0, 0)))) = some (r1, r2, r3) := by rw [if_pos rfl] at H; exact H
  clear H
  have H := H1
  clear H1
  replace H := Option.bind_eq_some_iff.mp H
  obtain ⟨t440, A50, H⟩ := H
  replace H : (if t440 = true then ((impl_both_c80.f a0_0 a0_1 a0_2 a0_3 a0_4 a0_5 a1).bind fun bt441 => (some (bt441.1, bt441.2.1, bt441.2.2))) else (some (0, 0, 0))) = some (r1, r2, r3) := H
  have A5 := Gv.a0 A50
  clear A50
  by_cases c6 : t440 = true
  ·subst c6
   have H1 : ((impl_both_c80.f a0_0 a0_1 a0_2 a0_3 a0_4 a0_5 a1).bind fun bt441 => (some (bt441.1, bt441.2.1, bt441.2.2))) = some (r1, r2, r3) := by rw [if_pos rfl] at H; exact H
   clear H
   have H := H1
   clear H1
   replace H := Option.bind_eq_some_iff.mp H
   obtain ⟨⟨t441, t442, t443⟩, A70, H⟩ := H
   replace H : (some (t441, t442, t443)) = some (r1, r2, r3) := H
   have A7 := Gv.a0 A70
   clear A70
   simp only [Option.some.injEq, Prod.mk.injEq] at H
   obtain ⟨rfl, rfl, rfl⟩ := H
   have hmf : ∀ (fn : Fn) (first cap : Array Value) (w : World), (Instr.makeFunc fn first cap).run Try.prog w = .ok (.func fn first cap) w := fun _ _ _ _ => rfl
   go_enter Try.func56, Try.ntmps56
   go_wp2_with (first | ((with_reducible refine gate_dst (N := 2) rfl ?_); refine box_event ?hg (N := 2) ?hd (cs := #[.int .i64 a0_0, .int .i64 a0_1, .int .i64 a0_2, .int .i64 a0_3, .int .i64 a0_4, .int .i64 a0_5]) (t := 75) ?hr ?_; (case hd => rfl); (case hg => rfl); (case hr => first | (go_simp; done) | (go_simp; rfl)); intro gb436 hg w8 hbox hb; have n0_ := Gv.a0 (below_step Gv.bw hb); have n1_ := Gv.a0 (hbox); have n2_ := Gv.a0 ((Gv.ble hg Gv.bw : w.heap.size ≤ gb436)); have n3_ := Gv.a0 ((Gv.ble hg Gv.bw : w.heap.size ≤ gb436)); clear HB; have HB := n0_; have BK436 := n1_; have GW436 := n2_; have GE436 := n3_; clear n0_ n1_ n2_ n3_; clear hb hbox hg) | ((with_reducible refine gate_dst (N := 3) rfl ?_); refine box_event ?hg (N := 3) ?hd (cs := #[.int .i64 a1]) (t := 3) ?hr ?_; (case hd => rfl); (case hg => rfl); (case hr => first | (go_simp; done) | (go_simp; rfl)); intro gb437 hg w9 hbox hb; have n0_ := Gv.a0 (Gv.bb BK436.out hb); have n1_ := Gv.a0 (below_step Gv.bw hb); have n2_ := Gv.a0 (hbox); have n3_ := Gv.a0 ((Gv.ble hg Gv.bw : w.heap.size ≤ gb437)); have n4_ := Gv.a0 ((Gv.ble hg Gv.bw : w.heap.size ≤ gb437)); have n5_ := Gv.a0 ((Gv.nlt hg (Gv.kb BK436.out) : gb436 ≠ gb437)); have n6_ := Gv.a0 ((Gv.ngt hg (Gv.kb BK436.out) : gb437 ≠ gb436)); clear BK436; clear HB; have BK436 := n0_; have HB := n1_; have BK437 := n2_; have GW437 := n3_; have GE437 := n4_; have NB436_437 := n5_; have NB437_436 := n6_; clear n0_ n1_ n2_ n3_ n4_ n5_ n6_; clear hb hbox hg) | ((with_reducible refine gate_dst (N := 4) rfl ?_); refine box_event ?hg (N := 4) ?hd (cs := #[.int .i64 0, .int .i64 0, .int .i64 0]) (t := 51) ?hr ?_; (case hd => rfl); (case hg => rfl); (case hr => first | (go_simp; done) | (go_simp; rfl)); intro gb438 hg w10 hbox hb; have n0_ := Gv.a0 (Gv.bb BK436.out hb); have n1_ := Gv.a0 (Gv.bb BK437.out hb); have n2_ := Gv.a0 (below_step Gv.bw hb); have n3_ := Gv.a0 (hbox); have n4_ := Gv.a0 ((Gv.ble hg Gv.bw : w.heap.size ≤ gb438)); have n5_ := Gv.a0 ((Gv.ble hg Gv.bw : w.heap.size ≤ gb438)); have n6_ := Gv.a0 ((Gv.nlt hg (Gv.kb BK436.out) : gb436 ≠ gb438)); have n7_ := Gv.a0 ((Gv.ngt hg (Gv.kb BK436.out) : gb438 ≠ gb436)); have n8_ := Gv.a0 ((Gv.nlt hg (Gv.kb BK437.out) : gb437 ≠ gb438)); have n9_ := Gv.a0 ((Gv.ngt hg (Gv.kb BK437.out) : gb438 ≠ gb437)); clear BK436; clear BK437; clear HB; have BK436 := n0_; have BK437 := n1_; have HB := n2_; have BK438 := n3_; have GW438 := n4_; have GE438 := n5_; have NB436_438 := n6_; have NB438_436 := n7_; have NB437_438 := n8_; have NB438_437 := n9_; clear n0_ n1_ n2_ n3_ n4_ n5_ n6_ n7_ n8_ n9_; clear hb hbox hg; have hnb11 := NB436_437.out; have hnc11 := NB437_436.out; have hnb12 := NB436_438.out; have hnc12 := NB438_436.out; obtain ⟨hcz13_0, hcz13_1, hcz13_2, hcz13_3, hcz13_4, hcz13_5⟩ := Gv.c6 BK436.out; obtain ⟨hfz13_0, hfz13_1, hfz13_2, hfz13_3, hfz13_4, hfz13_5⟩ := Gv.f6 BK436.out) | ((with_reducible refine gate_callee (f := 77) rfl ?_); refine goesL_ (some 6) rfl rfl Try.func77 (by kernel_rfl) rfl #[.agg #[.int .i64 a0_0, .int .i64 a0_1, .int .i64 a0_2, .int .i64 a0_3, .int .i64 a0_4, .int .i64 a0_5]] rfl Gv.lm ?_; (with_reducible refine (impl_ProfOk.calls a0_0 a0_1 a0_2 a0_3 a0_4 a0_5 true _ A3.out).mono ?_); rintro e w14 ⟨rfl, hb⟩; refine ⟨_, rfl, ?_⟩; have n0_ := Gv.a0 (Gv.bb BK436.out hb); have n1_ := Gv.a0 (Gv.bb BK437.out hb); have n2_ := Gv.a0 (Gv.bb BK438.out hb); have n3_ := Gv.a0 (below_step Gv.bw hb); clear BK436; clear BK437; clear BK438; clear HB; have BK436 := n0_; have BK437 := n1_; have BK438 := n2_; have HB := n3_; clear n0_ n1_ n2_ n3_; (try clear hb); (try clear hb2); (try clear hk); (try clear hi); have hnb15 := NB437_438.out; have hnc15 := NB438_437.out; have hcz16_0 : w14.cell? ⟨gb437, 0, none⟩ = some (.int .i64 a1) := (blk_cell BK437.out 0).trans rfl; have hfz16_0 := blk_frozen BK437.out 0) | (go_at_call 54; (with_reducible refine (impl_isSize.calls a1 true _ A5.out).mono ?_); rintro e w' ⟨rfl, ⟨nd, rfl⟩⟩; (try (rw [drewN_self w14]; generalize hq_ : World.drewN w14 _ = w14; have n0_ : Aside0 (w14.heap[gb436]? = some (.cells #[.int .i64 a0_0, .int .i64 a0_1, .int .i64 a0_2, .int .i64 a0_3, .int .i64 a0_4, .int .i64 a0_5] 75 (0, 0))) := ⟨by rw [← hq_]; exact Gv.bk⟩; have n1_ : Aside0 (w14.heap[gb437]? = some (.cells #[.int .i64 a1] 3 (0, 0))) := ⟨by rw [← hq_]; exact Gv.bk⟩; have n2_ : Aside0 (w14.heap[gb438]? = some (.cells #[.int .i64 0, .int .i64 0, .int .i64 0] 51 (0, 0))) := ⟨by rw [← hq_]; exact Gv.bk⟩; have n3_ : Aside0 (Below w.heap.size w w14) := ⟨by rw [← hq_]; exact Gv.bw⟩; clear BK436 BK437 BK438 HB hq_; have BK436 := n0_; have BK437 := n1_; have BK438 := n2_; have HB := n3_; clear n0_ n1_ n2_ n3_)); obtain ⟨hcz17_0, hcz17_1, hcz17_2, hcz17_3, hcz17_4, hcz17_5⟩ := Gv.c6 BK436.out; obtain ⟨hfz17_0, hfz17_1, hfz17_2, hfz17_3, hfz17_4, hfz17_5⟩ := Gv.f6 BK436.out) | ((with_reducible refine gate_callee (f := 78) rfl ?_); refine goesL_ (some 19) rfl rfl Try.func78 (by kernel_rfl) rfl #[.agg #[.int .i64 a0_0, .int .i64 a0_1, .int .i64 a0_2], .agg #[.int .i64 a0_3, .int .i64 a0_4, .int .i64 a0_5], .func (.func 80) #[] #[.pointer (some ⟨gb437, 0, none⟩)]] rfl Gv.lm ?_; (with_reducible refine (impl_both_c80.calls a0_0 a0_1 a0_2 a0_3 a0_4 a0_5 gb437 a1 t441 t442 t443 _ ?side1 A7.out).mono ?_); (case side1 => exact Gv.bk); rintro e w18 ⟨rfl, hb⟩; refine ⟨_, rfl, ?_⟩; have n0_ := Gv.a0 (Gv.bb BK436.out hb); have n1_ := Gv.a0 (Gv.bb BK437.out hb); have n2_ := Gv.a0 (Gv.bb BK438.out hb); have n3_ := Gv.a0 (below_step Gv.bw hb); clear BK436; clear BK437; clear BK438; clear HB; have BK436 := n0_; have BK437 := n1_; have BK438 := n2_; have HB := n3_; clear n0_ n1_ n2_ n3_; (try clear hb); (try clear hb2); (try clear hk); (try clear hi); have hcz19_0 : w18.cell? ⟨gb438, 0, none⟩ = some (.int .i64 0) := (blk_cell BK438.out 0).trans rfl; have hcz19_1 : w18.cell? ⟨gb438, 1, none⟩ = some (.int .i64 0) := (blk_cell BK438.out 1).trans rfl; have hcz19_2 : w18.cell? ⟨gb438, 2, none⟩ = some (.int .i64 0) := (blk_cell BK438.out 2).trans rfl; have hfz19_0 := blk_frozen BK438.out 0; have hfz19_1 := blk_frozen BK438.out 1; have hfz19_2 := blk_frozen BK438.out 2))
   refine bodyPost_ret (results_cell_row rfl _ _ gb438 51 #[.int .i64 t441, .int .i64 t442, .int .i64 t443] (0, 0) _ rfl (by (with_reducible repeat (first | refine blk_drewN ?_ _ | refine blk_drew ?_ | refine blk_alloc ?_ _)); refine blk_put (cs := #[.int .i64 t441, .int .i64 t442, .int .i64 0]) ?_ 2 _ rfl; (with_reducible repeat (first | refine blk_drewN ?_ _ | refine blk_drew ?_ | refine blk_alloc ?_ _)); refine blk_put (cs := #[.int .i64 t441, .int .i64 0, .int .i64 0]) ?_ 1 _ rfl; (with_reducible repeat (first | refine blk_drewN ?_ _ | refine blk_drew ?_ | refine blk_alloc ?_ _)); refine blk_put (cs := #[.int .i64 0, .int .i64 0, .int .i64 0]) ?_ 0 _ rfl; (with_reducible repeat (first | refine blk_drewN ?_ _ | refine blk_drew ?_ | refine blk_alloc ?_ _)); exact BK438.out) Try.underlying51 rfl (by kernel_rfl)) rfl ?_
   exact ⟨Gv.rt, Gv.bw⟩
  ·replace c6 := Bool.eq_false_iff.mpr c6
   subst c6
   have H1 : (some (0, 0, 0)) = some (r1, r2, r3) := by rw [if_neg (show ¬ (false = true) by decide)] at H; exact H
   clear H
   have H := H1
   clear H1
   simp only [Option.some.injEq, Prod.mk.injEq] at H
   obtain ⟨rfl, rfl, rfl⟩ := H
   have hmf : ∀ (fn : Fn) (first cap : Array Value) (w : World), (Instr.makeFunc fn first cap).run Try.prog w = .ok (.func fn first cap) w := fun _ _ _ _ => rfl
   go_enter Try.func56, Try.ntmps56
   go_wp2_with (first | ((with_reducible refine gate_dst (N := 2) rfl ?_); refine box_event ?hg (N := 2) ?hd (cs := #[.int .i64 a0_0, .int .i64 a0_1, .int .i64 a0_2, .int .i64 a0_3, .int .i64 a0_4, .int .i64 a0_5]) (t := 75) ?hr ?_; (case hd => rfl); (case hg => rfl); (case hr => first | (go_simp; done) | (go_simp; rfl)); intro gb436 hg w20 hbox hb; have n0_ := Gv.a0 (below_step Gv.bw hb); have n1_ := Gv.a0 (hbox); have n2_ := Gv.a0 ((Gv.ble hg Gv.bw : w.heap.size ≤ gb436)); have n3_ := Gv.a0 ((Gv.ble hg Gv.bw : w.heap.size ≤ gb436)); clear HB; have HB := n0_; have BK436 := n1_; have GW436 := n2_; have GE436 := n3_; clear n0_ n1_ n2_ n3_; clear hb hbox hg) | ((with_reducible refine gate_dst (N := 3) rfl ?_); refine box_event ?hg (N := 3) ?hd (cs := #[.int .i64 a1]) (t := 3) ?hr ?_; (case hd => rfl); (case hg => rfl); (case hr => first | (go_simp; done) | (go_simp; rfl)); intro gb437 hg w21 hbox hb; have n0_ := Gv.a0 (Gv.bb BK436.out hb); have n1_ := Gv.a0 (below_step Gv.bw hb); have n2_ := Gv.a0 (hbox); have n3_ := Gv.a0 ((Gv.ble hg Gv.bw : w.heap.size ≤ gb437)); have n4_ := Gv.a0 ((Gv.ble hg Gv.bw : w.heap.size ≤ gb437)); have n5_ := Gv.a0 ((Gv.nlt hg (Gv.kb BK436.out) : gb436 ≠ gb437)); have n6_ := Gv.a0 ((Gv.ngt hg (Gv.kb BK436.out) : gb437 ≠ gb436)); clear BK436; clear HB; have BK436 := n0_; have HB := n1_; have BK437 := n2_; have GW437 := n3_; have GE437 := n4_; have NB436_437 := n5_; have NB437_436 := n6_; clear n0_ n1_ n2_ n3_ n4_ n5_ n6_; clear hb hbox hg) | ((with_reducible refine gate_dst (N := 4) rfl ?_); refine box_event ?hg (N := 4) ?hd (cs := #[.int .i64 0, .int .i64 0, .int .i64 0]) (t := 51) ?hr ?_; (case hd => rfl); (case hg => rfl); (case hr => first | (go_simp; done) | (go_simp; rfl)); intro gb438 hg w22 hbox hb; have n0_ := Gv.a0 (Gv.bb BK436.out hb); have n1_ := Gv.a0 (Gv.bb BK437.out hb); have n2_ := Gv.a0 (below_step Gv.bw hb); have n3_ := Gv.a0 (hbox); have n4_ := Gv.a0 ((Gv.ble hg Gv.bw : w.heap.size ≤ gb438)); have n5_ := Gv.a0 ((Gv.ble hg Gv.bw : w.heap.size ≤ gb438)); have n6_ := Gv.a0 ((Gv.nlt hg (Gv.kb BK436.out) : gb436 ≠ gb438)); have n7_ := Gv.a0 ((Gv.ngt hg (Gv.kb BK436.out) : gb438 ≠ gb436)); have n8_ := Gv.a0 ((Gv.nlt hg (Gv.kb BK437.out) : gb437 ≠ gb438)); have n9_ := Gv.a0 ((Gv.ngt hg (Gv.kb BK437.out) : gb438 ≠ gb437)); clear BK436; clear BK437; clear HB; have BK436 := n0_; have BK437 := n1_; have HB := n2_; have BK438 := n3_; have GW438 := n4_; have GE438 := n5_; have NB436_438 := n6_; have NB438_436 := n7_; have NB437_438 := n8_; have NB438_437 := n9_; clear n0_ n1_ n2_ n3_ n4_ n5_ n6_ n7_ n8_ n9_; clear hb hbox hg; have hnb23 := NB436_437.out; have hnc23 := NB437_436.out; have hnb24 := NB436_438.out; have hnc24 := NB438_436.out; obtain ⟨hcz25_0, hcz25_1, hcz25_2, hcz25_3, hcz25_4, hcz25_5⟩ := Gv.c6 BK436.out; obtain ⟨hfz25_0, hfz25_1, hfz25_2, hfz25_3, hfz25_4, hfz25_5⟩ := Gv.f6 BK436.out) | ((with_reducible refine gate_callee (f := 77) rfl ?_); refine goesL_ (some 6) rfl rfl Try.func77 (by kernel_rfl) rfl #[.agg #[.int .i64 a0_0, .int .i64 a0_1, .int .i64 a0_2, .int .i64 a0_3, .int .i64 a0_4, .int .i64 a0_5]] rfl Gv.lm ?_; (with_reducible refine (impl_ProfOk.calls a0_0 a0_1 a0_2 a0_3 a0_4 a0_5 true _ A3.out).mono ?_); rintro e w26 ⟨rfl, hb⟩; refine ⟨_, rfl, ?_⟩; have n0_ := Gv.a0 (Gv.bb BK436.out hb); have n1_ := Gv.a0 (Gv.bb BK437.out hb); have n2_ := Gv.a0 (Gv.bb BK438.out hb); have n3_ := Gv.a0 (below_step Gv.bw hb); clear BK436; clear BK437; clear BK438; clear HB; have BK436 := n0_; have BK437 := n1_; have BK438 := n2_; have HB := n3_; clear n0_ n1_ n2_ n3_; (try clear hb); (try clear hb2); (try clear hk); (try clear hi); have hnb27 := NB437_438.out; have hnc27 := NB438_437.out; have hcz28_0 : w26.cell? ⟨gb437, 0, none⟩ = some (.int .i64 a1) := (blk_cell BK437.out 0).trans rfl; have hfz28_0 := blk_frozen BK437.out 0) | (go_at_call 54; (with_reducible refine (impl_isSize.calls a1 false _ A5.out).mono ?_); rintro e w' ⟨rfl, ⟨nd, rfl⟩⟩; (try (rw [drewN_self w26]; generalize hq_ : World.drewN w26 _ = w26; have n0_ : Aside0 (w26.heap[gb436]? = some (.cells #[.int .i64 a0_0, .int .i64 a0_1, .int .i64 a0_2, .int .i64 a0_3, .int .i64 a0_4, .int .i64 a0_5] 75 (0, 0))) := ⟨by rw [← hq_]; exact Gv.bk⟩; have n1_ : Aside0 (w26.heap[gb437]? = some (.cells #[.int .i64 a1] 3 (0, 0))) := ⟨by rw [← hq_]; exact Gv.bk⟩; have n2_ : Aside0 (w26.heap[gb438]? = some (.cells #[.int .i64 0, .int .i64 0, .int .i64 0] 51 (0, 0))) := ⟨by rw [← hq_]; exact Gv.bk⟩; have n3_ : Aside0 (Below w.heap.size w w26) := ⟨by rw [← hq_]; exact Gv.bw⟩; clear BK436 BK437 BK438 HB hq_; have BK436 := n0_; have BK437 := n1_; have BK438 := n2_; have HB := n3_; clear n0_ n1_ n2_ n3_)); have hcz29_0 : w26.cell? ⟨gb438, 0, none⟩ = some (.int .i64 0) := (blk_cell BK438.out 0).trans rfl; have hcz29_1 : w26.cell? ⟨gb438, 1, none⟩ = some (.int .i64 0) := (blk_cell BK438.out 1).trans rfl; have hcz29_2 : w26.cell? ⟨gb438, 2, none⟩ = some (.int .i64 0) := (blk_cell BK438.out 2).trans rfl; have hfz29_0 := blk_frozen BK438.out 0; have hfz29_1 := blk_frozen BK438.out 1; have hfz29_2 := blk_frozen BK438.out 2))
   refine bodyPost_ret (results_cell_row rfl _ _ gb438 51 #[.int .i64 0, .int .i64 0, .int .i64 0] (0, 0) _ rfl (by (with_reducible repeat (first | refine blk_drewN ?_ _ | refine blk_drew ?_ | refine blk_alloc ?_ _)); refine blk_put (cs := #[.int .i64 0, .int .i64 0, .int .i64 0]) ?_ 2 _ rfl; (with_reducible repeat (first | refine blk_drewN ?_ _ | refine blk_drew ?_ | refine blk_alloc ?_ _)); refine blk_put (cs := #[.int .i64 0, .int .i64 0, .int .i64 0]) ?_ 1 _ rfl; (with_reducible repeat (first | refine blk_drewN ?_ _ | refine blk_drew ?_ | refine blk_alloc ?_ _)); refine blk_put (cs := #[.int .i64 0, .int .i64 0, .int .i64 0]) ?_ 0 _ rfl; (with_reducible repeat (first | refine blk_drewN ?_ _ | refine blk_drew ?_ | refine blk_alloc ?_ _)); exact BK438.out) Try.underlying51 rfl (by kernel_rfl)) rfl ?_
   exact ⟨Gv.rt, Gv.bw⟩
 ·replace c4 := Bool.eq_false_iff.mpr c4
  subst c4
  have H1 : (some (0, 0, 0)) = some (r1, r2, r3) := by rw [if_neg (show ¬ (false = true) by decide)] at H; exact H
  clear H
  have H := H1
  clear H1
  simp only [Option.some.injEq, Prod.mk.injEq] at H
  obtain ⟨rfl, rfl, rfl⟩ := H
  have hmf : ∀ (fn : Fn) (first cap : Array Value) (w : World), (Instr.makeFunc fn first cap).run Try.prog w = .ok (.func fn first cap) w := fun _ _ _ _ => rfl
  go_enter Try.func56, Try.ntmps56
  go_wp2_with (first | ((with_reducible refine gate_dst (N := 2) rfl ?_); refine box_event ?hg (N := 2) ?hd (cs := #[.int .i64 a0_0, .int .i64 a0_1, .int .i64 a0_2, .int .i64 a0_3, .int .i64 a0_4, .int .i64 a0_5]) (t := 75) ?hr ?_; (case hd => rfl); (case hg => rfl); (case hr => first | (go_simp; done) | (go_simp; rfl)); intro gb436 hg w30 hbox hb; have n0_ := Gv.a0 (below_step Gv.bw hb); have n1_ := Gv.a0 (hbox); have n2_ := Gv.a0 ((Gv.ble hg Gv.bw : w.heap.size ≤ gb436)); have n3_ := Gv.a0 ((Gv.ble hg Gv.bw : w.heap.size ≤ gb436)); clear HB; have HB := n0_; have BK436 := n1_; have GW436 := n2_; have GE436 := n3_; clear n0_ n1_ n2_ n3_; clear hb hbox hg) | ((with_reducible refine gate_dst (N := 3) rfl ?_); refine box_event ?hg (N := 3) ?hd (cs := #[.int .i64 a1]) (t := 3) ?hr ?_; (case hd => rfl); (case hg => rfl); (case hr => first | (go_simp; done) | (go_simp; rfl)); intro gb437 hg w31 hbox hb; have n0_ := Gv.a0 (Gv.bb BK436.out hb); have n1_ := Gv.a0 (below_step Gv.bw hb); have n2_ := Gv.a0 (hbox); have n3_ := Gv.a0 ((Gv.ble hg Gv.bw : w.heap.size ≤ gb437)); have n4_ := Gv.a0 ((Gv.ble hg Gv.bw : w.heap.size ≤ gb437)); have n5_ := Gv.a0 ((Gv.nlt hg (Gv.kb BK436.out) : gb436 ≠ gb437)); have n6_ := Gv.a0 ((Gv.ngt hg (Gv.kb BK436.out) : gb437 ≠ gb436)); clear BK436; clear HB; have BK436 := n0_; have HB := n1_; have BK437 := n2_; have GW437 := n3_; have GE437 := n4_; have NB436_437 := n5_; have NB437_436 := n6_; clear n0_ n1_ n2_ n3_ n4_ n5_ n6_; clear hb hbox hg) | ((with_reducible refine gate_dst (N := 4) rfl ?_); refine box_event ?hg (N := 4) ?hd (cs := #[.int .i64 0, .int .i64 0, .int .i64 0]) (t := 51) ?hr ?_; (case hd => rfl); (case hg => rfl); (case hr => first | (go_simp; done) | (go_simp; rfl)); intro gb438 hg w32 hbox hb; have n0_ := Gv.a0 (Gv.bb BK436.out hb); have n1_ := Gv.a0 (Gv.bb BK437.out hb); have n2_ := Gv.a0 (below_step Gv.bw hb); have n3_ := Gv.a0 (hbox); have n4_ := Gv.a0 ((Gv.ble hg Gv.bw : w.heap.size ≤ gb438)); have n5_ := Gv.a0 ((Gv.ble hg Gv.bw : w.heap.size ≤ gb438)); have n6_ := Gv.a0 ((Gv.nlt hg (Gv.kb BK436.out) : gb436 ≠ gb438)); have n7_ := Gv.a0 ((Gv.ngt hg (Gv.kb BK436.out) : gb438 ≠ gb436)); have n8_ := Gv.a0 ((Gv.nlt hg (Gv.kb BK437.out) : gb437 ≠ gb438)); have n9_ := Gv.a0 ((Gv.ngt hg (Gv.kb BK437.out) : gb438 ≠ gb437)); clear BK436; clear BK437; clear HB; have BK436 := n0_; have BK437 := n1_; have HB := n2_; have BK438 := n3_; have GW438 := n4_; have GE438 := n5_; have NB436_438 := n6_; have NB438_436 := n7_; have NB437_438 := n8_; have NB438_437 := n9_; clear n0_ n1_ n2_ n3_ n4_ n5_ n6_ n7_ n8_ n9_; clear hb hbox hg; have hnb33 := NB436_437.out; have hnc33 := NB437_436.out; have hnb34 := NB436_438.out; have hnc34 := NB438_436.out; obtain ⟨hcz35_0, hcz35_1, hcz35_2, hcz35_3, hcz35_4, hcz35_5⟩ := Gv.c6 BK436.out; obtain ⟨hfz35_0, hfz35_1, hfz35_2, hfz35_3, hfz35_4, hfz35_5⟩ := Gv.f6 BK436.out) | ((with_reducible refine gate_callee (f := 77) rfl ?_); refine goesL_ (some 6) rfl rfl Try.func77 (by kernel_rfl) rfl #[.agg #[.int .i64 a0_0, .int .i64 a0_1, .int .i64 a0_2, .int .i64 a0_3, .int .i64 a0_4, .int .i64 a0_5]] rfl Gv.lm ?_; (with_reducible refine (impl_ProfOk.calls a0_0 a0_1 a0_2 a0_3 a0_4 a0_5 false _ A3.out).mono ?_); rintro e w36 ⟨rfl, hb⟩; refine ⟨_, rfl, ?_⟩; have n0_ := Gv.a0 (Gv.bb BK436.out hb); have n1_ := Gv.a0 (Gv.bb BK437.out hb); have n2_ := Gv.a0 (Gv.bb BK438.out hb); have n3_ := Gv.a0 (below_step Gv.bw hb); clear BK436; clear BK437; clear BK438; clear HB; have BK436 := n0_; have BK437 := n1_; have BK438 := n2_; have HB := n3_; clear n0_ n1_ n2_ n3_; (try clear hb); (try clear hb2); (try clear hk); (try clear hi); have hnb37 := NB438_437.out; have hnc37 := NB437_438.out; have hcz38_0 : w36.cell? ⟨gb438, 0, none⟩ = some (.int .i64 0) := (blk_cell BK438.out 0).trans rfl; have hcz38_1 : w36.cell? ⟨gb438, 1, none⟩ = some (.int .i64 0) := (blk_cell BK438.out 1).trans rfl; have hcz38_2 : w36.cell? ⟨gb438, 2, none⟩ = some (.int .i64 0) := (blk_cell BK438.out 2).trans rfl; have hfz38_0 := blk_frozen BK438.out 0; have hfz38_1 := blk_frozen BK438.out 1; have hfz38_2 := blk_frozen BK438.out 2))
  refine bodyPost_ret (results_cell_row rfl _ _ gb438 51 #[.int .i64 0, .int .i64 0, .int .i64 0] (0, 0) _ rfl (by (with_reducible repeat (first | refine blk_drewN ?_ _ | refine blk_drew ?_ | refine blk_alloc ?_ _)); refine blk_put (cs := #[.int .i64 0, .int .i64 0, .int .i64 0]) ?_ 2 _ rfl; (with_reducible repeat (first | refine blk_drewN ?_ _ | refine blk_drew ?_ | refine blk_alloc ?_ _)); refine blk_put (cs := #[.int .i64 0, .int .i64 0, .int .i64 0]) ?_ 1 _ rfl; (with_reducible repeat (first | refine blk_drewN ?_ _ | refine blk_drew ?_ | refine blk_alloc ?_ _)); refine blk_put (cs := #[.int .i64 0, .int .i64 0, .int .i64 0]) ?_ 0 _ rfl; (with_reducible repeat (first | refine blk_drewN ?_ _ | refine blk_drew ?_ | refine blk_alloc ?_ _)); exact BK438.out) Try.underlying51 rfl (by kernel_rfl)) rfl ?_
  exact ⟨Gv.rt, Gv.bw⟩

/-! ### impl_Vec_each: function 57 -/
def impl_Vec_each.f (Fo : Int → Option Int) (a0_0 : Int) (a0_1 : Int) (a0_2 : Int) : Option (Int × Int × Int) := (Fo a0_0).bind fun t446 => ((Fo a0_1).bind fun t447 => ((Fo a0_2).bind fun t448 => (some (t446, t447, t448))))
def impl_Vec_each.T1 : Bool × List (List Nat × List Nat) := (true, [([], []), ([], []), ([1], [1]), ([0, 2], [0, 2]), ([], []), ([], []), ([5], [5]), ([4, 6, 3], [4, 6]), ([], []), ([], []), ([9], [9]), ([8, 10, 7], [8, 10]), ([3, 7, 11], [3, 7, 11]), ([12, 11, 0, 1, 2, 3, 4, 5, 6, 7, 8, 9, 10, 11, 12], [12])])
def impl_Vec_each.B1 : List Nat := [0, 0, 2, 7, 0, 0, 32, 127, 0, 0, 512, 2047, 4095, 8191]
theorem impl_Vec_each.tab1 : rtab .any (opsOf Try.f57 1) = impl_Vec_each.T1 := by kernel_rfl
theorem impl_Vec_each.bits1 : waitsOk impl_Vec_each.T1.2 impl_Vec_each.B1 = true := by kernel_rfl
set_option maxHeartbeats 8000000 in
set_option maxRecDepth 100000 in
theorem impl_Vec_each.gen (fn : Nat) (fnc : Func) (hfn_ : Try.prog.funcs[fn]? = some fnc) (hnm_ : (fnc.name == "runtime.NumGoroutine") = false) (hbd_ : fnc.body.isSome = true) (lb : Array Value) (Fo : Int → Option Int) (a0_0 : Int) (a0_1 : Int) (a0_2 : Int) (r1 : Int) (r2 : Int) (r3 : Int) (w : World) (hfo_ : ∀ (W : World) (x0 : Int) (r : Int), Below w.heap.size w W → Fo x0 = some r → Calls Try.prog fn (#[.int .i64 x0] ++ lb) W fun e w' => e = .returned (.int .i64 r) ∧ Below W.heap.size W w') (h : impl_Vec_each.f Fo a0_0 a0_1 a0_2 = some (r1, r2, r3)) :
  Calls Try.prog 57 #[.agg #[.int .i64 a0_0, .int .i64 a0_1, .int .i64 a0_2], .func (.func fn) #[] lb] w fun e w' => e = .returned (.agg #[.int .i64 r1, .int .i64 r2, .int .i64 r3]) ∧ Below w.heap.size w w' := by
 have HFo := Gv.a0 hfo_
 clear hfo_
 have hu51 := Try.underlying51
 have HB := Gv.a0 (Below.refl w.heap.size w)
 have H : ((Fo a0_0).bind fun t446 => ((Fo a0_1).bind fun t447 => ((Fo a0_2).bind fun t448 => (some (t446, t447, t448))))) = some (r1, r2, r3) := h
 clear h
 replace H := Option.bind_eq_some_iff.mp H
 obtain ⟨t446, A20, H⟩ := H
 replace H : ((Fo a0_1).bind fun t447 => ((Fo a0_2).bind fun t448 => (some (t446, t447, t448)))) = some (r1, r2, r3) := H
 have A2 := Gv.a0 A20
 clear A20
 replace H := Option.bind_eq_some_iff.mp H
 obtain ⟨t447, A30, H⟩ := H
 replace H : ((Fo a0_2).bind fun t448 => (some (t446, t447, t448))) = some (r1, r2, r3) := H
 have A3 := Gv.a0 A30
 clear A30
 replace H := Option.bind_eq_some_iff.mp H
 obtain ⟨t448, A40, H⟩ := H
 replace H : (some (t446, t447, t448)) = some (r1, r2, r3) := H
 have A4 := Gv.a0 A40
 clear A40
 simp only [Option.some.injEq, Prod.mk.injEq] at H
 obtain ⟨rfl, rfl, rfl⟩ := H
 go_enter Try.func57, Try.ntmps57
 try go_wp2_with (first | ((with_reducible refine gate_dst (N := 2) rfl ?_); refine box_event ?hg (N := 2) ?hd (cs := #[.int .i64 a0_0, .int .i64 a0_1, .int .i64 a0_2]) (t := 51) ?hr ?_; (case hd => rfl); (case hg => rfl); (case hr => first | (go_simp; done) | (go_simp; rfl)); intro gb444 hg w5 hbox hb; have n0_ := Gv.a0 (below_step Gv.bw hb); have n1_ := Gv.a0 (hbox); have n2_ := Gv.a0 ((Gv.ble hg Gv.bw : w.heap.size ≤ gb444)); have n3_ := Gv.a0 ((Gv.ble hg Gv.bw : w.heap.size ≤ gb444)); clear HB; have HB := n0_; have BK444 := n1_; have GW444 := n2_; have GE444 := n3_; clear n0_ n1_ n2_ n3_; clear hb hbox hg) | ((with_reducible refine gate_dst (N := 4) rfl ?_); refine box_event ?hg (N := 4) ?hd (cs := #[.int .i64 0, .int .i64 0, .int .i64 0]) (t := 51) ?hr ?_; (case hd => rfl); (case hg => rfl); (case hr => first | (go_simp; done) | (go_simp; rfl)); intro gb445 hg w6 hbox hb; have n0_ := Gv.a0 (Gv.bb BK444.out hb); have n1_ := Gv.a0 (below_step Gv.bw hb); have n2_ := Gv.a0 (hbox); have n3_ := Gv.a0 ((Gv.ble hg Gv.bw : w.heap.size ≤ gb445)); have n4_ := Gv.a0 ((Gv.ble hg Gv.bw : w.heap.size ≤ gb445)); have n5_ := Gv.a0 ((Gv.nlt hg (Gv.kb BK444.out) : gb444 ≠ gb445)); have n6_ := Gv.a0 ((Gv.ngt hg (Gv.kb BK444.out) : gb445 ≠ gb444)); clear BK444; clear HB; have BK444 := n0_; have HB := n1_; have BK445 := n2_; have GW445 := n3_; have GE445 := n4_; have NB444_445 := n5_; have NB445_444 := n6_; clear n0_ n1_ n2_ n3_ n4_ n5_ n6_; clear hb hbox hg))
 have n0_ := Gv.a0 (blk_drew BK444.out)
 have n1_ := Gv.a0 (blk_drew BK445.out)
 have n2_ := Gv.a0 (below_drew1 HB.out)
 clear BK444
 clear BK445
 clear HB
 have BK444 := n0_
 have BK445 := n1_
 have HB := n2_
 clear n0_ n1_ n2_
 refine start_ (n := 14) (S := fun w' => w'.cell? ⟨gb444, 0, none⟩ = some (.int .i64 a0_0) ∧ w'.cell? ⟨gb444, 1, none⟩ = some (.int .i64 a0_1) ∧ w'.cell? ⟨gb444, 2, none⟩ = some (.int .i64 a0_2)) (ds := []) #[false, false, false, false, false, false, false, false, false, false, false, false, false, false] (by kernel_rfl) rfl rfl ⟨(blk_cell BK444.out 0).trans rfl, (blk_cell BK444.out 1).trans rfl, (blk_cell BK444.out 2).trans rfl⟩ (fun hHeld => ?_); refine with_tabW impl_Vec_each.tab1 impl_Vec_each.bits1 (fun HT_ HW_ => ?_)
 generalize w6.drew = w7 at BK444 BK445 HB hHeld ⊢
 refine Gv.pu 0 (some 5) HT_ ?_
 refine Gv.pu 1 (some 6) HT_ ?_
 refine Gv.pu 4 (some 9) HT_ ?_
 refine Gv.pu 5 (some 10) HT_ ?_
 refine Gv.pu 8 (some 13) HT_ ?_
 refine Gv.pu 9 (some 14) HT_ ?_
 refine take_ (i := 2) (N := some 7) (v := ?_) (a' := ?_) #[true, true, true, false, true, true, false, false, true, true, false, false, false, false] rfl rfl (take_ofW HT_.out HW_.out (by kernel_rfl)) (fun _ _ _ h => h) (Or.inl ⟨by rfl, ?_⟩) hHeld ?_ ?_
 rotate_left
 ·rintro w' ⟨s0, s1, s2⟩
  go_simp
  with_reducible rfl
 rotate_left
 ·simp only [Act.put, List.setIfInBounds_toArray, List.set_cons_zero, List.set_cons_succ, i64_w, i32_w]
  rfl
 refine take_ (i := 6) (N := some 11) (v := ?_) (a' := ?_) #[true, true, true, false, true, true, true, false, true, true, false, false, false, false] rfl rfl (take_ofW HT_.out HW_.out (by kernel_rfl)) (fun _ _ _ h => h) (Or.inl ⟨by rfl, ?_⟩) hHeld ?_ ?_
 rotate_left
 ·rintro w' ⟨s0, s1, s2⟩
  go_simp
  with_reducible rfl
 rotate_left
 ·simp only [Act.put, List.setIfInBounds_toArray, List.set_cons_zero, List.set_cons_succ, i64_w, i32_w]
  rfl
 refine take_ (i := 10) (N := some 15) (v := ?_) (a' := ?_) #[true, true, true, false, true, true, true, false, true, true, true, false, false, false] rfl rfl (take_ofW HT_.out HW_.out (by kernel_rfl)) (fun _ _ _ h => h) (Or.inl ⟨by rfl, ?_⟩) hHeld ?_ ?_
 rotate_left
 ·rintro w' ⟨s0, s1, s2⟩
  go_simp
  with_reducible rfl
 rotate_left
 ·simp only [Act.put, List.setIfInBounds_toArray, List.set_cons_zero, List.set_cons_succ, i64_w, i32_w]
  rfl
 refine one_ (i := 3) (N := some 8) #[true, true, true, true, true, true, true, false, true, true, true, false, false, false] rfl rfl (one_of HT_.out (by kernel_rfl)) (by decide) (fun K hK => ?_)
 refine Gv.goesV_ hfn_ hnm_ hbd_ #[.int .i64 a0_0] lb (by rfl) rfl rfl rfl Gv.lm ?_
 with_reducible refine (HFo.out _ a0_0 t446 HB.out A2.out).mono ?_
 rintro e w8 ⟨rfl, hb⟩
 refine ⟨_, rfl, ?_⟩
 have n0_ := Gv.a0 (Gv.bb BK444.out hb)
 have n1_ := Gv.a0 (Gv.bb BK445.out hb)
 have n2_ := Gv.a0 (below_step Gv.bw hb)
 clear BK444
 clear BK445
 clear HB
 have BK444 := n0_
 have BK445 := n1_
 have HB := n2_
 clear n0_ n1_ n2_
 (try clear hb)
 (try clear hb2)
 (try clear hk)
 (try clear hi)
 refine hK.out _ _ ⟨(blk_cell BK444.out 0).trans rfl, (blk_cell BK444.out 1).trans rfl, (blk_cell BK444.out 2).trans rfl⟩ (fun hHeld => ?_)
 clear hK K
 refine norm_ (a' := ?_) ?_ ?_
 rotate_left
 ·show Act.put _ (some 8) _ = _
  simp only [Act.put, List.setIfInBounds_toArray, List.set_cons_zero, List.set_cons_succ, i64_w, i32_w]
  rfl
 refine one_ (i := 7) (N := some 12) #[true, true, true, true, true, true, true, true, true, true, true, false, false, false] rfl rfl (one_of HT_.out (by kernel_rfl)) (by decide) (fun K hK => ?_)
 refine Gv.goesV_ hfn_ hnm_ hbd_ #[.int .i64 a0_1] lb (by rfl) rfl rfl rfl Gv.lm ?_
 with_reducible refine (HFo.out _ a0_1 t447 HB.out A3.out).mono ?_
 rintro e w9 ⟨rfl, hb⟩
 refine ⟨_, rfl, ?_⟩
 have n0_ := Gv.a0 (Gv.bb BK444.out hb)
 have n1_ := Gv.a0 (Gv.bb BK445.out hb)
 have n2_ := Gv.a0 (below_step Gv.bw hb)
 clear BK444
 clear BK445
 clear HB
 have BK444 := n0_
 have BK445 := n1_
 have HB := n2_
 clear n0_ n1_ n2_
 (try clear hb)
 (try clear hb2)
 (try clear hk)
 (try clear hi)
 refine hK.out _ _ ⟨(blk_cell BK444.out 0).trans rfl, (blk_cell BK444.out 1).trans rfl, (blk_cell BK444.out 2).trans rfl⟩ (fun hHeld => ?_)
 clear hK K
 refine norm_ (a' := ?_) ?_ ?_
 rotate_left
 ·show Act.put _ (some 12) _ = _
  simp only [Act.put, List.setIfInBounds_toArray, List.set_cons_zero, List.set_cons_succ, i64_w, i32_w]
  rfl
 refine one_ (i := 11) (N := some 16) #[true, true, true, true, true, true, true, true, true, true, true, true, false, false] rfl rfl (one_of HT_.out (by kernel_rfl)) (by decide) (fun K hK => ?_)
 refine Gv.goesV_ hfn_ hnm_ hbd_ #[.int .i64 a0_2] lb (by rfl) rfl rfl rfl Gv.lm ?_
 with_reducible refine (HFo.out _ a0_2 t448 HB.out A4.out).mono ?_
 rintro e w10 ⟨rfl, hb⟩
 refine ⟨_, rfl, ?_⟩
 have n0_ := Gv.a0 (Gv.bb BK444.out hb)
 have n1_ := Gv.a0 (Gv.bb BK445.out hb)
 have n2_ := Gv.a0 (below_step Gv.bw hb)
 clear BK444
 clear BK445
 clear HB
 have BK444 := n0_
 have BK445 := n1_
 have HB := n2_
 clear n0_ n1_ n2_
 (try clear hb)
 (try clear hb2)
 (try clear hk)
 (try clear hi)
 refine hK.out _ _ ⟨(blk_cell BK444.out 0).trans rfl, (blk_cell BK444.out 1).trans rfl, (blk_cell BK444.out 2).trans rfl⟩ (fun hHeld => ?_)
 clear hK K
 refine norm_ (a' := ?_) ?_ ?_
 rotate_left
 ·show Act.put _ (some 16) _ = _
  simp only [Act.put, List.setIfInBounds_toArray, List.set_cons_zero, List.set_cons_succ, i64_w, i32_w]
  rfl
 refine Gv.pu 12 (some 17) HT_ ?_
 refine one_ (i := 13) (N := none) #[true, true, true, true, true, true, true, true, true, true, true, true, true, true] rfl rfl (one_of HT_.out (by kernel_rfl)) (by decide) (fun K hK => ?_)
 have hs11 : w10.cell? ⟨gb445, 0, none⟩ = some (.int .i64 0) := (blk_cell BK445.out 0).trans rfl
 have hfs11 := blk_frozen BK445.out 0
 have hns11_0 := NB444_445.out
 have hms11_0 := NB445_444.out
 have hs12 : w10.cell? ⟨gb445, 1, none⟩ = some (.int .i64 0) := (blk_cell BK445.out 1).trans rfl
 have hfs12 := blk_frozen BK445.out 1
 have hns12_0 := NB444_445.out
 have hms12_0 := NB445_444.out
 have hs13 : w10.cell? ⟨gb445, 2, none⟩ = some (.int .i64 0) := (blk_cell BK445.out 2).trans rfl
 have hfs13 := blk_frozen BK445.out 2
 have hns13_0 := NB444_445.out
 have hms13_0 := NB445_444.out
 refine skip_ (w1 := ?_) (by rfl) rfl ?_ ?_
 rotate_left
 ·go_simp
  rfl
 refine hK.out _ _ ⟨((cell_far (p := ⟨gb445, _, none⟩) NB444_445.out _).trans (((cell_far (p := ⟨gb445, _, none⟩) NB444_445.out _).trans (((cell_far (p := ⟨gb445, _, none⟩) NB444_445.out _).trans (hHeld.1)))))), ((cell_far (p := ⟨gb445, _, none⟩) NB444_445.out _).trans (((cell_far (p := ⟨gb445, _, none⟩) NB444_445.out _).trans (((cell_far (p := ⟨gb445, _, none⟩) NB444_445.out _).trans (hHeld.2.1)))))), ((cell_far (p := ⟨gb445, _, none⟩) NB444_445.out _).trans (((cell_far (p := ⟨gb445, _, none⟩) NB444_445.out _).trans (((cell_far (p := ⟨gb445, _, none⟩) NB444_445.out _).trans (hHeld.2.2))))))⟩ (fun hHeld => ?_)
 clear hK K
 refine done_ (done_of HT_.out (by kernel_rfl)) ?_
 try go_wp2
 refine bodyPost_ret (results_cell_row rfl _ _ gb445 51 #[.int .i64 t446, .int .i64 t447, .int .i64 t448] (0, 0) _ rfl (by (with_reducible repeat (first | refine blk_drewN ?_ _ | refine blk_drew ?_ | refine blk_alloc ?_ _)); refine blk_put (cs := #[.int .i64 t446, .int .i64 t447, .int .i64 0]) ?_ 2 _ rfl; (with_reducible repeat (first | refine blk_drewN ?_ _ | refine blk_drew ?_ | refine blk_alloc ?_ _)); refine blk_put (cs := #[.int .i64 t446, .int .i64 0, .int .i64 0]) ?_ 1 _ rfl; (with_reducible repeat (first | refine blk_drewN ?_ _ | refine blk_drew ?_ | refine blk_alloc ?_ _)); refine blk_put (cs := #[.int .i64 0, .int .i64 0, .int .i64 0]) ?_ 0 _ rfl; (with_reducible repeat (first | refine blk_drewN ?_ _ | refine blk_drew ?_ | refine blk_alloc ?_ _)); exact BK445.out) Try.underlying51 rfl (by kernel_rfl)) rfl ?_
 exact ⟨Gv.rt, Gv.bw⟩

/-! ### impl_Vec_each_c58: function 57 over a closure -/
set_option maxHeartbeats 8000000 in
set_option maxRecDepth 100000 in
theorem impl_Vec_each_c58.clo   (x0 : Int) (r : Int) (W : World)  (h : (impl_Clip.f x0 1 1000) = some r) :
    Calls Try.prog 58 (#[.int .i64 x0] ++ #[]) W fun e w' => e = .returned (.int .i64 r) ∧ Below W.heap.size W w' := by
  have H := Aside0.mk h
  clear h
  go_enter Try.func58, Try.ntmps58
  go_wp2_with fail
  refine (impl_Clip.calls x0 1 1000 r _ H.out).mono ?_
  rintro e w' ⟨rfl, hb⟩
  have HB' := Aside0.mk hb
  clear hb
  go_wp2_with fail
  go_ret
  exact ⟨rfl, by first | exact HB'.out | exact HB'.out.below⟩
def impl_Vec_each_c58.f (a0_0 a0_1 a0_2 : Int)  : Option (Int × Int × Int) := impl_Vec_each.f (fun x0 => impl_Clip.f x0 1 1000) a0_0 a0_1 a0_2
theorem impl_Vec_each_c58.calls (a0_0 a0_1 a0_2 : Int)  (r1 r2 r3 : Int) (w : World)  (h : impl_Vec_each_c58.f a0_0 a0_1 a0_2  = some (r1, r2, r3)) :
    Calls Try.prog 57 #[.agg #[.int .i64 a0_0, .int .i64 a0_1, .int .i64 a0_2], .func (.func 58) #[] #[]] w fun e w' => e = .returned (.agg #[.int .i64 r1, .int .i64 r2, .int .i64 r3]) ∧ Below w.heap.size w w' :=
  impl_Vec_each.gen 58 _ (by first | exact Try.func58 | kernel_rfl) (by rfl) (by rfl) #[] (fun x0 => impl_Clip.f x0 1 1000) a0_0 a0_1 a0_2 r1 r2 r3 w (fun W x0 r hW_ h_ => impl_Vec_each_c58.clo   x0 r W  h_) h

/-! ### impl_ChainCost: function 24 -/
mutual
def impl_ChainCost.j0 : Nat → List (S75) → List (S38) → Int → Bool → Option (Int × Int × Int)
 | 0, _, _, _, _ => none
 | k + 1, x0, x1, x2, x22 => if x22 = true then (some (0, 0, 0)) else (impl_ChainCost.l0 k x0 x2 x1 (x1.length : Int) 0 0 0 0)
def impl_ChainCost.l0 : Nat → List (S75) → Int → List (S38) → Int → Int → Int → Int → Int → Option (Int × Int × Int)
 | 0, _, _, _, _, _, _, _, _ => none
 | k + 1, x0, x2, x25, x26, x27, x454000, x454001, x454002 => if x27 < x26 then (if 0 ≤ x27 then (if x27 < (x25.length : Int) then (if 0 ≤ (wrap64 (((rd_T38 x25 x27).f0) - 1)) then (if (wrap64 (((rd_T38 x25 x27).f0) - 1)) < (x0.length : Int) then ((impl_ProfCost.f ((rd_T75 x0 (wrap64 (((rd_T38 x25 x27).f0) - 1))).f0.f0) ((rd_T75 x0 (wrap64 (((rd_T38 x25 x27).f0) - 1))).f0.f1) ((rd_T75 x0 (wrap64 (((rd_T38 x25 x27).f0) - 1))).f0.f2) ((rd_T75 x0 (wrap64 (((rd_T38 x25 x27).f0) - 1))).f1.f0) ((rd_T75 x0 (wrap64 (((rd_T38 x25 x27).f0) - 1))).f1.f1) ((rd_T75 x0 (wrap64 (((rd_T38 x25 x27).f0) - 1))).f1.f2) x2).bind fun bt457 => ((impl_Vec_plus.f x454000 x454001 x454002 bt457.1 bt457.2.1 bt457.2.2).bind fun bt460 => (impl_ChainCost.l0 k x0 x2 x25 x26 (wrap64 (x27 + 1)) bt460.1 bt460.2.1 bt460.2.2))) else (none)) else (none)) else (none)) else (none)) else ((impl_Vec_each_c58.f x454000 x454001 x454002).bind fun bt463 => (some (bt463.1, bt463.2.1, bt463.2.2)))
end
def impl_ChainCost.f (k : Nat) (l0 : List (S75)) (l1 : List (S38)) (a2 : Int) : Option (Int × Int × Int) := (impl_areProfs.f l0).bind fun t450 => (if t450 = true then ((impl_ChainOk.f k l1).bind fun t451 => (if t451 = true then ((impl_isSize.f a2).bind fun t452 => (impl_ChainCost.j0 k l0 l1 a2 (!t452))) else (impl_ChainCost.j0 k l0 l1 a2 true))) else (impl_ChainCost.j0 k l0 l1 a2 true))
theorem impl_ChainCost.mono_l : ∀ k, (∀ y0 y1 y2 y3, LeO (impl_ChainCost.j0 k y0 y1 y2 y3) (impl_ChainCost.j0 (k + 1) y0 y1 y2 y3)) ∧ (∀ y0 y1 y2 y3 y4 y5 y6 y7, LeO (impl_ChainCost.l0 k y0 y1 y2 y3 y4 y5 y6 y7) (impl_ChainCost.l0 (k + 1) y0 y1 y2 y3 y4 y5 y6 y7))
 | 0 => ⟨fun _ _ _ _ r h => by simp [impl_ChainCost.j0] at h, fun _ _ _ _ _ _ _ _ r h => by simp [impl_ChainCost.l0] at h⟩
 | k + 1 => by
  obtain ⟨ih0, ih1⟩ := impl_ChainCost.mono_l k
  refine ⟨?_, ?_⟩
  ·intro y0 y1 y2 y3
   unfold impl_ChainCost.j0
   repeat' first
   | (with_reducible exact ih0 _ _ _ _)
   | (with_reducible exact ih1 _ _ _ _ _ _ _ _)
   | (with_reducible exact impl_ChainOk.mono _ _)
   | (with_reducible exact LeO.refl _)
   | (with_reducible exact LeO.none _)
   | (with_reducible refine LeO.ite ?_ ?_)
   | (with_reducible refine LeO.bind ?_ (fun _ => ?_))
   | exact ih0 _ _ _ _
   | exact ih1 _ _ _ _ _ _ _ _
   | exact impl_ChainOk.mono _ _
   | exact LeO.none _
   | refine LeO.ite ?_ ?_
   | refine LeO.bind ?_ (fun _ => ?_)
  ·intro y0 y1 y2 y3 y4 y5 y6 y7
   unfold impl_ChainCost.l0
   repeat' first
   | (with_reducible exact ih0 _ _ _ _)
   | (with_reducible exact ih1 _ _ _ _ _ _ _ _)
   | (with_reducible exact impl_ChainOk.mono _ _)
   | (with_reducible exact LeO.refl _)
   | (with_reducible exact LeO.none _)
   | (with_reducible refine LeO.ite ?_ ?_)
   | (with_reducible refine LeO.bind ?_ (fun _ => ?_))
   | exact ih0 _ _ _ _
   | exact ih1 _ _ _ _ _ _ _ _
   | exact impl_ChainOk.mono _ _
   | exact LeO.none _
   | refine LeO.ite ?_ ?_
   | refine LeO.bind ?_ (fun _ => ?_)
theorem impl_ChainCost.mono : ∀ a0 a1 a2 k, LeO (impl_ChainCost.f k a0 a1 a2) (impl_ChainCost.f (k + 1) a0 a1 a2) := by
 intro a0 a1 a2 k
 obtain ⟨ih0, ih1⟩ := impl_ChainCost.mono_l k
 unfold impl_ChainCost.f
 repeat' first
   | (with_reducible exact ih0 _ _ _ _)
   | (with_reducible exact ih1 _ _ _ _ _ _ _ _)
   | (with_reducible exact impl_ChainOk.mono _ _)
   | (with_reducible exact LeO.refl _)
   | (with_reducible exact LeO.none _)
   | (with_reducible refine LeO.ite ?_ ?_)
   | (with_reducible refine LeO.bind ?_ (fun _ => ?_))
   | exact ih0 _ _ _ _
   | exact ih1 _ _ _ _ _ _ _ _
   | exact impl_ChainOk.mono _ _
   | exact LeO.none _
   | refine LeO.ite ?_ ?_
   | refine LeO.bind ?_ (fun _ => ?_)
def impl_ChainCost.T7 : Bool × List (List Nat × List Nat) := (true, [([], []), ([], []), ([], []), ([2], [2]), ([3], [3]), ([1, 4], [1, 4]), ([5], [5]), ([], []), ([6, 7], [6, 7]), ([0, 8, 8], [0, 8]), ([9, 9, 0, 1, 2, 3, 4, 5, 6, 7, 8, 9], [9])])
def impl_ChainCost.B7 : List Nat := [0, 0, 0, 4, 12, 30, 62, 0, 254, 511, 1023]
theorem impl_ChainCost.tab7 : rtab .any (opsOf Try.f24 7) = impl_ChainCost.T7 := by kernel_rfl
theorem impl_ChainCost.bits7 : waitsOk impl_ChainCost.T7.2 impl_ChainCost.B7 = true := by kernel_rfl
set_option maxHeartbeats 8000000 in
set_option maxRecDepth 100000 in
theorem impl_ChainCost.calls (k : Nat) (A0 : Option Addr) (c0 : Nat) (l0 : List (S75)) (A1 : Option Addr) (c1 : Nat) (l1 : List (S38)) (a2 : Int) (r1 : Int) (r2 : Int) (r3 : Int) (w : World) (hr0 : Kd.C k75 w A0 l0.length l0) (hc0 : l0.length ≤ c0) (hr1 : Kd.C k38 w A1 l1.length l1) (hc1 : l1.length ≤ c1) (h : impl_ChainCost.f k l0 l1 a2 = some (r1, r2, r3)) :
  Calls Try.prog 24 #[.slice A0 l0.length c0, .slice A1 l1.length c1, .int .i64 a2] w fun e w' => e = .returned (.agg #[.int .i64 r1, .int .i64 r2, .int .i64 r3]) ∧ Below w.heap.size w w' := by
 have hu51 := Try.underlying51
 have hu38 := Try.underlying38
 have hu75 := Try.underlying75
 have HR0 := Gv.a0 hr0
 have HC0 := Gv.a0 hc0
 clear hr0 hc0
 have HR1 := Gv.a0 hr1
 have HC1 := Gv.a0 hc1
 clear hr1 hc1
 have HB := Gv.a0 (Below.refl w.heap.size w)
 have H : ((impl_areProfs.f l0).bind fun t450 => (if t450 = true then ((impl_ChainOk.f k l1).bind fun t451 => (if t451 = true then ((impl_isSize.f a2).bind fun t452 => (impl_ChainCost.j0 k l0 l1 a2 (!t452))) else (impl_ChainCost.j0 k l0 l1 a2 true))) else (impl_ChainCost.j0 k l0 l1 a2 true))) = some (r1, r2, r3) := h
 clear h
 have HC4 := Gv.a0 H
 clear H
 go_enter Try.func24, Try.ntmps24
 go_upto_region 1 with (first | ((with_reducible refine gate_dst (N := 6) rfl ?_); refine box_event ?hg (N := 6) ?hd (cs := #[.int .i64 0, .int .i64 0, .int .i64 0]) (t := 51) ?hr ?_; (case hd => rfl); (case hg => rfl); (case hr => first | (go_simp; done) | (go_simp; rfl)); intro gb449 hg w5 hbox hb; have n0_ := Gv.a0 (below_step Gv.bw hb); have n1_ := Gv.a0 (hbox); have n2_ := Gv.a0 ((Gv.ble hg Gv.bw : w.heap.size ≤ gb449)); have n3_ := Gv.a0 ((Gv.ble hg Gv.bw : w.heap.size ≤ gb449)); clear HB; have HB := n0_; have BK449 := n1_; have GW449 := n2_; have GE449 := n3_; clear n0_ n1_ n2_ n3_; clear hb hbox hg))
 (try simp only [Act.put, List.setIfInBounds_toArray, List.set_cons_zero, List.set_cons_succ])
 go_cut [22] (fun v22 wc => ∃ (kq : Nat) (x22_3 : Bool), v22 = .bool x22_3 ∧ Aside0 (impl_ChainCost.j0 kq l0 l1 a2 x22_3 = some (r1, r2, r3)) ∧ Aside0 (kq ≤ k) ∧ Aside0 (wc.heap[gb449]? = some (.cells #[.int .i64 0, .int .i64 0, .int .i64 0] 51 (0, 0))) ∧ Aside0 (Below w.heap.size w wc))
 case first =>
  have H := HC4.out
  clear HC4
  replace H := Option.bind_eq_some_iff.mp H
  obtain ⟨t450, A60, H⟩ := H
  replace H : (if t450 = true then ((impl_ChainOk.f k l1).bind fun t451 => (if t451 = true then ((impl_isSize.f a2).bind fun t452 => (impl_ChainCost.j0 k l0 l1 a2 (!t452))) else (impl_ChainCost.j0 k l0 l1 a2 true))) else (impl_ChainCost.j0 k l0 l1 a2 true)) = some (r1, r2, r3) := H
  have A6 := Gv.a0 A60
  clear A60
  by_cases c7 : t450 = true
  ·subst c7
   have H1 : ((impl_ChainOk.f k l1).bind fun t451 => (if t451 = true then ((impl_isSize.f a2).bind fun t452 => (impl_ChainCost.j0 k l0 l1 a2 (!t452))) else (impl_ChainCost.j0 k l0 l1 a2 true))) = some (r1, r2, r3) := by rw [if_pos rfl] at H; exact H
   clear H
   have H := H1
   clear H1
   replace H := Option.bind_eq_some_iff.mp H
   obtain ⟨t451, A80, H⟩ := H
   replace H : (if t451 = true then ((impl_isSize.f a2).bind fun t452 => (impl_ChainCost.j0 k l0 l1 a2 (!t452))) else (impl_ChainCost.j0 k l0 l1 a2 true)) = some (r1, r2, r3) := H
   have A8 := Gv.a0 A80
   clear A80
   by_cases c9 : t451 = true
   ·subst c9
    have H1 : ((impl_isSize.f a2).bind fun t452 => (impl_ChainCost.j0 k l0 l1 a2 (!t452))) = some (r1, r2, r3) := by rw [if_pos rfl] at H; exact H
    clear H
    have H := H1
    clear H1
    replace H := Option.bind_eq_some_iff.mp H
    obtain ⟨t452, A100, H⟩ := H
    replace H : (impl_ChainCost.j0 k l0 l1 a2 (!t452)) = some (r1, r2, r3) := H
    have A10 := Gv.a0 A100
    clear A100
    have H' := Gv.a0 H
    clear H
    go_wp2_with (first | ((with_reducible refine gate_callee (f := 53) rfl ?_); refine goesL_ (some 11) rfl rfl Try.func53 (by kernel_rfl) rfl #[.slice A0 l0.length c0] rfl Gv.lm ?_; (with_reducible refine (impl_areProfs.calls _ _ l0 true _ ?side1 ?side2 A6.out).mono ?_); (case side1 => repeat (first | exact (Kd.C_below HR0.out HB.out) | (with_reducible refine Kd.C_alloc ?_ _) | (with_reducible refine Kd.C_drewN ?_ _) | (with_reducible refine Kd.C_drew ?_))); (case side2 => exact HC0.out); rintro e w11 ⟨rfl, hb⟩; refine ⟨_, rfl, ?_⟩; have n0_ := Gv.a0 (Gv.bb BK449.out hb); have n1_ := Gv.a0 (below_step Gv.bw hb); clear BK449; clear HB; have BK449 := n0_; have HB := n1_; clear n0_ n1_; (try clear hb); (try clear hb2); (try clear hk); (try clear hi)) | (go_at_call 19; (with_reducible refine (impl_ChainOk.calls k _ _ l1 true _ ?side1 ?side2 A8.out).mono ?_); (case side1 => repeat (first | exact (Kd.C_below HR1.out HB.out) | (with_reducible refine Kd.C_alloc ?_ _) | (with_reducible refine Kd.C_drewN ?_ _) | (with_reducible refine Kd.C_drew ?_))); (case side2 => exact HC1.out); rintro e w12 ⟨rfl, hb⟩; have n0_ := Gv.a0 (Gv.bb BK449.out hb); have n1_ := Gv.a0 (below_step Gv.bw hb); clear BK449; clear HB; have BK449 := n0_; have HB := n1_; clear n0_ n1_; (try clear hb); (try clear hb2); (try clear hk); (try clear hi)) | (go_at_call 54; (with_reducible refine (impl_isSize.calls a2 t452 _ A10.out).mono ?_); rintro e w' ⟨rfl, ⟨nd, rfl⟩⟩))
    go_meet
    case rel => exact ⟨_, (!t452), Gv.rq, H', ⟨by first | omega | exact Nat.le_refl _⟩, ⟨by (with_reducible repeat (first | refine blk_drewN ?_ _ | refine blk_drew ?_ | refine blk_alloc ?_ _)); exact BK449.out⟩, ⟨Gv.bw⟩⟩
   ·replace c9 := Bool.eq_false_iff.mpr c9
    subst c9
    have H1 : (impl_ChainCost.j0 k l0 l1 a2 true) = some (r1, r2, r3) := by rw [if_neg (show ¬ (false = true) by decide)] at H; exact H
    clear H
    have H := H1
    clear H1
    have H' := Gv.a0 H
    clear H
    go_wp2_with (first | ((with_reducible refine gate_callee (f := 53) rfl ?_); refine goesL_ (some 11) rfl rfl Try.func53 (by kernel_rfl) rfl #[.slice A0 l0.length c0] rfl Gv.lm ?_; (with_reducible refine (impl_areProfs.calls _ _ l0 true _ ?side1 ?side2 A6.out).mono ?_); (case side1 => repeat (first | exact (Kd.C_below HR0.out HB.out) | (with_reducible refine Kd.C_alloc ?_ _) | (with_reducible refine Kd.C_drewN ?_ _) | (with_reducible refine Kd.C_drew ?_))); (case side2 => exact HC0.out); rintro e w13 ⟨rfl, hb⟩; refine ⟨_, rfl, ?_⟩; have n0_ := Gv.a0 (Gv.bb BK449.out hb); have n1_ := Gv.a0 (below_step Gv.bw hb); clear BK449; clear HB; have BK449 := n0_; have HB := n1_; clear n0_ n1_; (try clear hb); (try clear hb2); (try clear hk); (try clear hi)) | (go_at_call 19; (with_reducible refine (impl_ChainOk.calls k _ _ l1 false _ ?side1 ?side2 A8.out).mono ?_); (case side1 => repeat (first | exact (Kd.C_below HR1.out HB.out) | (with_reducible refine Kd.C_alloc ?_ _) | (with_reducible refine Kd.C_drewN ?_ _) | (with_reducible refine Kd.C_drew ?_))); (case side2 => exact HC1.out); rintro e w14 ⟨rfl, hb⟩; have n0_ := Gv.a0 (Gv.bb BK449.out hb); have n1_ := Gv.a0 (below_step Gv.bw hb); clear BK449; clear HB; have BK449 := n0_; have HB := n1_; clear n0_ n1_; (try clear hb); (try clear hb2); (try clear hk); (try clear hi)))
    go_meet
    case rel => exact ⟨_, (true), Gv.rq, H', ⟨by first | omega | exact Nat.le_refl _⟩, ⟨by (with_reducible repeat (first | refine blk_drewN ?_ _ | refine blk_drew ?_ | refine blk_alloc ?_ _)); exact BK449.out⟩, ⟨Gv.bw⟩⟩
  ·replace c7 := Bool.eq_false_iff.mpr c7
   subst c7
   have H1 : (impl_ChainCost.j0 k l0 l1 a2 true) = some (r1, r2, r3) := by rw [if_neg (show ¬ (false = true) by decide)] at H; exact H
   clear H
   have H := H1
   clear H1
   have H' := Gv.a0 H
   clear H
   go_wp2_with (first | ((with_reducible refine gate_callee (f := 53) rfl ?_); refine goesL_ (some 11) rfl rfl Try.func53 (by kernel_rfl) rfl #[.slice A0 l0.length c0] rfl Gv.lm ?_; (with_reducible refine (impl_areProfs.calls _ _ l0 false _ ?side1 ?side2 A6.out).mono ?_); (case side1 => repeat (first | exact (Kd.C_below HR0.out HB.out) | (with_reducible refine Kd.C_alloc ?_ _) | (with_reducible refine Kd.C_drewN ?_ _) | (with_reducible refine Kd.C_drew ?_))); (case side2 => exact HC0.out); rintro e w15 ⟨rfl, hb⟩; refine ⟨_, rfl, ?_⟩; have n0_ := Gv.a0 (Gv.bb BK449.out hb); have n1_ := Gv.a0 (below_step Gv.bw hb); clear BK449; clear HB; have BK449 := n0_; have HB := n1_; clear n0_ n1_; (try clear hb); (try clear hb2); (try clear hk); (try clear hi)))
   go_meet
   case rel => exact ⟨_, (true), Gv.rq, H', ⟨by first | omega | exact Nat.le_refl _⟩, ⟨by (with_reducible repeat (first | refine blk_drewN ?_ _ | refine blk_drew ?_ | refine blk_alloc ?_ _)); exact BK449.out⟩, ⟨Gv.bw⟩⟩
 case rest =>
  clear HC4
  try clear c1
  try clear c2
  try clear p2
  try clear c5
  try clear c7
  try clear c9
  obtain ⟨kq, x22_3, rfl, HA, HJ3, BK449, HB⟩ := hcut
  cases kq with
  | zero => exact absurd HA.out (by simp [impl_ChainCost.j0])
  | succ kj3 =>
   have H := HA.out
   clear HA
   simp only [impl_ChainCost.j0] at H
   by_cases c16 : x22_3 = true
   ·subst c16
    have H1 : (some (0, 0, 0)) = some (r1, r2, r3) := by rw [if_pos rfl] at H; exact H
    clear H
    have H := H1
    clear H1
    simp only [Option.some.injEq, Prod.mk.injEq] at H
    obtain ⟨rfl, rfl, rfl⟩ := H
    have hcz17_0 : wc.cell? ⟨gb449, 0, none⟩ = some (.int .i64 0) := (blk_cell BK449.out 0).trans rfl
    have hcz17_1 : wc.cell? ⟨gb449, 1, none⟩ = some (.int .i64 0) := (blk_cell BK449.out 1).trans rfl
    have hcz17_2 : wc.cell? ⟨gb449, 2, none⟩ = some (.int .i64 0) := (blk_cell BK449.out 2).trans rfl
    have hfz17_0 := blk_frozen BK449.out 0
    have hfz17_1 := blk_frozen BK449.out 1
    have hfz17_2 := blk_frozen BK449.out 2
    go_wp2
    refine bodyPost_ret (results_cell_row rfl _ _ gb449 51 #[.int .i64 0, .int .i64 0, .int .i64 0] (0, 0) _ rfl (by (with_reducible repeat (first | refine blk_drewN ?_ _ | refine blk_drew ?_ | refine blk_alloc ?_ _)); refine blk_put (cs := #[.int .i64 0, .int .i64 0, .int .i64 0]) ?_ 2 _ rfl; (with_reducible repeat (first | refine blk_drewN ?_ _ | refine blk_drew ?_ | refine blk_alloc ?_ _)); refine blk_put (cs := #[.int .i64 0, .int .i64 0, .int .i64 0]) ?_ 1 _ rfl; (with_reducible repeat (first | refine blk_drewN ?_ _ | refine blk_drew ?_ | refine blk_alloc ?_ _)); refine blk_put (cs := #[.int .i64 0, .int .i64 0, .int .i64 0]) ?_ 0 _ rfl; (with_reducible repeat (first | refine blk_drewN ?_ _ | refine blk_drew ?_ | refine blk_alloc ?_ _)); exact BK449.out) Try.underlying51 rfl (by kernel_rfl)) rfl ?_
    exact ⟨Gv.rt, Gv.bw⟩
   ·replace c16 := Bool.eq_false_iff.mpr c16
    subst c16
    have H1 : (impl_ChainCost.l0 kj3 l0 a2 l1 (l1.length : Int) 0 0 0 0) = some (r1, r2, r3) := by rw [if_neg (show ¬ (false = true) by decide)] at H; exact H
    clear H
    have H := H1
    clear H1
    have H' := Gv.a0 H
    clear H
    go_wp2_with (first | ((with_reducible refine gate_dst (N := 7) rfl ?_); refine box_event ?hg (N := 7) ?hd (cs := #[.int .i64 0, .int .i64 0, .int .i64 0]) (t := 51) ?hr ?_; (case hd => rfl); (case hg => rfl); (case hr => first | (go_simp; done) | (go_simp; rfl)); intro gb453 hg w18 hbox hb; have n0_ := Gv.a0 (Gv.bb BK449.out hb); have n1_ := Gv.a0 (below_step Gv.bw hb); have n2_ := Gv.a0 (hbox); have n3_ := Gv.a0 ((Gv.ble hg Gv.bw : w.heap.size ≤ gb453)); have n4_ := Gv.a0 ((Gv.ble hg Gv.bw : w.heap.size ≤ gb453)); have n5_ := Gv.a0 ((Gv.nlt hg (Gv.kb BK449.out) : gb449 ≠ gb453)); have n6_ := Gv.a0 ((Gv.ngt hg (Gv.kb BK449.out) : gb453 ≠ gb449)); clear BK449; clear HB; have BK449 := n0_; have HB := n1_; have BK453 := n2_; have GW453 := n3_; have GE453 := n4_; have NB449_453 := n5_; have NB453_449 := n6_; clear n0_ n1_ n2_ n3_ n4_ n5_ n6_; clear hb hbox hg; have hnb19 := NB453_449.out; have hnc19 := NB449_453.out; have hcz20_0 : w18.cell? ⟨gb453, 0, none⟩ = some (.int .i64 0) := (blk_cell BK453.out 0).trans rfl; have hcz20_1 : w18.cell? ⟨gb453, 1, none⟩ = some (.int .i64 0) := (blk_cell BK453.out 1).trans rfl; have hcz20_2 : w18.cell? ⟨gb453, 2, none⟩ = some (.int .i64 0) := (blk_cell BK453.out 2).trans rfl; have hfz20_0 := blk_frozen BK453.out 0; have hfz20_1 := blk_frozen BK453.out 1; have hfz20_2 := blk_frozen BK453.out 2))
    go_loopg [27] kj3 (fun kq v27 w' => ∃ (x27_2 : Int) (x454000_2 : Int) (x454001_2 : Int) (x454002_2 : Int), v27 = .int .i64 x27_2 ∧ Aside0 (impl_ChainCost.l0 kq l0 a2 l1 (l1.length : Int) x27_2 x454000_2 x454001_2 x454002_2 = some (r1, r2, r3)) ∧ Aside0 (kq ≤ kj3) ∧ Aside0 (w'.heap[gb449]? = some (.cells #[.int .i64 0, .int .i64 0, .int .i64 0] 51 (0, 0))) ∧ Aside0 (w'.heap[gb453]? = some (.cells #[.int .i64 x454000_2, .int .i64 x454001_2, .int .i64 x454002_2] 51 (0, 0))) ∧ Aside0 (Below w.heap.size w w'))
    case atStart => exact ⟨(0), (0), (0), (0), Gv.rq, H', ⟨Nat.le_refl _⟩, ⟨by (with_reducible repeat (first | refine blk_drewN ?_ _ | refine blk_drew ?_ | refine blk_alloc ?_ _)); refine blk_far ?_ NB449_453.out _; (with_reducible repeat (first | refine blk_drewN ?_ _ | refine blk_drew ?_ | refine blk_alloc ?_ _)); refine blk_far ?_ NB449_453.out _; (with_reducible repeat (first | refine blk_drewN ?_ _ | refine blk_drew ?_ | refine blk_alloc ?_ _)); refine blk_far ?_ NB449_453.out _; (with_reducible repeat (first | refine blk_drewN ?_ _ | refine blk_drew ?_ | refine blk_alloc ?_ _)); exact BK449.out⟩, ⟨by (with_reducible repeat (first | refine blk_drewN ?_ _ | refine blk_drew ?_ | refine blk_alloc ?_ _)); refine blk_put (cs := #[.int .i64 0, .int .i64 0, .int .i64 0]) ?_ 2 _ rfl; (with_reducible repeat (first | refine blk_drewN ?_ _ | refine blk_drew ?_ | refine blk_alloc ?_ _)); refine blk_put (cs := #[.int .i64 0, .int .i64 0, .int .i64 0]) ?_ 1 _ rfl; (with_reducible repeat (first | refine blk_drewN ?_ _ | refine blk_drew ?_ | refine blk_alloc ?_ _)); refine blk_put (cs := #[.int .i64 0, .int .i64 0, .int .i64 0]) ?_ 0 _ rfl; (with_reducible repeat (first | refine blk_drewN ?_ _ | refine blk_drew ?_ | refine blk_alloc ?_ _)); exact BK453.out⟩, ⟨Gv.bw⟩⟩
    case round =>
     clear H'
     try clear c1
     try clear c2
     try clear p2
     try clear c5
     try clear c7
     try clear c9
     try clear c16
     try clear c19
     try clear hcz17_0 hcz17_1 hcz17_2
     try clear hcz20_0 hcz20_1 hcz20_2
     try clear hfz17_0 hfz17_1 hfz17_2
     try clear hfz20_0 hfz20_1 hfz20_2
     try clear p2
     obtain ⟨x27_2, x454000_2, x454001_2, x454002_2, rfl, HA, HK2, BK449, BK453, HB⟩ := hrel
     cases gk with
     | zero => exact absurd HA.out (by simp [impl_ChainCost.l0])
     | succ k2 =>
      have H := HA.out
      clear HA
      simp only [impl_ChainCost.l0] at H
      by_cases c21 : x27_2 < (l1.length : Int)
      ·rw [if_pos c21] at H
       have c21b0 : decide (x27_2 < (l1.length : Int)) = true := decide_eq_true c21
       clear c21
       by_cases c22 : 0 ≤ x27_2
       ·rw [if_pos c22] at H
        have c22b0 : decide (0 ≤ x27_2) = true := decide_eq_true c22
        clear c22
        by_cases c23 : x27_2 < (l1.length : Int)
        ·rw [if_pos c23] at H
         have c23b0 : decide (x27_2 < (l1.length : Int)) = true := decide_eq_true c23
         clear c23
         obtain ⟨ji24, hji24⟩ : ∃ j_ : Int, (wrap64 (((rd_T38 l1 x27_2).f0) - 1)) = j_ := ⟨_, rfl⟩
         replace H : (if 0 ≤ (ji24) then (if (ji24) < (l0.length : Int) then ((impl_ProfCost.f ((rd_T75 l0 (ji24)).f0.f0) ((rd_T75 l0 (ji24)).f0.f1) ((rd_T75 l0 (ji24)).f0.f2) ((rd_T75 l0 (ji24)).f1.f0) ((rd_T75 l0 (ji24)).f1.f1) ((rd_T75 l0 (ji24)).f1.f2) a2).bind fun bt457 => ((impl_Vec_plus.f x454000_2 x454001_2 x454002_2 bt457.1 bt457.2.1 bt457.2.2).bind fun bt460 => (impl_ChainCost.l0 k2 l0 a2 l1 (l1.length : Int) (wrap64 (x27_2 + 1)) bt460.1 bt460.2.1 bt460.2.2))) else (none)) else (none)) = some (r1, r2, r3) := by first | (rw [hji24] at H; exact H) | (simp only [hji24] at H ⊢; exact H)
         have hji24w : (IntKind.i64.wrap (((rd_T38 l1 x27_2).f0) - 1)) = ji24 := (i64_w _).trans hji24
         by_cases c25 : 0 ≤ (ji24)
         ·rw [if_pos c25] at H
          have c25b0 : decide (0 ≤ (ji24)) = true := decide_eq_true c25
          clear c25
          by_cases c26 : (ji24) < (l0.length : Int)
          ·rw [if_pos c26] at H
           have c26b0 : decide ((ji24) < (l0.length : Int)) = true := decide_eq_true c26
           clear c26
           replace H := Option.bind_eq_some_iff.mp H
           obtain ⟨⟨t457, t458, t459⟩, A270, H⟩ := H
           replace H : ((impl_Vec_plus.f x454000_2 x454001_2 x454002_2 t457 t458 t459).bind fun bt460 => (impl_ChainCost.l0 k2 l0 a2 l1 (l1.length : Int) (wrap64 (x27_2 + 1)) bt460.1 bt460.2.1 bt460.2.2)) = some (r1, r2, r3) := H
           have A27 := Gv.a0 A270
           clear A270
           replace H := Option.bind_eq_some_iff.mp H
           obtain ⟨⟨t460, t461, t462⟩, A280, H⟩ := H
           replace H : (impl_ChainCost.l0 k2 l0 a2 l1 (l1.length : Int) (wrap64 (x27_2 + 1)) t460 t461 t462) = some (r1, r2, r3) := H
           have A28 := Gv.a0 A280
           clear A280
           have H' := Gv.a0 H
           clear H
           have p454 : 0 ≤ (x27_2 : Int) := of_decide_eq_true (by first | (with_reducible assumption) | assumption)
           have q454 : x27_2 < (l1.length : Int) := of_decide_eq_true (by first | (with_reducible assumption) | assumption)
           obtain ⟨ad454, e454, hx454_0, hx454_1, hx454_2, hx454_3, hx454_4, hx454_5, hx454_6, hx454_7, hx454_8, hx454_9, hx454_10, hx454_11, hx454_12, hx454_13, hx454_14, hx454_15, hx454_16⟩ := at_T38 HR1.out x27_2 p454 q454
           cases e454
           replace hx454_0 := Gv.bx HB.out hx454_0
           replace hx454_1 := Gv.bx HB.out hx454_1
           replace hx454_2 := Gv.bx HB.out hx454_2
           replace hx454_3 := Gv.bx HB.out hx454_3
           replace hx454_4 := Gv.bx HB.out hx454_4
           replace hx454_5 := Gv.bx HB.out hx454_5
           replace hx454_6 := Gv.bx HB.out hx454_6
           replace hx454_7 := Gv.bx HB.out hx454_7
           replace hx454_8 := Gv.bx HB.out hx454_8
           replace hx454_9 := Gv.bx HB.out hx454_9
           replace hx454_10 := Gv.bx HB.out hx454_10
           replace hx454_11 := Gv.bx HB.out hx454_11
           replace hx454_12 := Gv.bx HB.out hx454_12
           replace hx454_13 := Gv.bx HB.out hx454_13
           replace hx454_14 := Gv.bx HB.out hx454_14
           replace hx454_15 := Gv.bx HB.out hx454_15
           replace hx454_16 := Gv.bx HB.out hx454_16
           replace p454 := eq_true p454
           replace q454 := eq_true q454
           try go_wp2_with (first | ((with_reducible refine gate_dst (N := 9) rfl ?_); refine box_event ?hg (N := 9) ?hd (cs := #[.int .i64 0, .int .i64 0, .int .i64 0, .int .i64 0, .int .i64 0, .int .i64 0, .int .i64 0, .int .i64 0, .int .i64 0, .int .i64 0, .int .i64 0, .int .i64 0, .int .i64 0, .int .i64 0, .int .i64 0, .int .i64 0, .int .i64 0]) (t := 38) ?hr ?_; (case hd => rfl); (case hg => rfl); (case hr => first | (go_simp; done) | (go_simp; rfl)); intro gb455 hg w29 hbox hb; have n0_ := Gv.a0 (Gv.bb BK449.out hb); have n1_ := Gv.a0 (Gv.bb BK453.out hb); have n2_ := Gv.a0 (below_step Gv.bw hb); have n3_ := Gv.a0 (hbox); have n4_ := Gv.a0 ((Gv.ble hg Gv.bw : w.heap.size ≤ gb455)); have n5_ := Gv.a0 ((Gv.ble hg Gv.bw : w.heap.size ≤ gb455)); have n6_ := Gv.a0 ((Gv.nlt hg (Gv.kb BK449.out) : gb449 ≠ gb455)); have n7_ := Gv.a0 ((Gv.ngt hg (Gv.kb BK449.out) : gb455 ≠ gb449)); have n8_ := Gv.a0 ((Gv.nlt hg (Gv.kb BK453.out) : gb453 ≠ gb455)); have n9_ := Gv.a0 ((Gv.ngt hg (Gv.kb BK453.out) : gb455 ≠ gb453)); clear BK449; clear BK453; clear HB; have BK449 := n0_; have BK453 := n1_; have HB := n2_; have BK455 := n3_; have GW455 := n4_; have GE455 := n5_; have NB449_455 := n6_; have NB455_449 := n7_; have NB453_455 := n8_; have NB455_453 := n9_; clear n0_ n1_ n2_ n3_ n4_ n5_ n6_ n7_ n8_ n9_; clear hb hbox hg; have hnb30 := NB455_449.out; have hnc30 := NB449_455.out; have hnb31 := NB455_453.out; have hnc31 := NB453_455.out; obtain ⟨hcz32_0, hcz32_1, hcz32_2, hcz32_3, hcz32_4, hcz32_5, hcz32_6, hcz32_7, hcz32_8, hcz32_9, hcz32_10, hcz32_11, hcz32_12, hcz32_13, hcz32_14, hcz32_15, hcz32_16⟩ := Gv.c17 BK455.out; obtain ⟨hfz32_0, hfz32_1, hfz32_2, hfz32_3, hfz32_4, hfz32_5, hfz32_6, hfz32_7, hfz32_8, hfz32_9, hfz32_10, hfz32_11, hfz32_12, hfz32_13, hfz32_14, hfz32_15, hfz32_16⟩ := Gv.f17 BK455.out))
           have n0_ : Aside0 ((((((((((((((((((w29.setCell ⟨gb455, 0, none⟩ (.int .i64 ((rd_T38 l1 x27_2).f0))).setCell ⟨gb455, 1, none⟩ (.int .i64 ((rd_T38 l1 x27_2).f1.f0.f0))).setCell ⟨gb455, 2, none⟩ (.int .i64 ((rd_T38 l1 x27_2).f1.f0.f1))).setCell ⟨gb455, 3, none⟩ (.int .i64 ((rd_T38 l1 x27_2).f1.f0.f2))).setCell ⟨gb455, 4, none⟩ (.int .i64 ((rd_T38 l1 x27_2).f1.f0.f3))).setCell ⟨gb455, 5, none⟩ (.int .i64 ((rd_T38 l1 x27_2).f1.f0.f4))).setCell ⟨gb455, 6, none⟩ (.int .i64 ((rd_T38 l1 x27_2).f1.f1))).setCell ⟨gb455, 7, none⟩ (.int .i64 ((rd_T38 l1 x27_2).f2.f0.f0))).setCell ⟨gb455, 8, none⟩ (.int .i64 ((rd_T38 l1 x27_2).f2.f0.f1))).setCell ⟨gb455, 9, none⟩ (.int .i64 ((rd_T38 l1 x27_2).f2.f0.f2))).setCell ⟨gb455, 10, none⟩ (.int .i64 ((rd_T38 l1 x27_2).f2.f0.f3))).setCell ⟨gb455, 11, none⟩ (.int .i64 ((rd_T38 l1 x27_2).f2.f0.f4))).setCell ⟨gb455, 12, none⟩ (.int .i64 ((rd_T38 l1 x27_2).f2.f1))).setCell ⟨gb455, 13, none⟩ (.int .i64 ((rd_T38 l1 x27_2).f3))).setCell ⟨gb455, 14, none⟩ (.int .i64 ((rd_T38 l1 x27_2).f4))).setCell ⟨gb455, 15, none⟩ (.int .i64 ((rd_T38 l1 x27_2).f5))).setCell ⟨gb455, 16, none⟩ (.int .i64 ((rd_T38 l1 x27_2).f6))).heap[gb449]? = some (.cells #[.int .i64 0, .int .i64 0, .int .i64 0] 51 (0, 0))) := ⟨by (with_reducible repeat (first | refine blk_drewN ?_ _ | refine blk_drew ?_ | refine blk_alloc ?_ _)); refine blk_far ?_ NB449_455.out _; (with_reducible repeat (first | refine blk_drewN ?_ _ | refine blk_drew ?_ | refine blk_alloc ?_ _)); refine blk_far ?_ NB449_455.out _; (with_reducible repeat (first | refine blk_drewN ?_ _ | refine blk_drew ?_ | refine blk_alloc ?_ _)); refine blk_far ?_ NB449_455.out _; (with_reducible repeat (first | refine blk_drewN ?_ _ | refine blk_drew ?_ | refine blk_alloc ?_ _)); refine blk_far ?_ NB449_455.out _; (with_reducible repeat (first | refine blk_drewN ?_ _ | refine blk_drew ?_ | refine blk_alloc ?_ _)); refine blk_far ?_ NB449_455.out _; (with_reducible repeat (first | refine blk_drewN ?_ _ | refine blk_drew ?_ | refine blk_alloc ?_ _)); refine blk_far ?_ NB449_455.out _; (with_reducible repeat (first | refine blk_drewN ?_ _ | refine blk_drew ?_ | refine blk_alloc ?_ _)); refine blk_far ?_ NB449_455.out _; (with_reducible repeat (first | refine blk_drewN ?_ _ | refine blk_drew ?_ | refine blk_alloc ?_ _)); refine blk_far ?_ NB449_455.out _; (with_reducible repeat (first | refine blk_drewN ?_ _ | refine blk_drew ?_ | refine blk_alloc ?_ _)); refine blk_far ?_ NB449_455.out _; (with_reducible repeat (first | refine blk_drewN ?_ _ | refine blk_drew ?_ | refine blk_alloc ?_ _)); refine blk_far ?_ NB449_455.out _; (with_reducible repeat (first | refine blk_drewN ?_ _ | refine blk_drew ?_ | refine blk_alloc ?_ _)); refine blk_far ?_ NB449_455.out _; (with_reducible repeat (first | refine blk_drewN ?_ _ | refine blk_drew ?_ | refine blk_alloc ?_ _)); refine blk_far ?_ NB449_455.out _; (with_reducible repeat (first | refine blk_drewN ?_ _ | refine blk_drew ?_ | refine blk_alloc ?_ _)); refine blk_far ?_ NB449_455.out _; (with_reducible repeat (first | refine blk_drewN ?_ _ | refine blk_drew ?_ | refine blk_alloc ?_ _)); refine blk_far ?_ NB449_455.out _; (with_reducible repeat (first | refine blk_drewN ?_ _ | refine blk_drew ?_ | refine blk_alloc ?_ _)); refine blk_far ?_ NB449_455.out _; (with_reducible repeat (first | refine blk_drewN ?_ _ | refine blk_drew ?_ | refine blk_alloc ?_ _)); refine blk_far ?_ NB449_455.out _; (with_reducible repeat (first | refine blk_drewN ?_ _ | refine blk_drew ?_ | refine blk_alloc ?_ _)); refine blk_far ?_ NB449_455.out _; (with_reducible repeat (first | refine blk_drewN ?_ _ | refine blk_drew ?_ | refine blk_alloc ?_ _)); exact BK449.out⟩
           have n1_ : Aside0 ((((((((((((((((((w29.setCell ⟨gb455, 0, none⟩ (.int .i64 ((rd_T38 l1 x27_2).f0))).setCell ⟨gb455, 1, none⟩ (.int .i64 ((rd_T38 l1 x27_2).f1.f0.f0))).setCell ⟨gb455, 2, none⟩ (.int .i64 ((rd_T38 l1 x27_2).f1.f0.f1))).setCell ⟨gb455, 3, none⟩ (.int .i64 ((rd_T38 l1 x27_2).f1.f0.f2))).setCell ⟨gb455, 4, none⟩ (.int .i64 ((rd_T38 l1 x27_2).f1.f0.f3))).setCell ⟨gb455, 5, none⟩ (.int .i64 ((rd_T38 l1 x27_2).f1.f0.f4))).setCell ⟨gb455, 6, none⟩ (.int .i64 ((rd_T38 l1 x27_2).f1.f1))).setCell ⟨gb455, 7, none⟩ (.int .i64 ((rd_T38 l1 x27_2).f2.f0.f0))).setCell ⟨gb455, 8, none⟩ (.int .i64 ((rd_T38 l1 x27_2).f2.f0.f1))).setCell ⟨gb455, 9, none⟩ (.int .i64 ((rd_T38 l1 x27_2).f2.f0.f2))).setCell ⟨gb455, 10, none⟩ (.int .i64 ((rd_T38 l1 x27_2).f2.f0.f3))).setCell ⟨gb455, 11, none⟩ (.int .i64 ((rd_T38 l1 x27_2).f2.f0.f4))).setCell ⟨gb455, 12, none⟩ (.int .i64 ((rd_T38 l1 x27_2).f2.f1))).setCell ⟨gb455, 13, none⟩ (.int .i64 ((rd_T38 l1 x27_2).f3))).setCell ⟨gb455, 14, none⟩ (.int .i64 ((rd_T38 l1 x27_2).f4))).setCell ⟨gb455, 15, none⟩ (.int .i64 ((rd_T38 l1 x27_2).f5))).setCell ⟨gb455, 16, none⟩ (.int .i64 ((rd_T38 l1 x27_2).f6))).heap[gb453]? = some (.cells #[.int .i64 x454000_2, .int .i64 x454001_2, .int .i64 x454002_2] 51 (0, 0))) := ⟨by (with_reducible repeat (first | refine blk_drewN ?_ _ | refine blk_drew ?_ | refine blk_alloc ?_ _)); refine blk_far ?_ NB453_455.out _; (with_reducible repeat (first | refine blk_drewN ?_ _ | refine blk_drew ?_ | refine blk_alloc ?_ _)); refine blk_far ?_ NB453_455.out _; (with_reducible repeat (first | refine blk_drewN ?_ _ | refine blk_drew ?_ | refine blk_alloc ?_ _)); refine blk_far ?_ NB453_455.out _; (with_reducible repeat (first | refine blk_drewN ?_ _ | refine blk_drew ?_ | refine blk_alloc ?_ _)); refine blk_far ?_ NB453_455.out _; (with_reducible repeat (first | refine blk_drewN ?_ _ | refine blk_drew ?_ | refine blk_alloc ?_ _)); refine blk_far ?_ NB453_455.out _; (with_reducible repeat (first | refine blk_drewN ?_ _ | refine blk_drew ?_ | refine blk_alloc ?_ _)); refine blk_far ?_ NB453_455.out _; (with_reducible repeat (first | refine blk_drewN ?_ _ | refine blk_drew ?_ | refine blk_alloc ?_ _)); refine blk_far ?_ NB453_455.out _; (with_reducible repeat (first | refine blk_drewN ?_ _ | refine blk_drew ?_ | refine blk_alloc ?_ _)); refine blk_far ?_ NB453_455.out _; (with_reducible repeat (first | refine blk_drewN ?_ _ | refine blk_drew ?_ | refine blk_alloc ?_ _)); refine blk_far ?_ NB453_455.out _; (with_reducible repeat (first | refine blk_drewN ?_ _ | refine blk_drew ?_ | refine blk_alloc ?_ _)); refine blk_far ?_ NB453_455.out _; (with_reducible repeat (first | refine blk_drewN ?_ _ | refine blk_drew ?_ | refine blk_alloc ?_ _)); refine blk_far ?_ NB453_455.out _; (with_reducible repeat (first | refine blk_drewN ?_ _ | refine blk_drew ?_ | refine blk_alloc ?_ _)); refine blk_far ?_ NB453_455.out _; (with_reducible repeat (first | refine blk_drewN ?_ _ | refine blk_drew ?_ | refine blk_alloc ?_ _)); refine blk_far ?_ NB453_455.out _; (with_reducible repeat (first | refine blk_drewN ?_ _ | refine blk_drew ?_ | refine blk_alloc ?_ _)); refine blk_far ?_ NB453_455.out _; (with_reducible repeat (first | refine blk_drewN ?_ _ | refine blk_drew ?_ | refine blk_alloc ?_ _)); refine blk_far ?_ NB453_455.out _; (with_reducible repeat (first | refine blk_drewN ?_ _ | refine blk_drew ?_ | refine blk_alloc ?_ _)); refine blk_far ?_ NB453_455.out _; (with_reducible repeat (first | refine blk_drewN ?_ _ | refine blk_drew ?_ | refine blk_alloc ?_ _)); refine blk_far ?_ NB453_455.out _; (with_reducible repeat (first | refine blk_drewN ?_ _ | refine blk_drew ?_ | refine blk_alloc ?_ _)); exact BK453.out⟩
           have n2_ : Aside0 ((((((((((((((((((w29.setCell ⟨gb455, 0, none⟩ (.int .i64 ((rd_T38 l1 x27_2).f0))).setCell ⟨gb455, 1, none⟩ (.int .i64 ((rd_T38 l1 x27_2).f1.f0.f0))).setCell ⟨gb455, 2, none⟩ (.int .i64 ((rd_T38 l1 x27_2).f1.f0.f1))).setCell ⟨gb455, 3, none⟩ (.int .i64 ((rd_T38 l1 x27_2).f1.f0.f2))).setCell ⟨gb455, 4, none⟩ (.int .i64 ((rd_T38 l1 x27_2).f1.f0.f3))).setCell ⟨gb455, 5, none⟩ (.int .i64 ((rd_T38 l1 x27_2).f1.f0.f4))).setCell ⟨gb455, 6, none⟩ (.int .i64 ((rd_T38 l1 x27_2).f1.f1))).setCell ⟨gb455, 7, none⟩ (.int .i64 ((rd_T38 l1 x27_2).f2.f0.f0))).setCell ⟨gb455, 8, none⟩ (.int .i64 ((rd_T38 l1 x27_2).f2.f0.f1))).setCell ⟨gb455, 9, none⟩ (.int .i64 ((rd_T38 l1 x27_2).f2.f0.f2))).setCell ⟨gb455, 10, none⟩ (.int .i64 ((rd_T38 l1 x27_2).f2.f0.f3))).setCell ⟨gb455, 11, none⟩ (.int .i64 ((rd_T38 l1 x27_2).f2.f0.f4))).setCell ⟨gb455, 12, none⟩ (.int .i64 ((rd_T38 l1 x27_2).f2.f1))).setCell ⟨gb455, 13, none⟩ (.int .i64 ((rd_T38 l1 x27_2).f3))).setCell ⟨gb455, 14, none⟩ (.int .i64 ((rd_T38 l1 x27_2).f4))).setCell ⟨gb455, 15, none⟩ (.int .i64 ((rd_T38 l1 x27_2).f5))).setCell ⟨gb455, 16, none⟩ (.int .i64 ((rd_T38 l1 x27_2).f6))).heap[gb455]? = some (.cells #[.int .i64 ((rd_T38 l1 x27_2).f0), .int .i64 ((rd_T38 l1 x27_2).f1.f0.f0), .int .i64 ((rd_T38 l1 x27_2).f1.f0.f1), .int .i64 ((rd_T38 l1 x27_2).f1.f0.f2), .int .i64 ((rd_T38 l1 x27_2).f1.f0.f3), .int .i64 ((rd_T38 l1 x27_2).f1.f0.f4), .int .i64 ((rd_T38 l1 x27_2).f1.f1), .int .i64 ((rd_T38 l1 x27_2).f2.f0.f0), .int .i64 ((rd_T38 l1 x27_2).f2.f0.f1), .int .i64 ((rd_T38 l1 x27_2).f2.f0.f2), .int .i64 ((rd_T38 l1 x27_2).f2.f0.f3), .int .i64 ((rd_T38 l1 x27_2).f2.f0.f4), .int .i64 ((rd_T38 l1 x27_2).f2.f1), .int .i64 ((rd_T38 l1 x27_2).f3), .int .i64 ((rd_T38 l1 x27_2).f4), .int .i64 ((rd_T38 l1 x27_2).f5), .int .i64 ((rd_T38 l1 x27_2).f6)] 38 (0, 0))) := ⟨by (with_reducible repeat (first | refine blk_drewN ?_ _ | refine blk_drew ?_ | refine blk_alloc ?_ _)); refine blk_put (cs := #[.int .i64 ((rd_T38 l1 x27_2).f0), .int .i64 ((rd_T38 l1 x27_2).f1.f0.f0), .int .i64 ((rd_T38 l1 x27_2).f1.f0.f1), .int .i64 ((rd_T38 l1 x27_2).f1.f0.f2), .int .i64 ((rd_T38 l1 x27_2).f1.f0.f3), .int .i64 ((rd_T38 l1 x27_2).f1.f0.f4), .int .i64 ((rd_T38 l1 x27_2).f1.f1), .int .i64 ((rd_T38 l1 x27_2).f2.f0.f0), .int .i64 ((rd_T38 l1 x27_2).f2.f0.f1), .int .i64 ((rd_T38 l1 x27_2).f2.f0.f2), .int .i64 ((rd_T38 l1 x27_2).f2.f0.f3), .int .i64 ((rd_T38 l1 x27_2).f2.f0.f4), .int .i64 ((rd_T38 l1 x27_2).f2.f1), .int .i64 ((rd_T38 l1 x27_2).f3), .int .i64 ((rd_T38 l1 x27_2).f4), .int .i64 ((rd_T38 l1 x27_2).f5), .int .i64 0]) ?_ 16 _ rfl; (with_reducible repeat (first | refine blk_drewN ?_ _ | refine blk_drew ?_ | refine blk_alloc ?_ _)); refine blk_put (cs := #[.int .i64 ((rd_T38 l1 x27_2).f0), .int .i64 ((rd_T38 l1 x27_2).f1.f0.f0), .int .i64 ((rd_T38 l1 x27_2).f1.f0.f1), .int .i64 ((rd_T38 l1 x27_2).f1.f0.f2), .int .i64 ((rd_T38 l1 x27_2).f1.f0.f3), .int .i64 ((rd_T38 l1 x27_2).f1.f0.f4), .int .i64 ((rd_T38 l1 x27_2).f1.f1), .int .i64 ((rd_T38 l1 x27_2).f2.f0.f0), .int .i64 ((rd_T38 l1 x27_2).f2.f0.f1), .int .i64 ((rd_T38 l1 x27_2).f2.f0.f2), .int .i64 ((rd_T38 l1 x27_2).f2.f0.f3), .int .i64 ((rd_T38 l1 x27_2).f2.f0.f4), .int .i64 ((rd_T38 l1 x27_2).f2.f1), .int .i64 ((rd_T38 l1 x27_2).f3), .int .i64 ((rd_T38 l1 x27_2).f4), .int .i64 0, .int .i64 0]) ?_ 15 _ rfl; (with_reducible repeat (first | refine blk_drewN ?_ _ | refine blk_drew ?_ | refine blk_alloc ?_ _)); refine blk_put (cs := #[.int .i64 ((rd_T38 l1 x27_2).f0), .int .i64 ((rd_T38 l1 x27_2).f1.f0.f0), .int .i64 ((rd_T38 l1 x27_2).f1.f0.f1), .int .i64 ((rd_T38 l1 x27_2).f1.f0.f2), .int .i64 ((rd_T38 l1 x27_2).f1.f0.f3), .int .i64 ((rd_T38 l1 x27_2).f1.f0.f4), .int .i64 ((rd_T38 l1 x27_2).f1.f1), .int .i64 ((rd_T38 l1 x27_2).f2.f0.f0), .int .i64 ((rd_T38 l1 x27_2).f2.f0.f1), .int .i64 ((rd_T38 l1 x27_2).f2.f0.f2), .int .i64 ((rd_T38 l1 x27_2).f2.f0.f3), .int .i64 ((rd_T38 l1 x27_2).f2.f0.f4), .int .i64 ((rd_T38 l1 x27_2).f2.f1), .int .i64 ((rd_T38 l1 x27_2).f3), .int .i64 0, .int .i64 0, .int .i64 0]) ?_ 14 _ rfl; (with_reducible repeat (first | refine blk_drewN ?_ _ | refine blk_drew ?_ | refine blk_alloc ?_ _)); refine blk_put (cs := #[.int .i64 ((rd_T38 l1 x27_2).f0), .int .i64 ((rd_T38 l1 x27_2).f1.f0.f0), .int .i64 ((rd_T38 l1 x27_2).f1.f0.f1), .int .i64 ((rd_T38 l1 x27_2).f1.f0.f2), .int .i64 ((rd_T38 l1 x27_2).f1.f0.f3), .int .i64 ((rd_T38 l1 x27_2).f1.f0.f4), .int .i64 ((rd_T38 l1 x27_2).f1.f1), .int .i64 ((rd_T38 l1 x27_2).f2.f0.f0), .int .i64 ((rd_T38 l1 x27_2).f2.f0.f1), .int .i64 ((rd_T38 l1 x27_2).f2.f0.f2), .int .i64 ((rd_T38 l1 x27_2).f2.f0.f3), .int .i64 ((rd_T38 l1 x27_2).f2.f0.f4), .int .i64 ((rd_T38 l1 x27_2).f2.f1), .int .i64 0, .int .i64 0, .int .i64 0, .int .i64 0]) ?_ 13 _ rfl; (with_reducible repeat (first | refine blk_drewN ?_ _ | refine blk_drew ?_ | refine blk_alloc ?_ _)); refine blk_put (cs := #[.int .i64 ((rd_T38 l1 x27_2).f0), .int .i64 ((rd_T38 l1 x27_2).f1.f0.f0), .int .i64 ((rd_T38 l1 x27_2).f1.f0.f1), .int .i64 ((rd_T38 l1 x27_2).f1.f0.f2), .int .i64 ((rd_T38 l1 x27_2).f1.f0.f3), .int .i64 ((rd_T38 l1 x27_2).f1.f0.f4), .int .i64 ((rd_T38 l1 x27_2).f1.f1), .int .i64 ((rd_T38 l1 x27_2).f2.f0.f0), .int .i64 ((rd_T38 l1 x27_2).f2.f0.f1), .int .i64 ((rd_T38 l1 x27_2).f2.f0.f2), .int .i64 ((rd_T38 l1 x27_2).f2.f0.f3), .int .i64 ((rd_T38 l1 x27_2).f2.f0.f4), .int .i64 0, .int .i64 0, .int .i64 0, .int .i64 0, .int .i64 0]) ?_ 12 _ rfl; (with_reducible repeat (first | refine blk_drewN ?_ _ | refine blk_drew ?_ | refine blk_alloc ?_ _)); refine blk_put (cs := #[.int .i64 ((rd_T38 l1 x27_2).f0), .int .i64 ((rd_T38 l1 x27_2).f1.f0.f0), .int .i64 ((rd_T38 l1 x27_2).f1.f0.f1), .int .i64 ((rd_T38 l1 x27_2).f1.f0.f2), .int .i64 ((rd_T38 l1 x27_2).f1.f0.f3), .int .i64 ((rd_T38 l1 x27_2).f1.f0.f4), .int .i64 ((rd_T38 l1 x27_2).f1.f1), .int .i64 ((rd_T38 l1 x27_2).f2.f0.f0), .int .i64 ((rd_T38 l1 x27_2).f2.f0.f1), .int .i64 ((rd_T38 l1 x27_2).f2.f0.f2), .int .i64 ((rd_T38 l1 x27_2).f2.f0.f3), .int .i64 0, .int .i64 0, .int .i64 0, .int .i64 0, .int .i64 0, .int .i64 0]) ?_ 11 _ rfl; (with_reducible repeat (first | refine blk_drewN ?_ _ | refine blk_drew ?_ | refine blk_alloc ?_ _)); refine blk_put (cs := #[.int .i64 ((rd_T38 l1 x27_2).f0), .int .i64 ((rd_T38 l1 x27_2).f1.f0.f0), .int .i64 ((rd_T38 l1 x27_2).f1.f0.f1), .int .i64 ((rd_T38 l1 x27_2).f1.f0.f2), .int .i64 ((rd_T38 l1 x27_2).f1.f0.f3), .int .i64 ((rd_T38 l1 x27_2).f1.f0.f4), .int .i64 ((rd_T38 l1 x27_2).f1.f1), .int .i64 ((rd_T38 l1 x27_2).f2.f0.f0), .int .i64 ((rd_T38 l1 x27_2).f2.f0.f1), .int .i64 ((rd_T38 l1 x27_2).f2.f0.f2), .int .i64 0, .int .i64 0, .int .i64 0, .int .i64 0, .int .i64 0, .int .i64 0, .int .i64 0]) ?_ 10 _ rfl; (with_reducible repeat (first | refine blk_drewN ?_ _ | refine blk_drew ?_ | refine blk_alloc ?_ _)); refine blk_put (cs := #[.int .i64 ((rd_T38 l1 x27_2).f0), .int .i64 ((rd_T38 l1 x27_2).f1.f0.f0), .int .i64 ((rd_T38 l1 x27_2).f1.f0.f1), .int .i64 ((rd_T38 l1 x27_2).f1.f0.f2), .int .i64 ((rd_T38 l1 x27_2).f1.f0.f3), .int .i64 ((rd_T38 l1 x27_2).f1.f0.f4), .int .i64 ((rd_T38 l1 x27_2).f1.f1), .int .i64 ((rd_T38 l1 x27_2).f2.f0.f0), .int .i64 ((rd_T38 l1 x27_2).f2.f0.f1), .int .i64 0, .int .i64 0, .int .i64 0, .int .i64 0, .int .i64 0, .int .i64 0, .int .i64 0, .int .i64 0]) ?_ 9 _ rfl; (with_reducible repeat (first | refine blk_drewN ?_ _ | refine blk_drew ?_ | refine blk_alloc ?_ _)); refine blk_put (cs := #[.int .i64 ((rd_T38 l1 x27_2).f0), .int .i64 ((rd_T38 l1 x27_2).f1.f0.f0), .int .i64 ((rd_T38 l1 x27_2).f1.f0.f1), .int .i64 ((rd_T38 l1 x27_2).f1.f0.f2), .int .i64 ((rd_T38 l1 x27_2).f1.f0.f3), .int .i64 ((rd_T38 l1 x27_2).f1.f0.f4), .int .i64 ((rd_T38 l1 x27_2).f1.f1), .int .i64 ((rd_T38 l1 x27_2).f2.f0.f0), .int .i64 0, .int .i64 0, .int .i64 0, .int .i64 0, .int .i64 0, .int .i64 0, .int .i64 0, .int .i64 0, .int .i64 0]) ?_ 8 _ rfl; (with_reducible repeat (first | refine blk_drewN ?_ _ | refine blk_drew ?_ | refine blk_alloc ?_ _)); refine blk_put (cs := #[.int .i64 ((rd_T38 l1 x27_2).f0), .int .i64 ((rd_T38 l1 x27_2).f1.f0.f0), .int .i64 ((rd_T38 l1 x27_2).f1.f0.f1), .int .i64 ((rd_T38 l1 x27_2).f1.f0.f2), .int .i64 ((rd_T38 l1 x27_2).f1.f0.f3), .int .i64 ((rd_T38 l1 x27_2).f1.f0.f4), .int .i64 ((rd_T38 l1 x27_2).f1.f1), .int .i64 0, .int .i64 0, .int .i64 0, .int .i64 0, .int .i64 0, .int .i64 0, .int .i64 0, .int .i64 0, .int .i64 0, .int .i64 0]) ?_ 7 _ rfl; (with_reducible repeat (first | refine blk_drewN ?_ _ | refine blk_drew ?_ | refine blk_alloc ?_ _)); refine blk_put (cs := #[.int .i64 ((rd_T38 l1 x27_2).f0), .int .i64 ((rd_T38 l1 x27_2).f1.f0.f0), .int .i64 ((rd_T38 l1 x27_2).f1.f0.f1), .int .i64 ((rd_T38 l1 x27_2).f1.f0.f2), .int .i64 ((rd_T38 l1 x27_2).f1.f0.f3), .int .i64 ((rd_T38 l1 x27_2).f1.f0.f4), .int .i64 0, .int .i64 0, .int .i64 0, .int .i64 0, .int .i64 0, .int .i64 0, .int .i64 0, .int .i64 0, .int .i64 0, .int .i64 0, .int .i64 0]) ?_ 6 _ rfl; (with_reducible repeat (first | refine blk_drewN ?_ _ | refine blk_drew ?_ | refine blk_alloc ?_ _)); refine blk_put (cs := #[.int .i64 ((rd_T38 l1 x27_2).f0), .int .i64 ((rd_T38 l1 x27_2).f1.f0.f0), .int .i64 ((rd_T38 l1 x27_2).f1.f0.f1), .int .i64 ((rd_T38 l1 x27_2).f1.f0.f2), .int .i64 ((rd_T38 l1 x27_2).f1.f0.f3), .int .i64 0, .int .i64 0, .int .i64 0, .int .i64 0, .int .i64 0, .int .i64 0, .int .i64 0, .int .i64 0, .int .i64 0, .int .i64 0, .int .i64 0, .int .i64 0]) ?_ 5 _ rfl; (with_reducible repeat (first | refine blk_drewN ?_ _ | refine blk_drew ?_ | refine blk_alloc ?_ _)); refine blk_put (cs := #[.int .i64 ((rd_T38 l1 x27_2).f0), .int .i64 ((rd_T38 l1 x27_2).f1.f0.f0), .int .i64 ((rd_T38 l1 x27_2).f1.f0.f1), .int .i64 ((rd_T38 l1 x27_2).f1.f0.f2), .int .i64 0, .int .i64 0, .int .i64 0, .int .i64 0, .int .i64 0, .int .i64 0, .int .i64 0, .int .i64 0, .int .i64 0, .int .i64 0, .int .i64 0, .int .i64 0, .int .i64 0]) ?_ 4 _ rfl; (with_reducible repeat (first | refine blk_drewN ?_ _ | refine blk_drew ?_ | refine blk_alloc ?_ _)); refine blk_put (cs := #[.int .i64 ((rd_T38 l1 x27_2).f0), .int .i64 ((rd_T38 l1 x27_2).f1.f0.f0), .int .i64 ((rd_T38 l1 x27_2).f1.f0.f1), .int .i64 0, .int .i64 0, .int .i64 0, .int .i64 0, .int .i64 0, .int .i64 0, .int .i64 0, .int .i64 0, .int .i64 0, .int .i64 0, .int .i64 0, .int .i64 0, .int .i64 0, .int .i64 0]) ?_ 3 _ rfl; (with_reducible repeat (first | refine blk_drewN ?_ _ | refine blk_drew ?_ | refine blk_alloc ?_ _)); refine blk_put (cs := #[.int .i64 ((rd_T38 l1 x27_2).f0), .int .i64 ((rd_T38 l1 x27_2).f1.f0.f0), .int .i64 0, .int .i64 0, .int .i64 0, .int .i64 0, .int .i64 0, .int .i64 0, .int .i64 0, .int .i64 0, .int .i64 0, .int .i64 0, .int .i64 0, .int .i64 0, .int .i64 0, .int .i64 0, .int .i64 0]) ?_ 2 _ rfl; (with_reducible repeat (first | refine blk_drewN ?_ _ | refine blk_drew ?_ | refine blk_alloc ?_ _)); refine blk_put (cs := #[.int .i64 ((rd_T38 l1 x27_2).f0), .int .i64 0, .int .i64 0, .int .i64 0, .int .i64 0, .int .i64 0, .int .i64 0, .int .i64 0, .int .i64 0, .int .i64 0, .int .i64 0, .int .i64 0, .int .i64 0, .int .i64 0, .int .i64 0, .int .i64 0, .int .i64 0]) ?_ 1 _ rfl; (with_reducible repeat (first | refine blk_drewN ?_ _ | refine blk_drew ?_ | refine blk_alloc ?_ _)); refine blk_put (cs := #[.int .i64 0, .int .i64 0, .int .i64 0, .int .i64 0, .int .i64 0, .int .i64 0, .int .i64 0, .int .i64 0, .int .i64 0, .int .i64 0, .int .i64 0, .int .i64 0, .int .i64 0, .int .i64 0, .int .i64 0, .int .i64 0, .int .i64 0]) ?_ 0 _ rfl; (with_reducible repeat (first | refine blk_drewN ?_ _ | refine blk_drew ?_ | refine blk_alloc ?_ _)); exact BK455.out⟩
           have n3_ : Aside0 (Below w.heap.size w (((((((((((((((((w29.setCell ⟨gb455, 0, none⟩ (.int .i64 ((rd_T38 l1 x27_2).f0))).setCell ⟨gb455, 1, none⟩ (.int .i64 ((rd_T38 l1 x27_2).f1.f0.f0))).setCell ⟨gb455, 2, none⟩ (.int .i64 ((rd_T38 l1 x27_2).f1.f0.f1))).setCell ⟨gb455, 3, none⟩ (.int .i64 ((rd_T38 l1 x27_2).f1.f0.f2))).setCell ⟨gb455, 4, none⟩ (.int .i64 ((rd_T38 l1 x27_2).f1.f0.f3))).setCell ⟨gb455, 5, none⟩ (.int .i64 ((rd_T38 l1 x27_2).f1.f0.f4))).setCell ⟨gb455, 6, none⟩ (.int .i64 ((rd_T38 l1 x27_2).f1.f1))).setCell ⟨gb455, 7, none⟩ (.int .i64 ((rd_T38 l1 x27_2).f2.f0.f0))).setCell ⟨gb455, 8, none⟩ (.int .i64 ((rd_T38 l1 x27_2).f2.f0.f1))).setCell ⟨gb455, 9, none⟩ (.int .i64 ((rd_T38 l1 x27_2).f2.f0.f2))).setCell ⟨gb455, 10, none⟩ (.int .i64 ((rd_T38 l1 x27_2).f2.f0.f3))).setCell ⟨gb455, 11, none⟩ (.int .i64 ((rd_T38 l1 x27_2).f2.f0.f4))).setCell ⟨gb455, 12, none⟩ (.int .i64 ((rd_T38 l1 x27_2).f2.f1))).setCell ⟨gb455, 13, none⟩ (.int .i64 ((rd_T38 l1 x27_2).f3))).setCell ⟨gb455, 14, none⟩ (.int .i64 ((rd_T38 l1 x27_2).f4))).setCell ⟨gb455, 15, none⟩ (.int .i64 ((rd_T38 l1 x27_2).f5))).setCell ⟨gb455, 16, none⟩ (.int .i64 ((rd_T38 l1 x27_2).f6)))) := ⟨Gv.bw⟩
           (try clear BK449)
           (try clear BK453)
           (try clear BK455)
           (try clear HB)
           generalize (((((((((((((((((w29.setCell ⟨gb455, 0, none⟩ (.int .i64 ((rd_T38 l1 x27_2).f0))).setCell ⟨gb455, 1, none⟩ (.int .i64 ((rd_T38 l1 x27_2).f1.f0.f0))).setCell ⟨gb455, 2, none⟩ (.int .i64 ((rd_T38 l1 x27_2).f1.f0.f1))).setCell ⟨gb455, 3, none⟩ (.int .i64 ((rd_T38 l1 x27_2).f1.f0.f2))).setCell ⟨gb455, 4, none⟩ (.int .i64 ((rd_T38 l1 x27_2).f1.f0.f3))).setCell ⟨gb455, 5, none⟩ (.int .i64 ((rd_T38 l1 x27_2).f1.f0.f4))).setCell ⟨gb455, 6, none⟩ (.int .i64 ((rd_T38 l1 x27_2).f1.f1))).setCell ⟨gb455, 7, none⟩ (.int .i64 ((rd_T38 l1 x27_2).f2.f0.f0))).setCell ⟨gb455, 8, none⟩ (.int .i64 ((rd_T38 l1 x27_2).f2.f0.f1))).setCell ⟨gb455, 9, none⟩ (.int .i64 ((rd_T38 l1 x27_2).f2.f0.f2))).setCell ⟨gb455, 10, none⟩ (.int .i64 ((rd_T38 l1 x27_2).f2.f0.f3))).setCell ⟨gb455, 11, none⟩ (.int .i64 ((rd_T38 l1 x27_2).f2.f0.f4))).setCell ⟨gb455, 12, none⟩ (.int .i64 ((rd_T38 l1 x27_2).f2.f1))).setCell ⟨gb455, 13, none⟩ (.int .i64 ((rd_T38 l1 x27_2).f3))).setCell ⟨gb455, 14, none⟩ (.int .i64 ((rd_T38 l1 x27_2).f4))).setCell ⟨gb455, 15, none⟩ (.int .i64 ((rd_T38 l1 x27_2).f5))).setCell ⟨gb455, 16, none⟩ (.int .i64 ((rd_T38 l1 x27_2).f6))) = w33 at n0_ n1_ n2_ n3_ ⊢
           have BK449 := n0_
           have BK453 := n1_
           have BK455 := n2_
           have HB := n3_
           clear n0_ n1_ n2_ n3_
           have n0_ := Gv.a0 (blk_drew BK449.out)
           have n1_ := Gv.a0 (blk_drew BK453.out)
           have n2_ := Gv.a0 (blk_drew BK455.out)
           have n3_ := Gv.a0 (below_drew1 HB.out)
           clear BK449
           clear BK453
           clear BK455
           clear HB
           have BK449 := n0_
           have BK453 := n1_
           have BK455 := n2_
           have HB := n3_
           clear n0_ n1_ n2_ n3_
           have p456 : 0 ≤ ((ji24) : Int) := of_decide_eq_true (by first | (with_reducible assumption) | assumption)
           have q456 : (ji24) < (l0.length : Int) := of_decide_eq_true (by first | (with_reducible assumption) | assumption)
           obtain ⟨ad456, e456, hx456_0, hx456_1, hx456_2, hx456_3, hx456_4, hx456_5⟩ := at_T75 HR0.out (ji24) p456 q456
           have hw456_5 := hx456_5
           have hw456_4 := hx456_4
           have hw456_3 := hx456_3
           have hw456_2 := hx456_2
           have hw456_1 := hx456_1
           have hw456_0 := hx456_0
           cases e456
           replace hx456_0 := Gv.bx HB.out hx456_0
           replace hx456_1 := Gv.bx HB.out hx456_1
           replace hx456_2 := Gv.bx HB.out hx456_2
           replace hx456_3 := Gv.bx HB.out hx456_3
           replace hx456_4 := Gv.bx HB.out hx456_4
           replace hx456_5 := Gv.bx HB.out hx456_5
           replace p456 := eq_true p456
           replace q456 := eq_true q456
           refine start_ (n := 11) (S := fun w' => w'.cell? ⟨gb453, 0, none⟩ = some (.int .i64 x454000_2) ∧ w'.cell? ⟨gb453, 1, none⟩ = some (.int .i64 x454001_2) ∧ w'.cell? ⟨gb453, 2, none⟩ = some (.int .i64 x454002_2) ∧ w'.cell? ⟨gb455, 0, none⟩ = some (.int .i64 ((rd_T38 l1 x27_2).f0)) ∧ w'.cell? ⟨gb455, 1, none⟩ = some (.int .i64 ((rd_T38 l1 x27_2).f1.f0.f0)) ∧ w'.cell? ⟨gb455, 2, none⟩ = some (.int .i64 ((rd_T38 l1 x27_2).f1.f0.f1)) ∧ w'.cell? ⟨gb455, 3, none⟩ = some (.int .i64 ((rd_T38 l1 x27_2).f1.f0.f2)) ∧ w'.cell? ⟨gb455, 4, none⟩ = some (.int .i64 ((rd_T38 l1 x27_2).f1.f0.f3)) ∧ w'.cell? ⟨gb455, 5, none⟩ = some (.int .i64 ((rd_T38 l1 x27_2).f1.f0.f4)) ∧ w'.cell? ⟨gb455, 6, none⟩ = some (.int .i64 ((rd_T38 l1 x27_2).f1.f1)) ∧ w'.cell? ⟨gb455, 7, none⟩ = some (.int .i64 ((rd_T38 l1 x27_2).f2.f0.f0)) ∧ w'.cell? ⟨gb455, 8, none⟩ = some (.int .i64 ((rd_T38 l1 x27_2).f2.f0.f1)) ∧ w'.cell? ⟨gb455, 9, none⟩ = some (.int .i64 ((rd_T38 l1 x27_2).f2.f0.f2)) ∧ w'.cell? ⟨gb455, 10, none⟩ = some (.int .i64 ((rd_T38 l1 x27_2).f2.f0.f3)) ∧ w'.cell? ⟨gb455, 11, none⟩ = some (.int .i64 ((rd_T38 l1 x27_2).f2.f0.f4)) ∧ w'.cell? ⟨gb455, 12, none⟩ = some (.int .i64 ((rd_T38 l1 x27_2).f2.f1)) ∧ w'.cell? ⟨gb455, 13, none⟩ = some (.int .i64 ((rd_T38 l1 x27_2).f3)) ∧ w'.cell? ⟨gb455, 14, none⟩ = some (.int .i64 ((rd_T38 l1 x27_2).f4)) ∧ w'.cell? ⟨gb455, 15, none⟩ = some (.int .i64 ((rd_T38 l1 x27_2).f5)) ∧ w'.cell? ⟨gb455, 16, none⟩ = some (.int .i64 ((rd_T38 l1 x27_2).f6)) ∧ w'.cell? (ad456.add (((ji24)).toNat * 6)) = some (.int .i64 ((rd_T75 l0 (ji24)).f0.f0)) ∧ w'.cell? ⟨(ad456.add (((ji24)).toNat * 6)).block, (ad456.add (((ji24)).toNat * 6)).off + 1, none⟩ = some (.int .i64 ((rd_T75 l0 (ji24)).f0.f1)) ∧ w'.cell? ⟨(ad456.add (((ji24)).toNat * 6)).block, (ad456.add (((ji24)).toNat * 6)).off + 2, none⟩ = some (.int .i64 ((rd_T75 l0 (ji24)).f0.f2)) ∧ w'.cell? ⟨(ad456.add (((ji24)).toNat * 6)).block, (ad456.add (((ji24)).toNat * 6)).off + 3, none⟩ = some (.int .i64 ((rd_T75 l0 (ji24)).f1.f0)) ∧ w'.cell? ⟨(ad456.add (((ji24)).toNat * 6)).block, (ad456.add (((ji24)).toNat * 6)).off + 4, none⟩ = some (.int .i64 ((rd_T75 l0 (ji24)).f1.f1)) ∧ w'.cell? ⟨(ad456.add (((ji24)).toNat * 6)).block, (ad456.add (((ji24)).toNat * 6)).off + 5, none⟩ = some (.int .i64 ((rd_T75 l0 (ji24)).f1.f2))) (ds := [10]) #[false, false, false, false, false, false, false, false, false, false, false] (by kernel_rfl) rfl rfl ⟨(blk_cell BK453.out 0).trans rfl, (blk_cell BK453.out 1).trans rfl, (blk_cell BK453.out 2).trans rfl, (blk_cell BK455.out 0).trans rfl, (blk_cell BK455.out 1).trans rfl, (blk_cell BK455.out 2).trans rfl, (blk_cell BK455.out 3).trans rfl, (blk_cell BK455.out 4).trans rfl, (blk_cell BK455.out 5).trans rfl, (blk_cell BK455.out 6).trans rfl, (blk_cell BK455.out 7).trans rfl, (blk_cell BK455.out 8).trans rfl, (blk_cell BK455.out 9).trans rfl, (blk_cell BK455.out 10).trans rfl, (blk_cell BK455.out 11).trans rfl, (blk_cell BK455.out 12).trans rfl, (blk_cell BK455.out 13).trans rfl, (blk_cell BK455.out 14).trans rfl, (blk_cell BK455.out 15).trans rfl, (blk_cell BK455.out 16).trans rfl, (Gv.bx HB.out hw456_0), (Gv.bx HB.out hw456_1), (Gv.bx HB.out hw456_2), (Gv.bx HB.out hw456_3), (Gv.bx HB.out hw456_4), (Gv.bx HB.out hw456_5)⟩ (fun hHeld => ?_); refine with_tabW impl_ChainCost.tab7 impl_ChainCost.bits7 (fun HT_ HW_ => ?_)
           generalize w33.drew = w34 at BK449 BK453 BK455 HB hx456_0 hx456_1 hx456_2 hx456_3 hx456_4 hx456_5 hHeld ⊢
           refine Gv.pu 1 (some 32) HT_ ?_
           refine Gv.pu 2 (some 33) HT_ ?_
           refine Gv.pu 7 (some 38) HT_ ?_
           refine take_ (i := 0) (N := some 31) (v := ?_) (a' := ?_) #[true, true, true, false, false, false, false, true, false, false, false] rfl rfl (take_ofW HT_.out HW_.out (by kernel_rfl)) (fun _ _ _ h => h) (Or.inl ⟨by rfl, ?_⟩) hHeld ?_ ?_
           rotate_left
           ·rintro w' ⟨s0, s1, s2, s3, s4, s5, s6, s7, s8, s9, s10, s11, s12, s13, s14, s15, s16, s17, s18, s19, s20, s21, s22, s23, s24, s25⟩
            first | ((refine Gv.load_run (t := 38) (A := ⟨gb455, 0, none⟩) (cs := [_, _, _, _, _, _, _, _, _, _, _, _, _, _, _, _, _]) (x := ?xx7_) ?ho7_ ?hx7_ ⟨s3, s4, s5, s6, s7, s8, s9, s10, s11, s12, s13, s14, s15, s16, s17, s18, s19, trivial⟩ Try.underlying38 rfl (by kernel_rfl)); (case ho7_ => rfl); (case hx7_ => rfl)) | (go_simp; with_reducible rfl)
           rotate_left
           ·simp only [Act.put, List.setIfInBounds_toArray, List.set_cons_zero, List.set_cons_succ, i64_w, i32_w]
            rfl
           refine take_ (i := 3) (N := some 34) (v := ?_) (a' := ?_) #[true, true, true, true, false, false, false, true, false, false, false] rfl rfl (take_ofW HT_.out HW_.out (by kernel_rfl)) (fun _ _ _ h => h) (Or.inl ⟨by rfl, ?_⟩) hHeld ?_ ?_
           rotate_left
           ·rintro w' ⟨s0, s1, s2, s3, s4, s5, s6, s7, s8, s9, s10, s11, s12, s13, s14, s15, s16, s17, s18, s19, s20, s21, s22, s23, s24, s25⟩
            first | ((refine Gv.load_run (t := 38) (A := ⟨gb455, 0, none⟩) (cs := [_, _, _, _, _, _, _, _, _, _, _, _, _, _, _, _, _]) (x := ?xx9_) ?ho9_ ?hx9_ ⟨s3, s4, s5, s6, s7, s8, s9, s10, s11, s12, s13, s14, s15, s16, s17, s18, s19, trivial⟩ Try.underlying38 rfl (by kernel_rfl)); (case ho9_ => rfl); (case hx9_ => rfl)) | (go_simp; with_reducible rfl)
           rotate_left
           ·simp only [Act.put, List.setIfInBounds_toArray, List.set_cons_zero, List.set_cons_succ, i64_w, i32_w]
            rfl
           refine Gv.pu 4 (some 35) HT_ ?_
           refine Gv.pu 5 (some 36) HT_ ?_
           refine take_ (i := 6) (N := some 37) (v := ?_) (a' := ?_) #[true, true, true, true, true, true, true, true, false, false, false] rfl rfl (take_ofW HT_.out HW_.out (by kernel_rfl)) (fun _ _ _ h => h) (Or.inl ⟨by rfl, ?_⟩) hHeld ?_ ?_
           rotate_left
           ·rintro w' ⟨s0, s1, s2, s3, s4, s5, s6, s7, s8, s9, s10, s11, s12, s13, s14, s15, s16, s17, s18, s19, s20, s21, s22, s23, s24, s25⟩
            first | ((refine Gv.load_run (t := 38) (A := ⟨gb455, 0, none⟩) (cs := [_, _, _, _, _, _, _, _, _, _, _, _, _, _, _, _, _]) (x := ?xx11_) ?ho11_ ?hx11_ ⟨s3, s4, s5, s6, s7, s8, s9, s10, s11, s12, s13, s14, s15, s16, s17, s18, s19, trivial⟩ Try.underlying38 rfl (by kernel_rfl)); (case ho11_ => rfl); (case hx11_ => rfl)) | (go_simp; with_reducible rfl)
           rotate_left
           ·simp only [Act.put, List.setIfInBounds_toArray, List.set_cons_zero, List.set_cons_succ, i64_w, i32_w]
            rfl
           refine one_ (i := 8) (N := some 39) #[true, true, true, true, true, true, true, true, true, false, false] rfl rfl (one_of HT_.out (by kernel_rfl)) (by decide) (fun K hK => ?_)
           refine goes_ Try.func56 (by kernel_rfl) rfl #[.agg #[.int .i64 ((rd_T75 l0 (ji24)).f0.f0), .int .i64 ((rd_T75 l0 (ji24)).f0.f1), .int .i64 ((rd_T75 l0 (ji24)).f0.f2), .int .i64 ((rd_T75 l0 (ji24)).f1.f0), .int .i64 ((rd_T75 l0 (ji24)).f1.f1), .int .i64 ((rd_T75 l0 (ji24)).f1.f2)], .int .i64 a2] (by rfl) rfl rfl (by (try simp only [List.map_toArray, List.map_cons, List.map_nil]); first | done | (simp only [hji24]; rfl) | rfl | (simp only [List.length_drop, List.length_take]; rfl)) ?_
           with_reducible refine (impl_ProfCost.calls ((rd_T75 l0 (ji24)).f0.f0) ((rd_T75 l0 (ji24)).f0.f1) ((rd_T75 l0 (ji24)).f0.f2) ((rd_T75 l0 (ji24)).f1.f0) ((rd_T75 l0 (ji24)).f1.f1) ((rd_T75 l0 (ji24)).f1.f2) a2 t457 t458 t459 _ A27.out).mono ?_
           rintro e w35 ⟨rfl, hb⟩
           refine ⟨_, rfl, ?_⟩
           have n0_ := Gv.a0 (Gv.bb BK449.out hb)
           have n1_ := Gv.a0 (Gv.bb BK453.out hb)
           have n2_ := Gv.a0 (Gv.bb BK455.out hb)
           have n3_ := Gv.a0 (below_step Gv.bw hb)
           clear BK449
           clear BK453
           clear BK455
           clear HB
           have BK449 := n0_
           have BK453 := n1_
           have BK455 := n2_
           have HB := n3_
           clear n0_ n1_ n2_ n3_
           (try clear hb)
           (try clear hb2)
           (try clear hk)
           (try clear hi)
           refine hK.out _ _ ⟨(blk_cell BK453.out 0).trans rfl, (blk_cell BK453.out 1).trans rfl, (blk_cell BK453.out 2).trans rfl, (blk_cell BK455.out 0).trans rfl, (blk_cell BK455.out 1).trans rfl, (blk_cell BK455.out 2).trans rfl, (blk_cell BK455.out 3).trans rfl, (blk_cell BK455.out 4).trans rfl, (blk_cell BK455.out 5).trans rfl, (blk_cell BK455.out 6).trans rfl, (blk_cell BK455.out 7).trans rfl, (blk_cell BK455.out 8).trans rfl, (blk_cell BK455.out 9).trans rfl, (blk_cell BK455.out 10).trans rfl, (blk_cell BK455.out 11).trans rfl, (blk_cell BK455.out 12).trans rfl, (blk_cell BK455.out 13).trans rfl, (blk_cell BK455.out 14).trans rfl, (blk_cell BK455.out 15).trans rfl, (blk_cell BK455.out 16).trans rfl, (Gv.bx HB.out hw456_0), (Gv.bx HB.out hw456_1), (Gv.bx HB.out hw456_2), (Gv.bx HB.out hw456_3), (Gv.bx HB.out hw456_4), (Gv.bx HB.out hw456_5)⟩ (fun hHeld => ?_)
           clear hK K
           refine norm_ (a' := ?_) ?_ ?_
           rotate_left
           ·show Act.put _ (some 39) _ = _
            simp only [Act.put, List.setIfInBounds_toArray, List.set_cons_zero, List.set_cons_succ, i64_w, i32_w]
            rfl
           refine one_ (i := 9) (N := some 40) #[true, true, true, true, true, true, true, true, true, true, false] rfl rfl (one_of HT_.out (by kernel_rfl)) (by decide) (fun K hK => ?_)
           refine goes_ Try.func55 (by kernel_rfl) rfl #[.agg #[.int .i64 x454000_2, .int .i64 x454001_2, .int .i64 x454002_2], .agg #[.int .i64 t457, .int .i64 t458, .int .i64 t459]] (by rfl) rfl rfl Gv.lm ?_
           with_reducible refine (impl_Vec_plus.calls x454000_2 x454001_2 x454002_2 t457 t458 t459 t460 t461 t462 _ A28.out).mono ?_
           rintro e w36 ⟨rfl, hb⟩
           refine ⟨_, rfl, ?_⟩
           have n0_ := Gv.a0 (Gv.bb BK449.out hb)
           have n1_ := Gv.a0 (Gv.bb BK453.out hb)
           have n2_ := Gv.a0 (Gv.bb BK455.out hb)
           have n3_ := Gv.a0 (below_step Gv.bw hb)
           clear BK449
           clear BK453
           clear BK455
           clear HB
           have BK449 := n0_
           have BK453 := n1_
           have BK455 := n2_
           have HB := n3_
           clear n0_ n1_ n2_ n3_
           (try clear hb)
           (try clear hb2)
           (try clear hk)
           (try clear hi)
           refine hK.out _ _ ⟨(blk_cell BK453.out 0).trans rfl, (blk_cell BK453.out 1).trans rfl, (blk_cell BK453.out 2).trans rfl, (blk_cell BK455.out 0).trans rfl, (blk_cell BK455.out 1).trans rfl, (blk_cell BK455.out 2).trans rfl, (blk_cell BK455.out 3).trans rfl, (blk_cell BK455.out 4).trans rfl, (blk_cell BK455.out 5).trans rfl, (blk_cell BK455.out 6).trans rfl, (blk_cell BK455.out 7).trans rfl, (blk_cell BK455.out 8).trans rfl, (blk_cell BK455.out 9).trans rfl, (blk_cell BK455.out 10).trans rfl, (blk_cell BK455.out 11).trans rfl, (blk_cell BK455.out 12).trans rfl, (blk_cell BK455.out 13).trans rfl, (blk_cell BK455.out 14).trans rfl, (blk_cell BK455.out 15).trans rfl, (blk_cell BK455.out 16).trans rfl, (Gv.bx HB.out hw456_0), (Gv.bx HB.out hw456_1), (Gv.bx HB.out hw456_2), (Gv.bx HB.out hw456_3), (Gv.bx HB.out hw456_4), (Gv.bx HB.out hw456_5)⟩ (fun hHeld => ?_)
           clear hK K
           refine norm_ (a' := ?_) ?_ ?_
           rotate_left
           ·show Act.put _ (some 40) _ = _
            simp only [Act.put, List.setIfInBounds_toArray, List.set_cons_zero, List.set_cons_succ, i64_w, i32_w]
            rfl
           refine last_ (i := 10) (N := none) #[true, true, true, true, true, true, true, true, true, true, true] rfl rfl (one_of HT_.out (by kernel_rfl)) (by decide) (fun K hK => ?_)
           have hs37 : w36.cell? ⟨gb453, 0, none⟩ = some (.int .i64 x454000_2) := (blk_cell BK453.out 0).trans rfl
           have hfs37 := blk_frozen BK453.out 0
           have hns37_0 := NB449_453.out
           have hns37_2 := NB455_453.out
           have hms37_0 := NB453_449.out
           have hms37_2 := NB453_455.out
           have hs38 : w36.cell? ⟨gb453, 1, none⟩ = some (.int .i64 x454001_2) := (blk_cell BK453.out 1).trans rfl
           have hfs38 := blk_frozen BK453.out 1
           have hns38_0 := NB449_453.out
           have hns38_2 := NB455_453.out
           have hms38_0 := NB453_449.out
           have hms38_2 := NB453_455.out
           have hs39 : w36.cell? ⟨gb453, 2, none⟩ = some (.int .i64 x454002_2) := (blk_cell BK453.out 2).trans rfl
           have hfs39 := blk_frozen BK453.out 2
           have hns39_0 := NB449_453.out
           have hns39_2 := NB455_453.out
           have hms39_0 := NB453_449.out
           have hms39_2 := NB453_455.out
           refine skip_ (w1 := ?_) (by rfl) rfl ?_ ?_
           rotate_left
           ·go_simp
            rfl
           refine hK.out _ _ ?_
           clear hK K
           refine done_ (done_of HT_.out (by kernel_rfl)) ?_
           try go_wp2
           go_roundg k2
           case measure => have := HJ3.out; have := HK2.out; omega
           case rel => exact ⟨(wrap64 (x27_2 + 1)), (t460), (t461), (t462), Gv.rq, H', ⟨by have := HJ3.out; have := HK2.out; omega⟩, ⟨by (with_reducible repeat (first | refine blk_drewN ?_ _ | refine blk_drew ?_ | refine blk_alloc ?_ _)); refine blk_far ?_ NB449_453.out _; (with_reducible repeat (first | refine blk_drewN ?_ _ | refine blk_drew ?_ | refine blk_alloc ?_ _)); refine blk_far ?_ NB449_453.out _; (with_reducible repeat (first | refine blk_drewN ?_ _ | refine blk_drew ?_ | refine blk_alloc ?_ _)); refine blk_far ?_ NB449_453.out _; (with_reducible repeat (first | refine blk_drewN ?_ _ | refine blk_drew ?_ | refine blk_alloc ?_ _)); exact BK449.out⟩, ⟨by (with_reducible repeat (first | refine blk_drewN ?_ _ | refine blk_drew ?_ | refine blk_alloc ?_ _)); refine blk_put (cs := #[.int .i64 t460, .int .i64 t461, .int .i64 x454002_2]) ?_ 2 _ rfl; (with_reducible repeat (first | refine blk_drewN ?_ _ | refine blk_drew ?_ | refine blk_alloc ?_ _)); refine blk_put (cs := #[.int .i64 t460, .int .i64 x454001_2, .int .i64 x454002_2]) ?_ 1 _ rfl; (with_reducible repeat (first | refine blk_drewN ?_ _ | refine blk_drew ?_ | refine blk_alloc ?_ _)); refine blk_put (cs := #[.int .i64 x454000_2, .int .i64 x454001_2, .int .i64 x454002_2]) ?_ 0 _ rfl; (with_reducible repeat (first | refine blk_drewN ?_ _ | refine blk_drew ?_ | refine blk_alloc ?_ _)); exact BK453.out⟩, ⟨Gv.bw⟩⟩
          ·rw [if_neg c26] at H
           exact absurd H (by simp)
         ·rw [if_neg c25] at H
          exact absurd H (by simp)
        ·rw [if_neg c23] at H
         exact absurd H (by simp)
       ·rw [if_neg c22] at H
        exact absurd H (by simp)
      ·rw [if_neg c21] at H
       have c21b0 : decide (x27_2 < (l1.length : Int)) = false := decide_eq_false c21
       clear c21
       replace H := Option.bind_eq_some_iff.mp H
       obtain ⟨⟨t463, t464, t465⟩, A400, H⟩ := H
       replace H : (some (t463, t464, t465)) = some (r1, r2, r3) := H
       have A40 := Gv.a0 A400
       clear A400
       simp only [Option.some.injEq, Prod.mk.injEq] at H
       obtain ⟨rfl, rfl, rfl⟩ := H
       have hnb41 := NB453_449.out
       have hnc41 := NB449_453.out
       have hcz42_0 : wr.cell? ⟨gb453, 0, none⟩ = some (.int .i64 x454000_2) := (blk_cell BK453.out 0).trans rfl
       have hcz42_1 : wr.cell? ⟨gb453, 1, none⟩ = some (.int .i64 x454001_2) := (blk_cell BK453.out 1).trans rfl
       have hcz42_2 : wr.cell? ⟨gb453, 2, none⟩ = some (.int .i64 x454002_2) := (blk_cell BK453.out 2).trans rfl
       have hfz42_0 := blk_frozen BK453.out 0
       have hfz42_1 := blk_frozen BK453.out 1
       have hfz42_2 := blk_frozen BK453.out 2
       go_wp2_with (first | ((with_reducible refine gate_callee (f := 57) rfl ?_); refine goesL_ (some 43) rfl rfl Try.func57 (by kernel_rfl) rfl #[.agg #[.int .i64 x454000_2, .int .i64 x454001_2, .int .i64 x454002_2], .func (.func 58) #[] #[]] rfl Gv.lm ?_; (with_reducible refine (impl_Vec_each_c58.calls x454000_2 x454001_2 x454002_2  t463 t464 t465 _ A40.out).mono ?_); rintro e w43 ⟨rfl, hb⟩; refine ⟨_, rfl, ?_⟩; have n0_ := Gv.a0 (Gv.bb BK449.out hb); have n1_ := Gv.a0 (Gv.bb BK453.out hb); have n2_ := Gv.a0 (below_step Gv.bw hb); clear BK449; clear BK453; clear HB; have BK449 := n0_; have BK453 := n1_; have HB := n2_; clear n0_ n1_ n2_; (try clear hb); (try clear hb2); (try clear hk); (try clear hi); have hcz44_0 : w43.cell? ⟨gb449, 0, none⟩ = some (.int .i64 0) := (blk_cell BK449.out 0).trans rfl; have hcz44_1 : w43.cell? ⟨gb449, 1, none⟩ = some (.int .i64 0) := (blk_cell BK449.out 1).trans rfl; have hcz44_2 : w43.cell? ⟨gb449, 2, none⟩ = some (.int .i64 0) := (blk_cell BK449.out 2).trans rfl; have hfz44_0 := blk_frozen BK449.out 0; have hfz44_1 := blk_frozen BK449.out 1; have hfz44_2 := blk_frozen BK449.out 2))
       refine bodyPost_ret (results_cell_row rfl _ _ gb449 51 #[.int .i64 t463, .int .i64 t464, .int .i64 t465] (0, 0) _ rfl (by (with_reducible repeat (first | refine blk_drewN ?_ _ | refine blk_drew ?_ | refine blk_alloc ?_ _)); refine blk_put (cs := #[.int .i64 t463, .int .i64 t464, .int .i64 0]) ?_ 2 _ rfl; (with_reducible repeat (first | refine blk_drewN ?_ _ | refine blk_drew ?_ | refine blk_alloc ?_ _)); refine blk_put (cs := #[.int .i64 t463, .int .i64 0, .int .i64 0]) ?_ 1 _ rfl; (with_reducible repeat (first | refine blk_drewN ?_ _ | refine blk_drew ?_ | refine blk_alloc ?_ _)); refine blk_put (cs := #[.int .i64 0, .int .i64 0, .int .i64 0]) ?_ 0 _ rfl; (with_reducible repeat (first | refine blk_drewN ?_ _ | refine blk_drew ?_ | refine blk_alloc ?_ _)); exact BK449.out) Try.underlying51 rfl (by kernel_rfl)) rfl ?_
       exact ⟨Gv.rt, Gv.bw⟩

/-! ### laws_eqVec: function 25 -/
def laws_eqVec.f (a0_0 : Int) (a0_1 : Int) (a0_2 : Int) (a1_0 : Int) (a1_1 : Int) (a1_2 : Int) : Option (Bool) := if a0_0 = a1_0 then (if a0_1 = a1_1 then (if a0_2 = a1_2 then (some true) else (none)) else (none)) else (none)
set_option maxHeartbeats 8000000 in
set_option maxRecDepth 100000 in
theorem laws_eqVec.calls (a0_0 : Int) (a0_1 : Int) (a0_2 : Int) (a1_0 : Int) (a1_1 : Int) (a1_2 : Int) (r : Bool) (w : World) (h : laws_eqVec.f a0_0 a0_1 a0_2 a1_0 a1_1 a1_2 = some r) :
  Calls Try.prog 25 #[.agg #[.int .i64 a0_0, .int .i64 a0_1, .int .i64 a0_2], .agg #[.int .i64 a1_0, .int .i64 a1_1, .int .i64 a1_2]] w fun e w' => e = .returned (.bool r) ∧ Below w.heap.size w w' := by
 have hu51 := Try.underlying51
 have HB := Gv.a0 (Below.refl w.heap.size w)
 have H : (if a0_0 = a1_0 then (if a0_1 = a1_1 then (if a0_2 = a1_2 then (some true) else (none)) else (none)) else (none)) = some r := h
 clear h
 by_cases c3 : a0_0 = a1_0
 ·rw [if_pos c3] at H
  have c3b0 : (a0_0 == a1_0) = true := beq_iff_eq.mpr c3
  have c3b1 : (a0_0 != a1_0) = false := bne_eq_false_iff_eq.mpr c3
  clear c3
  by_cases c4 : a0_1 = a1_1
  ·rw [if_pos c4] at H
   have c4b0 : (a0_1 == a1_1) = true := beq_iff_eq.mpr c4
   have c4b1 : (a0_1 != a1_1) = false := bne_eq_false_iff_eq.mpr c4
   clear c4
   by_cases c5 : a0_2 = a1_2
   ·rw [if_pos c5] at H
    have c5b0 : (a0_2 == a1_2) = true := beq_iff_eq.mpr c5
    have c5b1 : (a0_2 != a1_2) = false := bne_eq_false_iff_eq.mpr c5
    clear c5
    obtain rfl := Option.some.inj H
    go_enter Try.func25, Try.ntmps25
    go_wp2_with (first | ((with_reducible refine gate_dst (N := 2) rfl ?_); refine box_event ?hg (N := 2) ?hd (cs := #[.int .i64 a0_0, .int .i64 a0_1, .int .i64 a0_2]) (t := 51) ?hr ?_; (case hd => rfl); (case hg => rfl); (case hr => first | (go_simp; done) | (go_simp; rfl)); intro gb466 hg w6 hbox hb; have n0_ := Gv.a0 (below_step Gv.bw hb); have n1_ := Gv.a0 (hbox); have n2_ := Gv.a0 ((Gv.ble hg Gv.bw : w.heap.size ≤ gb466)); have n3_ := Gv.a0 ((Gv.ble hg Gv.bw : w.heap.size ≤ gb466)); clear HB; have HB := n0_; have BK466 := n1_; have GW466 := n2_; have GE466 := n3_; clear n0_ n1_ n2_ n3_; clear hb hbox hg) | ((with_reducible refine gate_dst (N := 3) rfl ?_); refine box_event ?hg (N := 3) ?hd (cs := #[.int .i64 a1_0, .int .i64 a1_1, .int .i64 a1_2]) (t := 51) ?hr ?_; (case hd => rfl); (case hg => rfl); (case hr => first | (go_simp; done) | (go_simp; rfl)); intro gb467 hg w7 hbox hb; have n0_ := Gv.a0 (Gv.bb BK466.out hb); have n1_ := Gv.a0 (below_step Gv.bw hb); have n2_ := Gv.a0 (hbox); have n3_ := Gv.a0 ((Gv.ble hg Gv.bw : w.heap.size ≤ gb467)); have n4_ := Gv.a0 ((Gv.ble hg Gv.bw : w.heap.size ≤ gb467)); have n5_ := Gv.a0 ((Gv.nlt hg (Gv.kb BK466.out) : gb466 ≠ gb467)); have n6_ := Gv.a0 ((Gv.ngt hg (Gv.kb BK466.out) : gb467 ≠ gb466)); clear BK466; clear HB; have BK466 := n0_; have HB := n1_; have BK467 := n2_; have GW467 := n3_; have GE467 := n4_; have NB466_467 := n5_; have NB467_466 := n6_; clear n0_ n1_ n2_ n3_ n4_ n5_ n6_; clear hb hbox hg; have hnb8 := NB466_467.out; have hnc8 := NB467_466.out; have hcz9_0 : w7.cell? ⟨gb466, 0, none⟩ = some (.int .i64 a0_0) := (blk_cell BK466.out 0).trans rfl; have hcz9_1 : w7.cell? ⟨gb466, 1, none⟩ = some (.int .i64 a0_1) := (blk_cell BK466.out 1).trans rfl; have hcz9_2 : w7.cell? ⟨gb466, 2, none⟩ = some (.int .i64 a0_2) := (blk_cell BK466.out 2).trans rfl; have hfz9_0 := blk_frozen BK466.out 0; have hfz9_1 := blk_frozen BK466.out 1; have hfz9_2 := blk_frozen BK466.out 2; have hcz10_0 : w7.cell? ⟨gb467, 0, none⟩ = some (.int .i64 a1_0) := (blk_cell BK467.out 0).trans rfl; have hcz10_1 : w7.cell? ⟨gb467, 1, none⟩ = some (.int .i64 a1_1) := (blk_cell BK467.out 1).trans rfl; have hcz10_2 : w7.cell? ⟨gb467, 2, none⟩ = some (.int .i64 a1_2) := (blk_cell BK467.out 2).trans rfl; have hfz10_0 := blk_frozen BK467.out 0; have hfz10_1 := blk_frozen BK467.out 1; have hfz10_2 := blk_frozen BK467.out 2))
    go_ret
    exact ⟨Gv.rt, Gv.bw⟩
   ·rw [if_neg c5] at H
    exact absurd H (by simp)
  ·rw [if_neg c4] at H
   exact absurd H (by simp)
 ·rw [if_neg c3] at H
  exact absurd H (by simp)

/-! ### laws_eqProf: function 60 -/
def laws_eqProf.f (a0_0 : Int) (a0_1 : Int) (a0_2 : Int) (a0_3 : Int) (a0_4 : Int) (a0_5 : Int) (a1_0 : Int) (a1_1 : Int) (a1_2 : Int) (a1_3 : Int) (a1_4 : Int) (a1_5 : Int) : Option (Bool) := (laws_eqVec.f a0_0 a0_1 a0_2 a1_0 a1_1 a1_2).bind fun t470 => (if t470 = true then ((laws_eqVec.f a0_3 a0_4 a0_5 a1_3 a1_4 a1_5).bind fun t471 => (if t471 = true then (some true) else (none))) else (none))
set_option maxHeartbeats 8000000 in
set_option maxRecDepth 100000 in
theorem laws_eqProf.calls (a0_0 : Int) (a0_1 : Int) (a0_2 : Int) (a0_3 : Int) (a0_4 : Int) (a0_5 : Int) (a1_0 : Int) (a1_1 : Int) (a1_2 : Int) (a1_3 : Int) (a1_4 : Int) (a1_5 : Int) (r : Bool) (w : World) (h : laws_eqProf.f a0_0 a0_1 a0_2 a0_3 a0_4 a0_5 a1_0 a1_1 a1_2 a1_3 a1_4 a1_5 = some r) :
  Calls Try.prog 60 #[.agg #[.int .i64 a0_0, .int .i64 a0_1, .int .i64 a0_2, .int .i64 a0_3, .int .i64 a0_4, .int .i64 a0_5], .agg #[.int .i64 a1_0, .int .i64 a1_1, .int .i64 a1_2, .int .i64 a1_3, .int .i64 a1_4, .int .i64 a1_5]] w fun e w' => e = .returned (.bool r) ∧ Below w.heap.size w w' := by
 have hu75 := Try.underlying75
 have hu51 := Try.underlying51
 have HB := Gv.a0 (Below.refl w.heap.size w)
 have H : ((laws_eqVec.f a0_0 a0_1 a0_2 a1_0 a1_1 a1_2).bind fun t470 => (if t470 = true then ((laws_eqVec.f a0_3 a0_4 a0_5 a1_3 a1_4 a1_5).bind fun t471 => (if t471 = true then (some true) else (none))) else (none))) = some r := h
 clear h
 replace H := Option.bind_eq_some_iff.mp H
 obtain ⟨t470, A30, H⟩ := H
 replace H : (if t470 = true then ((laws_eqVec.f a0_3 a0_4 a0_5 a1_3 a1_4 a1_5).bind fun t471 => (if t471 = true then (some true) else (none))) else (none)) = some r := H
 have A3 := Gv.a0 A30
 clear A30
 by_cases c4 : t470 = true
 ·subst c4
  have H1 : ((laws_eqVec.f a0_3 a0_4 a0_5 a1_3 a1_4 a1_5).bind fun t471 => (if t471 = true then (some true) else (none))) = some r := by rw [if_pos rfl] at H; exact H
  clear H
  have H := H1
  clear H1
  replace H := Option.bind_eq_some_iff.mp H
  obtain ⟨t471, A50, H⟩ := H
  replace H : (if t471 = true then (some true) else (none)) = some r := H
  have A5 := Gv.a0 A50
  clear A50
  by_cases c6 : t471 = true
  ·subst c6
   have H1 : (some true) = some r := by rw [if_pos rfl] at H; exact H
   clear H
   have H := H1
   clear H1
   obtain rfl := Option.some.inj H
   go_enter Try.func60, Try.ntmps60
   go_wp2_with (first | ((with_reducible refine gate_dst (N := 2) rfl ?_); refine box_event ?hg (N := 2) ?hd (cs := #[.int .i64 a0_0, .int .i64 a0_1, .int .i64 a0_2, .int .i64 a0_3, .int .i64 a0_4, .int .i64 a0_5]) (t := 75) ?hr ?_; (case hd => rfl); (case hg => rfl); (case hr => first | (go_simp; done) | (go_simp; rfl)); intro gb468 hg w7 hbox hb; have n0_ := Gv.a0 (below_step Gv.bw hb); have n1_ := Gv.a0 (hbox); have n2_ := Gv.a0 ((Gv.ble hg Gv.bw : w.heap.size ≤ gb468)); have n3_ := Gv.a0 ((Gv.ble hg Gv.bw : w.heap.size ≤ gb468)); clear HB; have HB := n0_; have BK468 := n1_; have GW468 := n2_; have GE468 := n3_; clear n0_ n1_ n2_ n3_; clear hb hbox hg) | ((with_reducible refine gate_dst (N := 3) rfl ?_); refine box_event ?hg (N := 3) ?hd (cs := #[.int .i64 a1_0, .int .i64 a1_1, .int .i64 a1_2, .int .i64 a1_3, .int .i64 a1_4, .int .i64 a1_5]) (t := 75) ?hr ?_; (case hd => rfl); (case hg => rfl); (case hr => first | (go_simp; done) | (go_simp; rfl)); intro gb469 hg w8 hbox hb; have n0_ := Gv.a0 (Gv.bb BK468.out hb); have n1_ := Gv.a0 (below_step Gv.bw hb); have n2_ := Gv.a0 (hbox); have n3_ := Gv.a0 ((Gv.ble hg Gv.bw : w.heap.size ≤ gb469)); have n4_ := Gv.a0 ((Gv.ble hg Gv.bw : w.heap.size ≤ gb469)); have n5_ := Gv.a0 ((Gv.nlt hg (Gv.kb BK468.out) : gb468 ≠ gb469)); have n6_ := Gv.a0 ((Gv.ngt hg (Gv.kb BK468.out) : gb469 ≠ gb468)); clear BK468; clear HB; have BK468 := n0_; have HB := n1_; have BK469 := n2_; have GW469 := n3_; have GE469 := n4_; have NB468_469 := n5_; have NB469_468 := n6_; clear n0_ n1_ n2_ n3_ n4_ n5_ n6_; clear hb hbox hg; have hnb9 := NB468_469.out; have hnc9 := NB469_468.out; obtain ⟨hcz10_0, hcz10_1, hcz10_2, hcz10_3, hcz10_4, hcz10_5⟩ := Gv.c6 BK468.out; obtain ⟨hfz10_0, hfz10_1, hfz10_2, hfz10_3, hfz10_4, hfz10_5⟩ := Gv.f6 BK468.out; obtain ⟨hcz11_0, hcz11_1, hcz11_2, hcz11_3, hcz11_4, hcz11_5⟩ := Gv.c6 BK469.out; obtain ⟨hfz11_0, hfz11_1, hfz11_2, hfz11_3, hfz11_4, hfz11_5⟩ := Gv.f6 BK469.out) | ((with_reducible refine gate_callee (f := 25) rfl ?_); refine goesL_ (some 9) rfl rfl Try.func25 (by kernel_rfl) rfl #[.agg #[.int .i64 a0_0, .int .i64 a0_1, .int .i64 a0_2], .agg #[.int .i64 a1_0, .int .i64 a1_1, .int .i64 a1_2]] rfl Gv.lm ?_; (with_reducible refine (laws_eqVec.calls a0_0 a0_1 a0_2 a1_0 a1_1 a1_2 true _ A3.out).mono ?_); rintro e w12 ⟨rfl, hb⟩; refine ⟨_, rfl, ?_⟩; have n0_ := Gv.a0 (Gv.bb BK468.out hb); have n1_ := Gv.a0 (Gv.bb BK469.out hb); have n2_ := Gv.a0 (below_step Gv.bw hb); clear BK468; clear BK469; clear HB; have BK468 := n0_; have BK469 := n1_; have HB := n2_; clear n0_ n1_ n2_; (try clear hb); (try clear hb2); (try clear hk); (try clear hi); obtain ⟨hcz13_0, hcz13_1, hcz13_2, hcz13_3, hcz13_4, hcz13_5⟩ := Gv.c6 BK468.out; obtain ⟨hfz13_0, hfz13_1, hfz13_2, hfz13_3, hfz13_4, hfz13_5⟩ := Gv.f6 BK468.out; obtain ⟨hcz14_0, hcz14_1, hcz14_2, hcz14_3, hcz14_4, hcz14_5⟩ := Gv.c6 BK469.out; obtain ⟨hfz14_0, hfz14_1, hfz14_2, hfz14_3, hfz14_4, hfz14_5⟩ := Gv.f6 BK469.out) | ((with_reducible refine gate_callee (f := 25) rfl ?_); refine goesL_ (some 15) rfl rfl Try.func25 (by kernel_rfl) rfl #[.agg #[.int .i64 a0_3, .int .i64 a0_4, .int .i64 a0_5], .agg #[.int .i64 a1_3, .int .i64 a1_4, .int .i64 a1_5]] rfl Gv.lm ?_; (with_reducible refine (laws_eqVec.calls a0_3 a0_4 a0_5 a1_3 a1_4 a1_5 true _ A5.out).mono ?_); rintro e w15 ⟨rfl, hb⟩; refine ⟨_, rfl, ?_⟩; have n0_ := Gv.a0 (Gv.bb BK468.out hb); have n1_ := Gv.a0 (Gv.bb BK469.out hb); have n2_ := Gv.a0 (below_step Gv.bw hb); clear BK468; clear BK469; clear HB; have BK468 := n0_; have BK469 := n1_; have HB := n2_; clear n0_ n1_ n2_; (try clear hb); (try clear hb2); (try clear hk); (try clear hi)))
   go_ret
   exact ⟨Gv.rt, Gv.bw⟩
  ·replace c6 := Bool.eq_false_iff.mpr c6
   subst c6
   have H1 : (none) = some r := by rw [if_neg (show ¬ (false = true) by decide)] at H; exact H
   clear H
   have H := H1
   clear H1
   exact absurd H (by simp)
 ·replace c4 := Bool.eq_false_iff.mpr c4
  subst c4
  have H1 : (none) = some r := by rw [if_neg (show ¬ (false = true) by decide)] at H; exact H
  clear H
  have H := H1
  clear H1
  exact absurd H (by simp)

/-! ### laws_eqProfS: function 26 -/
def laws_eqProfS.l0 : Nat → List (S75) → List (S75) → Int → Option (Bool)
 | 0, _, _, _ => none
 | k + 1, x0, x1, x5 => if x5 < (x0.length : Int) then (if 0 ≤ x5 then (if x5 < (x1.length : Int) then ((laws_eqProf.f ((rd_T75 x0 x5).f0.f0) ((rd_T75 x0 x5).f0.f1) ((rd_T75 x0 x5).f0.f2) ((rd_T75 x0 x5).f1.f0) ((rd_T75 x0 x5).f1.f1) ((rd_T75 x0 x5).f1.f2) ((rd_T75 x1 x5).f0.f0) ((rd_T75 x1 x5).f0.f1) ((rd_T75 x1 x5).f0.f2) ((rd_T75 x1 x5).f1.f0) ((rd_T75 x1 x5).f1.f1) ((rd_T75 x1 x5).f1.f2)).bind fun t474 => (if t474 = true then (laws_eqProfS.l0 k x0 x1 (wrap64 (x5 + 1))) else (none))) else (none)) else (none)) else (some true)
def laws_eqProfS.f (k : Nat) (l0 : List (S75)) (l1 : List (S75)) : Option (Bool) := if (l0.length : Int) = (l1.length : Int) then (laws_eqProfS.l0 k l0 l1 0) else (none)
theorem laws_eqProfS.mono_l : ∀ k, (∀ y0 y1 y2, LeO (laws_eqProfS.l0 k y0 y1 y2) (laws_eqProfS.l0 (k + 1) y0 y1 y2))
 | 0 => fun _ _ _ r h => by simp [laws_eqProfS.l0] at h
 | k + 1 => by
  have ih0 := laws_eqProfS.mono_l k
  ·intro y0 y1 y2
   unfold laws_eqProfS.l0
   repeat' first
   | (with_reducible exact ih0 _ _ _)
   | (with_reducible exact LeO.refl _)
   | (with_reducible exact LeO.none _)
   | (with_reducible refine LeO.ite ?_ ?_)
   | (with_reducible refine LeO.bind ?_ (fun _ => ?_))
   | exact ih0 _ _ _
   | exact LeO.none _
   | refine LeO.ite ?_ ?_
   | refine LeO.bind ?_ (fun _ => ?_)
theorem laws_eqProfS.mono : ∀ a0 a1 k, LeO (laws_eqProfS.f k a0 a1) (laws_eqProfS.f (k + 1) a0 a1) := by
 intro a0 a1 k
 have ih0 := laws_eqProfS.mono_l k
 unfold laws_eqProfS.f
 repeat' first
   | (with_reducible exact ih0 _ _ _)
   | (with_reducible exact LeO.refl _)
   | (with_reducible exact LeO.none _)
   | (with_reducible refine LeO.ite ?_ ?_)
   | (with_reducible refine LeO.bind ?_ (fun _ => ?_))
   | exact ih0 _ _ _
   | exact LeO.none _
   | refine LeO.ite ?_ ?_
   | refine LeO.bind ?_ (fun _ => ?_)
def laws_eqProfS.T6 : Bool × List (List Nat × List Nat) := (true, [([], []), ([], []), ([0, 1], [0, 1]), ([2], [2]), ([], []), ([], []), ([4, 5], [4, 5]), ([6], [6]), ([3, 7], [3, 7]), ([8], [8])])
def laws_eqProfS.B6 : List Nat := [0, 0, 3, 7, 0, 0, 48, 112, 255, 511]
theorem laws_eqProfS.tab6 : rtab .any (opsOf Try.f26 6) = laws_eqProfS.T6 := by kernel_rfl
theorem laws_eqProfS.bits6 : waitsOk laws_eqProfS.T6.2 laws_eqProfS.B6 = true := by kernel_rfl
set_option maxHeartbeats 8000000 in
set_option maxRecDepth 100000 in
theorem laws_eqProfS.calls (k : Nat) (A0 : Option Addr) (c0 : Nat) (l0 : List (S75)) (A1 : Option Addr) (c1 : Nat) (l1 : List (S75)) (r : Bool) (w : World) (hr0 : Kd.C k75 w A0 l0.length l0) (hc0 : l0.length ≤ c0) (hr1 : Kd.C k75 w A1 l1.length l1) (hc1 : l1.length ≤ c1) (h : laws_eqProfS.f k l0 l1 = some r) :
  Calls Try.prog 26 #[.slice A0 l0.length c0, .slice A1 l1.length c1] w fun e w' => e = .returned (.bool r) ∧ Below w.heap.size w w' := by
 have hu75 := Try.underlying75
 have HR0 := Gv.a0 hr0
 have HC0 := Gv.a0 hc0
 clear hr0 hc0
 have HR1 := Gv.a0 hr1
 have HC1 := Gv.a0 hc1
 clear hr1 hc1
 have HB := Gv.a0 (Below.refl w.heap.size w)
 have H : (if (l0.length : Int) = (l1.length : Int) then (laws_eqProfS.l0 k l0 l1 0) else (none)) = some r := h
 clear h
 by_cases c3 : (l0.length : Int) = (l1.length : Int)
 ·rw [if_pos c3] at H
  have c3b0 : ((l0.length : Int) == (l1.length : Int)) = true := beq_iff_eq.mpr c3
  have c3b1 : ((l0.length : Int) != (l1.length : Int)) = false := bne_eq_false_iff_eq.mpr c3
  have c3b2 : (l0.length == l1.length) = true := by first | simpa using c3 | (simp at c3 ⊢; omega)
  clear c3
  have H' := Gv.a0 H
  clear H
  go_enter Try.func26, Try.ntmps26
  go_wp2
  go_loopg [5] k (fun kq v5 w' => ∃ (x5_1 : Int), v5 = .int .i64 x5_1 ∧ Aside0 (laws_eqProfS.l0 kq l0 l1 x5_1 = some r) ∧ Aside0 (kq ≤ k) ∧ Aside0 (Below w.heap.size w w'))
  case atStart => exact ⟨(0), Gv.rq, H', ⟨Nat.le_refl _⟩, ⟨Gv.bw⟩⟩
  case round =>
   clear H'
   try clear c1
   try clear c2
   try clear p2
   try clear c3
   try clear c3b0
   try clear c3b1
   try clear c3b2
   obtain ⟨x5_1, rfl, HA, HK1, HB⟩ := hrel
   cases gk with
   | zero => exact absurd HA.out (by simp [laws_eqProfS.l0])
   | succ k1 =>
    have H := HA.out
    clear HA
    simp only [laws_eqProfS.l0] at H
    by_cases c4 : x5_1 < (l0.length : Int)
    ·rw [if_pos c4] at H
     have c4b0 : decide (x5_1 < (l0.length : Int)) = true := decide_eq_true c4
     clear c4
     by_cases c5 : 0 ≤ x5_1
     ·rw [if_pos c5] at H
      have c5b0 : decide (0 ≤ x5_1) = true := decide_eq_true c5
      clear c5
      by_cases c6 : x5_1 < (l1.length : Int)
      ·rw [if_pos c6] at H
       have c6b0 : decide (x5_1 < (l1.length : Int)) = true := decide_eq_true c6
       clear c6
       replace H := Option.bind_eq_some_iff.mp H
       obtain ⟨t474, A70, H⟩ := H
       replace H : (if t474 = true then (laws_eqProfS.l0 k1 l0 l1 (wrap64 (x5_1 + 1))) else (none)) = some r := H
       have A7 := Gv.a0 A70
       clear A70
       by_cases c8 : t474 = true
       ·subst c8
        have H1 : (laws_eqProfS.l0 k1 l0 l1 (wrap64 (x5_1 + 1))) = some r := by rw [if_pos rfl] at H; exact H
        clear H
        have H := H1
        clear H1
        have H' := Gv.a0 H
        clear H
        try go_wp2
        have n0_ := Gv.a0 (below_drew1 HB.out)
        clear HB
        have HB := n0_
        clear n0_
        have p472 : 0 ≤ (x5_1 : Int) := of_decide_eq_true (by first | (with_reducible assumption) | assumption)
        have q472 : x5_1 < (l0.length : Int) := of_decide_eq_true (by first | (with_reducible assumption) | assumption)
        obtain ⟨ad472, e472, hx472_0, hx472_1, hx472_2, hx472_3, hx472_4, hx472_5⟩ := at_T75 HR0.out x5_1 p472 q472
        have hw472_5 := hx472_5
        have hw472_4 := hx472_4
        have hw472_3 := hx472_3
        have hw472_2 := hx472_2
        have hw472_1 := hx472_1
        have hw472_0 := hx472_0
        cases e472
        replace hx472_0 := Gv.bx HB.out hx472_0
        replace hx472_1 := Gv.bx HB.out hx472_1
        replace hx472_2 := Gv.bx HB.out hx472_2
        replace hx472_3 := Gv.bx HB.out hx472_3
        replace hx472_4 := Gv.bx HB.out hx472_4
        replace hx472_5 := Gv.bx HB.out hx472_5
        replace p472 := eq_true p472
        replace q472 := eq_true q472
        have p473 : 0 ≤ (x5_1 : Int) := of_decide_eq_true (by first | (with_reducible assumption) | assumption)
        have q473 : x5_1 < (l1.length : Int) := of_decide_eq_true (by first | (with_reducible assumption) | assumption)
        obtain ⟨ad473, e473, hx473_0, hx473_1, hx473_2, hx473_3, hx473_4, hx473_5⟩ := at_T75 HR1.out x5_1 p473 q473
        have hw473_5 := hx473_5
        have hw473_4 := hx473_4
        have hw473_3 := hx473_3
        have hw473_2 := hx473_2
        have hw473_1 := hx473_1
        have hw473_0 := hx473_0
        cases e473
        replace hx473_0 := Gv.bx HB.out hx473_0
        replace hx473_1 := Gv.bx HB.out hx473_1
        replace hx473_2 := Gv.bx HB.out hx473_2
        replace hx473_3 := Gv.bx HB.out hx473_3
        replace hx473_4 := Gv.bx HB.out hx473_4
        replace hx473_5 := Gv.bx HB.out hx473_5
        replace p473 := eq_true p473
        replace q473 := eq_true q473
        refine start_ (n := 10) (S := fun w' => w'.cell? (ad472.add ((x5_1).toNat * 6)) = some (.int .i64 ((rd_T75 l0 x5_1).f0.f0)) ∧ w'.cell? ⟨(ad472.add ((x5_1).toNat * 6)).block, (ad472.add ((x5_1).toNat * 6)).off + 1, none⟩ = some (.int .i64 ((rd_T75 l0 x5_1).f0.f1)) ∧ w'.cell? ⟨(ad472.add ((x5_1).toNat * 6)).block, (ad472.add ((x5_1).toNat * 6)).off + 2, none⟩ = some (.int .i64 ((rd_T75 l0 x5_1).f0.f2)) ∧ w'.cell? ⟨(ad472.add ((x5_1).toNat * 6)).block, (ad472.add ((x5_1).toNat * 6)).off + 3, none⟩ = some (.int .i64 ((rd_T75 l0 x5_1).f1.f0)) ∧ w'.cell? ⟨(ad472.add ((x5_1).toNat * 6)).block, (ad472.add ((x5_1).toNat * 6)).off + 4, none⟩ = some (.int .i64 ((rd_T75 l0 x5_1).f1.f1)) ∧ w'.cell? ⟨(ad472.add ((x5_1).toNat * 6)).block, (ad472.add ((x5_1).toNat * 6)).off + 5, none⟩ = some (.int .i64 ((rd_T75 l0 x5_1).f1.f2)) ∧ w'.cell? (ad473.add ((x5_1).toNat * 6)) = some (.int .i64 ((rd_T75 l1 x5_1).f0.f0)) ∧ w'.cell? ⟨(ad473.add ((x5_1).toNat * 6)).block, (ad473.add ((x5_1).toNat * 6)).off + 1, none⟩ = some (.int .i64 ((rd_T75 l1 x5_1).f0.f1)) ∧ w'.cell? ⟨(ad473.add ((x5_1).toNat * 6)).block, (ad473.add ((x5_1).toNat * 6)).off + 2, none⟩ = some (.int .i64 ((rd_T75 l1 x5_1).f0.f2)) ∧ w'.cell? ⟨(ad473.add ((x5_1).toNat * 6)).block, (ad473.add ((x5_1).toNat * 6)).off + 3, none⟩ = some (.int .i64 ((rd_T75 l1 x5_1).f1.f0)) ∧ w'.cell? ⟨(ad473.add ((x5_1).toNat * 6)).block, (ad473.add ((x5_1).toNat * 6)).off + 4, none⟩ = some (.int .i64 ((rd_T75 l1 x5_1).f1.f1)) ∧ w'.cell? ⟨(ad473.add ((x5_1).toNat * 6)).block, (ad473.add ((x5_1).toNat * 6)).off + 5, none⟩ = some (.int .i64 ((rd_T75 l1 x5_1).f1.f2))) (ds := []) #[false, false, false, false, false, false, false, false, false, false] (by kernel_rfl) rfl rfl ⟨(Gv.bx HB.out hw472_0), (Gv.bx HB.out hw472_1), (Gv.bx HB.out hw472_2), (Gv.bx HB.out hw472_3), (Gv.bx HB.out hw472_4), (Gv.bx HB.out hw472_5), (Gv.bx HB.out hw473_0), (Gv.bx HB.out hw473_1), (Gv.bx HB.out hw473_2), (Gv.bx HB.out hw473_3), (Gv.bx HB.out hw473_4), (Gv.bx HB.out hw473_5)⟩ (fun hHeld => ?_); refine with_tabW laws_eqProfS.tab6 laws_eqProfS.bits6 (fun HT_ HW_ => ?_)
        generalize wr.drew = w9 at HB hx472_0 hx472_1 hx472_2 hx472_3 hx472_4 hx472_5 hx473_0 hx473_1 hx473_2 hx473_3 hx473_4 hx473_5 hHeld ⊢
        refine Gv.pu 0 (some 17) HT_ ?_
        refine Gv.pu 1 (some 18) HT_ ?_
        refine Gv.pu 2 (some 19) HT_ ?_
        refine Gv.pu 4 (some 21) HT_ ?_
        refine Gv.pu 5 (some 22) HT_ ?_
        refine Gv.pu 6 (some 23) HT_ ?_
        refine take_ (i := 3) (N := some 20) (v := ?_) (a' := ?_) #[true, true, true, true, true, true, true, false, false, false] rfl rfl (take_ofW HT_.out HW_.out (by kernel_rfl)) (fun _ _ _ h => h) (Or.inl ⟨by rfl, ?_⟩) hHeld ?_ ?_
        rotate_left
        ·rintro w' ⟨s0, s1, s2, s3, s4, s5, s6, s7, s8, s9, s10, s11⟩
         go_simp
         with_reducible rfl
        rotate_left
        ·simp only [Act.put, List.setIfInBounds_toArray, List.set_cons_zero, List.set_cons_succ, i64_w, i32_w]
         rfl
        refine take_ (i := 7) (N := some 24) (v := ?_) (a' := ?_) #[true, true, true, true, true, true, true, true, false, false] rfl rfl (take_ofW HT_.out HW_.out (by kernel_rfl)) (fun _ _ _ h => h) (Or.inl ⟨by rfl, ?_⟩) hHeld ?_ ?_
        rotate_left
        ·rintro w' ⟨s0, s1, s2, s3, s4, s5, s6, s7, s8, s9, s10, s11⟩
         go_simp
         with_reducible rfl
        rotate_left
        ·simp only [Act.put, List.setIfInBounds_toArray, List.set_cons_zero, List.set_cons_succ, i64_w, i32_w]
         rfl
        refine one_ (i := 8) (N := some 25) #[true, true, true, true, true, true, true, true, true, false] rfl rfl (one_of HT_.out (by kernel_rfl)) (by decide) (fun K hK => ?_)
        refine goes_ Try.func60 (by kernel_rfl) rfl #[.agg #[.int .i64 ((rd_T75 l0 x5_1).f0.f0), .int .i64 ((rd_T75 l0 x5_1).f0.f1), .int .i64 ((rd_T75 l0 x5_1).f0.f2), .int .i64 ((rd_T75 l0 x5_1).f1.f0), .int .i64 ((rd_T75 l0 x5_1).f1.f1), .int .i64 ((rd_T75 l0 x5_1).f1.f2)], .agg #[.int .i64 ((rd_T75 l1 x5_1).f0.f0), .int .i64 ((rd_T75 l1 x5_1).f0.f1), .int .i64 ((rd_T75 l1 x5_1).f0.f2), .int .i64 ((rd_T75 l1 x5_1).f1.f0), .int .i64 ((rd_T75 l1 x5_1).f1.f1), .int .i64 ((rd_T75 l1 x5_1).f1.f2)]] (by rfl) rfl rfl Gv.lm ?_
        with_reducible refine (laws_eqProf.calls ((rd_T75 l0 x5_1).f0.f0) ((rd_T75 l0 x5_1).f0.f1) ((rd_T75 l0 x5_1).f0.f2) ((rd_T75 l0 x5_1).f1.f0) ((rd_T75 l0 x5_1).f1.f1) ((rd_T75 l0 x5_1).f1.f2) ((rd_T75 l1 x5_1).f0.f0) ((rd_T75 l1 x5_1).f0.f1) ((rd_T75 l1 x5_1).f0.f2) ((rd_T75 l1 x5_1).f1.f0) ((rd_T75 l1 x5_1).f1.f1) ((rd_T75 l1 x5_1).f1.f2) true _ A7.out).mono ?_
        rintro e w10 ⟨rfl, hb⟩
        refine ⟨_, rfl, ?_⟩
        have n0_ := Gv.a0 (below_step Gv.bw hb)
        clear HB
        have HB := n0_
        clear n0_
        (try clear hb)
        (try clear hb2)
        (try clear hk)
        (try clear hi)
        refine hK.out _ _ ⟨(Gv.bx HB.out hw472_0), (Gv.bx HB.out hw472_1), (Gv.bx HB.out hw472_2), (Gv.bx HB.out hw472_3), (Gv.bx HB.out hw472_4), (Gv.bx HB.out hw472_5), (Gv.bx HB.out hw473_0), (Gv.bx HB.out hw473_1), (Gv.bx HB.out hw473_2), (Gv.bx HB.out hw473_3), (Gv.bx HB.out hw473_4), (Gv.bx HB.out hw473_5)⟩ (fun hHeld => ?_)
        clear hK K
        refine norm_ (a' := ?_) ?_ ?_
        rotate_left
        ·show Act.put _ (some 25) _ = _
         simp only [Act.put, List.setIfInBounds_toArray, List.set_cons_zero, List.set_cons_succ, i64_w, i32_w]
         rfl
        refine Gv.pu 9 (some 26) HT_ ?_
        refine done_ (done_of HT_.out (by kernel_rfl)) ?_
        try go_wp2
        go_roundg k1
        case measure => have := HK1.out; omega
        case rel => exact ⟨(wrap64 (x5_1 + 1)), Gv.rq, H', ⟨by have := HK1.out; omega⟩, ⟨Gv.bw⟩⟩
       ·replace c8 := Bool.eq_false_iff.mpr c8
        subst c8
        have H1 : (none) = some r := by rw [if_neg (show ¬ (false = true) by decide)] at H; exact H
        clear H
        have H := H1
        clear H1
        exact absurd H (by simp)
      ·rw [if_neg c6] at H
       exact absurd H (by simp)
     ·rw [if_neg c5] at H
      exact absurd H (by simp)
    ·rw [if_neg c4] at H
     have c4b0 : decide (x5_1 < (l0.length : Int)) = false := decide_eq_false c4
     clear c4
     obtain rfl := Option.some.inj H
     go_wp2
     go_ret
     exact ⟨Gv.rt, Gv.bw⟩
 ·rw [if_neg c3] at H
  exact absurd H (by simp)

/-! ### laws_FnExactChainCost: function 6 -/
def laws_FnExactChainCost.f (k : Nat) (l0 : List (S81)) (l1 : List (S35)) (a2 : Int) : Option (Bool) := (laws_szProfS.f l0 1048576).bind fun t475 => (if t475 < 0 then (some true) else ((laws_szModuleS.f l1 t475).bind fun t476 => (if t476 < 0 then (some true) else ((laws_toProfS.f k l0).bind fun t477 => ((laws_toModuleS.f k l1).bind fun t480 => ((spec_ChainCost.f k t477 t480 a2).bind fun bt483 => ((laws_toProfS.f k l0).bind fun t487 => ((laws_toModuleS.f k l1).bind fun t490 => ((impl_ChainCost.f k t487 t490 a2).bind fun bt493 => ((laws_eqVec.f bt493.1 bt493.2.1 bt493.2.2 bt483.1 bt483.2.1 bt483.2.2).bind fun t497 => (if t497 = true then ((laws_toProfS.f k l0).bind fun t498 => ((laws_eqProfS.f k t487 t498).bind fun t501 => (if t501 = true then ((laws_toModuleS.f k l1).bind fun t502 => ((laws_eqModuleS.f k t490 t502).bind fun t505 => (if t505 = true then (some true) else (none)))) else (none)))) else (none))))))))))))
theorem laws_FnExactChainCost.mono : ∀ a0 a1 a2 k, LeO (laws_FnExactChainCost.f k a0 a1 a2) (laws_FnExactChainCost.f (k + 1) a0 a1 a2) := by
 intro a0 a1 a2 k
 unfold laws_FnExactChainCost.f
 repeat' first
   | (with_reducible exact impl_ChainCost.mono _ _ _ _)
   | (with_reducible exact laws_eqModuleS.mono _ _ _)
   | (with_reducible exact laws_eqProfS.mono _ _ _)
   | (with_reducible exact laws_toModuleS.mono _ _)
   | (with_reducible exact laws_toProfS.mono _ _)
   | (with_reducible exact spec_ChainCost.mono _ _ _ _)
   | (with_reducible exact LeO.refl _)
   | (with_reducible exact LeO.none _)
   | (with_reducible refine LeO.ite ?_ ?_)
   | (with_reducible refine LeO.bind ?_ (fun _ => ?_))
   | exact impl_ChainCost.mono _ _ _ _
   | exact laws_eqModuleS.mono _ _ _
   | exact laws_eqProfS.mono _ _ _
   | exact laws_toModuleS.mono _ _
   | exact laws_toProfS.mono _ _
   | exact spec_ChainCost.mono _ _ _ _
   | exact LeO.none _
   | refine LeO.ite ?_ ?_
   | refine LeO.bind ?_ (fun _ => ?_)
set_option maxHeartbeats 8000000 in
set_option maxRecDepth 100000 in
theorem laws_FnExactChainCost.calls (k : Nat) (A0 : Option Addr) (c0 : Nat) (l0 : List (S81)) (A1 : Option Addr) (c1 : Nat) (l1 : List (S35)) (a2 : Int) (r : Bool) (w : World) (hr0 : Kd.C k81 w A0 l0.length l0) (hc0 : l0.length ≤ c0) (hr1 : Kd.C k35 w A1 l1.length l1) (hc1 : l1.length ≤ c1) (h : laws_FnExactChainCost.f k l0 l1 a2 = some r) :
  Calls Try.prog 6 #[.slice A0 l0.length c0, .slice A1 l1.length c1, .int .i64 a2] w fun e w' => e = .returned (.bool r) ∧ Below w.heap.size w w' := by
 have hu51 := Try.underlying51
 have HR0 := Gv.a0 hr0
 have HC0 := Gv.a0 hc0
 clear hr0 hc0
 have HR1 := Gv.a0 hr1
 have HC1 := Gv.a0 hc1
 clear hr1 hc1
 have HB := Gv.a0 (Below.refl w.heap.size w)
 have H : ((laws_szProfS.f l0 1048576).bind fun t475 => (if t475 < 0 then (some true) else ((laws_szModuleS.f l1 t475).bind fun t476 => (if t476 < 0 then (some true) else ((laws_toProfS.f k l0).bind fun t477 => ((laws_toModuleS.f k l1).bind fun t480 => ((spec_ChainCost.f k t477 t480 a2).bind fun bt483 => ((laws_toProfS.f k l0).bind fun t487 => ((laws_toModuleS.f k l1).bind fun t490 => ((impl_ChainCost.f k t487 t490 a2).bind fun bt493 => ((laws_eqVec.f bt493.1 bt493.2.1 bt493.2.2 bt483.1 bt483.2.1 bt483.2.2).bind fun t497 => (if t497 = true then ((laws_toProfS.f k l0).bind fun t498 => ((laws_eqProfS.f k t487 t498).bind fun t501 => (if t501 = true then ((laws_toModuleS.f k l1).bind fun t502 => ((laws_eqModuleS.f k t490 t502).bind fun t505 => (if t505 = true then (some true) else (none)))) else (none)))) else (none))))))))))))) = some r := h
 clear h
 replace H := Option.bind_eq_some_iff.mp H
 obtain ⟨t475, A40, H⟩ := H
 replace H : (if t475 < 0 then (some true) else ((laws_szModuleS.f l1 t475).bind fun t476 => (if t476 < 0 then (some true) else ((laws_toProfS.f k l0).bind fun t477 => ((laws_toModuleS.f k l1).bind fun t480 => ((spec_ChainCost.f k t477 t480 a2).bind fun bt483 => ((laws_toProfS.f k l0).bind fun t487 => ((laws_toModuleS.f k l1).bind fun t490 => ((impl_ChainCost.f k t487 t490 a2).bind fun bt493 => ((laws_eqVec.f bt493.1 bt493.2.1 bt493.2.2 bt483.1 bt483.2.1 bt483.2.2).bind fun t497 => (if t497 = true then ((laws_toProfS.f k l0).bind fun t498 => ((laws_eqProfS.f k t487 t498).bind fun t501 => (if t501 = true then ((laws_toModuleS.f k l1).bind fun t502 => ((laws_eqModuleS.f k t490 t502).bind fun t505 => (if t505 = true then (some true) else (none)))) else (none)))) else (none)))))))))))) = some r := H
 have A4 := Gv.a0 A40
 clear A40
 by_cases c5 : t475 < 0
 ·rw [if_pos c5] at H
  have c5b0 : decide (t475 < 0) = true := decide_eq_true c5
  clear c5
  obtain rfl := Option.some.inj H
  go_enter Try.func6, Try.ntmps6
  go_wp2_with (first | ((with_reducible refine gate_callee (f := 21) rfl ?_); refine goesL_ (some 14) rfl rfl Try.func21 (by kernel_rfl) rfl #[.slice A0 l0.length c0, .int .i64 1048576] rfl Gv.lm ?_; (with_reducible refine (laws_szProfS.calls _ _ l0 1048576 t475 _ ?side1 ?side2 A4.out).mono ?_); (case side1 => repeat (first | exact HR0.out | (with_reducible refine Kd.C_alloc ?_ _) | (with_reducible refine Kd.C_drewN ?_ _) | (with_reducible refine Kd.C_drew ?_))); (case side2 => exact HC0.out); rintro e w' ⟨rfl, ⟨nd, rfl⟩⟩; refine ⟨_, rfl, ?_⟩))
  go_ret
  exact ⟨Gv.rt, Gv.bw⟩
 ·rw [if_neg c5] at H
  have c5b0 : decide (t475 < 0) = false := decide_eq_false c5
  clear c5
  replace H := Option.bind_eq_some_iff.mp H
  obtain ⟨t476, A60, H⟩ := H
  replace H : (if t476 < 0 then (some true) else ((laws_toProfS.f k l0).bind fun t477 => ((laws_toModuleS.f k l1).bind fun t480 => ((spec_ChainCost.f k t477 t480 a2).bind fun bt483 => ((laws_toProfS.f k l0).bind fun t487 => ((laws_toModuleS.f k l1).bind fun t490 => ((impl_ChainCost.f k t487 t490 a2).bind fun bt493 => ((laws_eqVec.f bt493.1 bt493.2.1 bt493.2.2 bt483.1 bt483.2.1 bt483.2.2).bind fun t497 => (if t497 = true then ((laws_toProfS.f k l0).bind fun t498 => ((laws_eqProfS.f k t487 t498).bind fun t501 => (if t501 = true then ((laws_toModuleS.f k l1).bind fun t502 => ((laws_eqModuleS.f k t490 t502).bind fun t505 => (if t505 = true then (some true) else (none)))) else (none)))) else (none)))))))))) = some r := H
  have A6 := Gv.a0 A60
  clear A60
  by_cases c7 : t476 < 0
  ·rw [if_pos c7] at H
   have c7b0 : decide (t476 < 0) = true := decide_eq_true c7
   clear c7
   obtain rfl := Option.some.inj H
   go_enter Try.func6, Try.ntmps6
   go_wp2_with (first | ((with_reducible refine gate_callee (f := 21) rfl ?_); refine goesL_ (some 14) rfl rfl Try.func21 (by kernel_rfl) rfl #[.slice A0 l0.length c0, .int .i64 1048576] rfl Gv.lm ?_; (with_reducible refine (laws_szProfS.calls _ _ l0 1048576 t475 _ ?side1 ?side2 A4.out).mono ?_); (case side1 => repeat (first | exact HR0.out | (with_reducible refine Kd.C_alloc ?_ _) | (with_reducible refine Kd.C_drewN ?_ _) | (with_reducible refine Kd.C_drew ?_))); (case side2 => exact HC0.out); rintro e w' ⟨rfl, ⟨nd, rfl⟩⟩; refine ⟨_, rfl, ?_⟩) | ((with_reducible refine gate_callee (f := 16) rfl ?_); refine goesL_ (some 19) rfl rfl Try.func16 (by kernel_rfl) rfl #[.slice A1 l1.length c1, .int .i64 t475] rfl Gv.lm ?_; (with_reducible refine (laws_szModuleS.calls _ _ l1 t475 t476 _ ?side1 ?side2 A6.out).mono ?_); (case side1 => repeat (first | exact HR1.out | (with_reducible refine Kd.C_alloc ?_ _) | (with_reducible refine Kd.C_drewN ?_ _) | (with_reducible refine Kd.C_drew ?_))); (case side2 => exact HC1.out); rintro e w' ⟨rfl, ⟨nd, rfl⟩⟩; refine ⟨_, rfl, ?_⟩))
   go_ret
   exact ⟨Gv.rt, Gv.bw⟩
  ·rw [if_neg c7] at H
   have c7b0 : decide (t476 < 0) = false := decide_eq_false c7
   clear c7
   replace H := Option.bind_eq_some_iff.mp H
   obtain ⟨t477, A80, H⟩ := H
   replace H : ((laws_toModuleS.f k l1).bind fun t480 => ((spec_ChainCost.f k t477 t480 a2).bind fun bt483 => ((laws_toProfS.f k l0).bind fun t487 => ((laws_toModuleS.f k l1).bind fun t490 => ((impl_ChainCost.f k t487 t490 a2).bind fun bt493 => ((laws_eqVec.f bt493.1 bt493.2.1 bt493.2.2 bt483.1 bt483.2.1 bt483.2.2).bind fun t497 => (if t497 = true then ((laws_toProfS.f k l0).bind fun t498 => ((laws_eqProfS.f k t487 t498).bind fun t501 => (if t501 = true then ((laws_toModuleS.f k l1).bind fun t502 => ((laws_eqModuleS.f k t490 t502).bind fun t505 => (if t505 = true then (some true) else (none)))) else (none)))) else (none)))))))) = some r := H
   have A8 := Gv.a0 A80
   clear A80
   replace H := Option.bind_eq_some_iff.mp H
   obtain ⟨t480, A90, H⟩ := H
   replace H : ((spec_ChainCost.f k t477 t480 a2).bind fun bt483 => ((laws_toProfS.f k l0).bind fun t487 => ((laws_toModuleS.f k l1).bind fun t490 => ((impl_ChainCost.f k t487 t490 a2).bind fun bt493 => ((laws_eqVec.f bt493.1 bt493.2.1 bt493.2.2 bt483.1 bt483.2.1 bt483.2.2).bind fun t497 => (if t497 = true then ((laws_toProfS.f k l0).bind fun t498 => ((laws_eqProfS.f k t487 t498).bind fun t501 => (if t501 = true then ((laws_toModuleS.f k l1).bind fun t502 => ((laws_eqModuleS.f k t490 t502).bind fun t505 => (if t505 = true then (some true) else (none)))) else (none)))) else (none))))))) = some r := H
   have A9 := Gv.a0 A90
   clear A90
   replace H := Option.bind_eq_some_iff.mp H
   obtain ⟨⟨t483, t484, t485⟩, A100, H⟩ := H
   replace H : ((laws_toProfS.f k l0).bind fun t487 => ((laws_toModuleS.f k l1).bind fun t490 => ((impl_ChainCost.f k t487 t490 a2).bind fun bt493 => ((laws_eqVec.f bt493.1 bt493.2.1 bt493.2.2 t483 t484 t485).bind fun t497 => (if t497 = true then ((laws_toProfS.f k l0).bind fun t498 => ((laws_eqProfS.f k t487 t498).bind fun t501 => (if t501 = true then ((laws_toModuleS.f k l1).bind fun t502 => ((laws_eqModuleS.f k t490 t502).bind fun t505 => (if t505 = true then (some true) else (none)))) else (none)))) else (none)))))) = some r := H
   have A10 := Gv.a0 A100
   clear A100
   replace H := Option.bind_eq_some_iff.mp H
   obtain ⟨t487, A110, H⟩ := H
   replace H : ((laws_toModuleS.f k l1).bind fun t490 => ((impl_ChainCost.f k t487 t490 a2).bind fun bt493 => ((laws_eqVec.f bt493.1 bt493.2.1 bt493.2.2 t483 t484 t485).bind fun t497 => (if t497 = true then ((laws_toProfS.f k l0).bind fun t498 => ((laws_eqProfS.f k t487 t498).bind fun t501 => (if t501 = true then ((laws_toModuleS.f k l1).bind fun t502 => ((laws_eqModuleS.f k t490 t502).bind fun t505 => (if t505 = true then (some true) else (none)))) else (none)))) else (none))))) = some r := H
   have A11 := Gv.a0 A110
   clear A110
   replace H := Option.bind_eq_some_iff.mp H
   obtain ⟨t490, A120, H⟩ := H
   replace H : ((impl_ChainCost.f k t487 t490 a2).bind fun bt493 => ((laws_eqVec.f bt493.1 bt493.2.1 bt493.2.2 t483 t484 t485).bind fun t497 => (if t497 = true then ((laws_toProfS.f k l0).bind fun t498 => ((laws_eqProfS.f k t487 t498).bind fun t501 => (if t501 = true then ((laws_toModuleS.f k l1).bind fun t502 => ((laws_eqModuleS.f k t490 t502).bind fun t505 => (if t505 = true then (some true) else (none)))) else (none)))) else (none)))) = some r := H
   have A12 := Gv.a0 A120
   clear A120
   replace H := Option.bind_eq_some_iff.mp H
   obtain ⟨⟨t493, t494, t495⟩, A130, H⟩ := H
   replace H : ((laws_eqVec.f t493 t494 t495 t483 t484 t485).bind fun t497 => (if t497 = true then ((laws_toProfS.f k l0).bind fun t498 => ((laws_eqProfS.f k t487 t498).bind fun t501 => (if t501 = true then ((laws_toModuleS.f k l1).bind fun t502 => ((laws_eqModuleS.f k t490 t502).bind fun t505 => (if t505 = true then (some true) else (none)))) else (none)))) else (none))) = some r := H
   have A13 := Gv.a0 A130
   clear A130
   replace H := Option.bind_eq_some_iff.mp H
   obtain ⟨t497, A140, H⟩ := H
   replace H : (if t497 = true then ((laws_toProfS.f k l0).bind fun t498 => ((laws_eqProfS.f k t487 t498).bind fun t501 => (if t501 = true then ((laws_toModuleS.f k l1).bind fun t502 => ((laws_eqModuleS.f k t490 t502).bind fun t505 => (if t505 = true then (some true) else (none)))) else (none)))) else (none)) = some r := H
   have A14 := Gv.a0 A140
   clear A140
   by_cases c15 : t497 = true
   ·subst c15
    have H1 : ((laws_toProfS.f k l0).bind fun t498 => ((laws_eqProfS.f k t487 t498).bind fun t501 => (if t501 = true then ((laws_toModuleS.f k l1).bind fun t502 => ((laws_eqModuleS.f k t490 t502).bind fun t505 => (if t505 = true then (some true) else (none)))) else (none)))) = some r := by rw [if_pos rfl] at H; exact H
    clear H
    have H := H1
    clear H1
    replace H := Option.bind_eq_some_iff.mp H
    obtain ⟨t498, A160, H⟩ := H
    replace H : ((laws_eqProfS.f k t487 t498).bind fun t501 => (if t501 = true then ((laws_toModuleS.f k l1).bind fun t502 => ((laws_eqModuleS.f k t490 t502).bind fun t505 => (if t505 = true then (some true) else (none)))) else (none))) = some r := H
    have A16 := Gv.a0 A160
    clear A160
    replace H := Option.bind_eq_some_iff.mp H
    obtain ⟨t501, A170, H⟩ := H
    replace H : (if t501 = true then ((laws_toModuleS.f k l1).bind fun t502 => ((laws_eqModuleS.f k t490 t502).bind fun t505 => (if t505 = true then (some true) else (none)))) else (none)) = some r := H
    have A17 := Gv.a0 A170
    clear A170
    by_cases c18 : t501 = true
    ·subst c18
     have H1 : ((laws_toModuleS.f k l1).bind fun t502 => ((laws_eqModuleS.f k t490 t502).bind fun t505 => (if t505 = true then (some true) else (none)))) = some r := by rw [if_pos rfl] at H; exact H
     clear H
     have H := H1
     clear H1
     replace H := Option.bind_eq_some_iff.mp H
     obtain ⟨t502, A190, H⟩ := H
     replace H : ((laws_eqModuleS.f k t490 t502).bind fun t505 => (if t505 = true then (some true) else (none))) = some r := H
     have A19 := Gv.a0 A190
     clear A190
     replace H := Option.bind_eq_some_iff.mp H
     obtain ⟨t505, A200, H⟩ := H
     replace H : (if t505 = true then (some true) else (none)) = some r := H
     have A20 := Gv.a0 A200
     clear A200
     by_cases c21 : t505 = true
     ·subst c21
      have H1 : (some true) = some r := by rw [if_pos rfl] at H; exact H
      clear H
      have H := H1
      clear H1
      obtain rfl := Option.some.inj H
      go_enter Try.func6, Try.ntmps6
      go_wp2_with (first | ((with_reducible refine gate_callee (f := 21) rfl ?_); refine goesL_ (some 14) rfl rfl Try.func21 (by kernel_rfl) rfl #[.slice A0 l0.length c0, .int .i64 1048576] rfl Gv.lm ?_; (with_reducible refine (laws_szProfS.calls _ _ l0 1048576 t475 _ ?side1 ?side2 A4.out).mono ?_); (case side1 => repeat (first | exact HR0.out | (with_reducible refine Kd.C_alloc ?_ _) | (with_reducible refine Kd.C_drewN ?_ _) | (with_reducible refine Kd.C_drew ?_))); (case side2 => exact HC0.out); rintro e w' ⟨rfl, ⟨nd, rfl⟩⟩; refine ⟨_, rfl, ?_⟩) | ((with_reducible refine gate_callee (f := 16) rfl ?_); refine goesL_ (some 19) rfl rfl Try.func16 (by kernel_rfl) rfl #[.slice A1 l1.length c1, .int .i64 t475] rfl Gv.lm ?_; (with_reducible refine (laws_szModuleS.calls _ _ l1 t475 t476 _ ?side1 ?side2 A6.out).mono ?_); (case side1 => repeat (first | exact HR1.out | (with_reducible refine Kd.C_alloc ?_ _) | (with_reducible refine Kd.C_drewN ?_ _) | (with_reducible refine Kd.C_drew ?_))); (case side2 => exact HC1.out); rintro e w' ⟨rfl, ⟨nd, rfl⟩⟩; refine ⟨_, rfl, ?_⟩) | ((with_reducible refine gate_callee (f := 23) rfl ?_); refine goesL_ (some 23) rfl rfl Try.func23 (by kernel_rfl) rfl #[.slice A0 l0.length c0] rfl Gv.lm ?_; (with_reducible refine (laws_toProfS.calls k _ _ l0 t477 _ ?side1 ?side2 A8.out).mono ?_); (case side1 => repeat (first | exact HR0.out | (with_reducible refine Kd.C_alloc ?_ _) | (with_reducible refine Kd.C_drewN ?_ _) | (with_reducible refine Kd.C_drew ?_))); (case side2 => exact HC0.out); rintro e w22 ⟨v478, rfl, ho0, hb⟩; refine ⟨_, rfl, ?_⟩; have n0_ := Gv.a0 (Kd.R_lower ho0 (below_size Gv.bw)); have n1_ := Gv.a0 (below_step Gv.bw hb); clear HB; have HO479 := n0_; have HB := n1_; clear n0_ n1_; (try clear hb); (try clear hb2); (try clear hk); (try clear hi); (try clear ho0)) | ((with_reducible refine gate_callee (f := 18) rfl ?_); refine goesL_ (some 25) rfl rfl Try.func18 (by kernel_rfl) rfl #[.slice A1 l1.length c1] rfl Gv.lm ?_; (with_reducible refine (laws_toModuleS.calls k _ _ l1 t480 _ ?side1 ?side2 A9.out).mono ?_); (case side1 => repeat (first | exact (Kd.C_below HR1.out HB.out) | (with_reducible refine Kd.C_alloc ?_ _) | (with_reducible refine Kd.C_drewN ?_ _) | (with_reducible refine Kd.C_drew ?_))); (case side2 => exact HC1.out); rintro e w23 ⟨v481, rfl, ho0, hb⟩; refine ⟨_, rfl, ?_⟩; have n0_ := Gv.a0 (Kd.R_below (Gv.kr HO479.out) hb); have n1_ := Gv.a0 (Kd.R_lower ho0 (below_size Gv.bw)); have n2_ := Gv.a0 (below_step Gv.bw hb); clear HO479; clear HB; have HO479 := n0_; have HO482 := n1_; have HB := n2_; clear n0_ n1_ n2_; (try clear hb); (try clear hb2); (try clear hk); (try clear hi); (try clear ho0); obtain ⟨Ao24, co24, eo24⟩ := Kd.R_slice HO479.out; subst eo24; obtain ⟨Ao25, co25, eo25⟩ := Kd.R_slice HO482.out; subst eo25) | ((with_reducible refine gate_callee (f := 22) rfl ?_); refine goesL_ (some 27) rfl rfl Try.func22 (by kernel_rfl) rfl #[.slice Ao24 t477.length co24, .slice Ao25 t480.length co25, .int .i64 a2] rfl Gv.lm ?_; (with_reducible refine (spec_ChainCost.calls k _ _ t477 _ _ t480 a2 t483 t484 t485 _ ?side1 ?side2 ?side3 ?side4 A10.out).mono ?_); (case side1 => repeat (first | exact (Kd.R_reads' HO479.out).2.2 | (with_reducible refine Kd.C_alloc ?_ _) | (with_reducible refine Kd.C_drewN ?_ _) | (with_reducible refine Kd.C_drew ?_))); (case side2 => exact (Kd.R_reads' HO479.out).2.1); (case side3 => repeat (first | exact (Kd.R_reads' HO482.out).2.2 | (with_reducible refine Kd.C_alloc ?_ _) | (with_reducible refine Kd.C_drewN ?_ _) | (with_reducible refine Kd.C_drew ?_))); (case side4 => exact (Kd.R_reads' HO482.out).2.1); rintro e w26 ⟨rfl, hb⟩; refine ⟨_, rfl, ?_⟩; have n0_ := Gv.a0 (Kd.R_below (Gv.kr HO479.out) hb); have n1_ := Gv.a0 (Kd.R_below (Gv.kr HO482.out) hb); have n2_ := Gv.a0 (below_step Gv.bw hb); clear HO479; clear HO482; clear HB; have HO479 := n0_; have HO482 := n1_; have HB := n2_; clear n0_ n1_ n2_; (try clear hb); (try clear hb2); (try clear hk); (try clear hi)) | ((with_reducible refine gate_dst (N := 8) rfl ?_); refine box_event ?hg (N := 8) ?hd (cs := #[.int .i64 0, .int .i64 0, .int .i64 0]) (t := 51) ?hr ?_; (case hd => rfl); (case hg => rfl); (case hr => first | (go_simp; done) | (go_simp; rfl)); intro gb486 hg w27 hbox hb; have n0_ := Gv.a0 (Kd.R_below (Gv.kr HO479.out) hb); have n1_ := Gv.a0 (Kd.R_below (Gv.kr HO482.out) hb); have n2_ := Gv.a0 (below_step Gv.bw hb); have n3_ := Gv.a0 (hbox); have n4_ := Gv.a0 ((Gv.ble hg Gv.bw : w.heap.size ≤ gb486)); have n5_ := Gv.a0 ((Gv.ble hg Gv.bw : w.heap.size ≤ gb486)); clear HO479; clear HO482; clear HB; have HO479 := n0_; have HO482 := n1_; have HB := n2_; have BK486 := n3_; have GW486 := n4_; have GE486 := n5_; clear n0_ n1_ n2_ n3_ n4_ n5_; clear hb hbox hg; have hcz28_0 : w27.cell? ⟨gb486, 0, none⟩ = some (.int .i64 0) := (blk_cell BK486.out 0).trans rfl; have hcz28_1 : w27.cell? ⟨gb486, 1, none⟩ = some (.int .i64 0) := (blk_cell BK486.out 1).trans rfl; have hcz28_2 : w27.cell? ⟨gb486, 2, none⟩ = some (.int .i64 0) := (blk_cell BK486.out 2).trans rfl; have hfz28_0 := blk_frozen BK486.out 0; have hfz28_1 := blk_frozen BK486.out 1; have hfz28_2 := blk_frozen BK486.out 2) | ((with_reducible refine gate_callee (f := 23) rfl ?_); refine goesL_ (some 29) rfl rfl Try.func23 (by kernel_rfl) rfl #[.slice A0 l0.length c0] rfl Gv.lm ?_; (with_reducible refine (laws_toProfS.calls k _ _ l0 t487 _ ?side1 ?side2 A11.out).mono ?_); (case side1 => exact Kd.C_below HR0.out Gv.bw); (case side2 => exact HC0.out); rintro e w29 ⟨v488, rfl, ho0, hb⟩; refine ⟨_, rfl, ?_⟩; have n0_ := Gv.a0 (Kd.R_elder' (by (with_reducible repeat (first | apply Kd.R_alloc | apply Kd.R_drewN | apply Kd.R_drew)); exact (Kd.R_mono (Kd.R_far (p := ⟨gb486, 2, none⟩) (Kd.R_far (p := ⟨gb486, 1, none⟩) (Kd.R_far (p := ⟨gb486, 0, none⟩) (Kd.R_types HO479.out BK486.out (by decide)) (fun _ hk => hk.2) (.int .i64 t483)) (fun _ hk => hk.2) (.int .i64 t484)) (fun _ hk => hk.2) (.int .i64 t485)) (fun _ h_ => h_.1))) (Kd.R_base ho0) hb); have n1_ := Gv.a0 (Kd.R_below (by (with_reducible repeat (first | apply Kd.R_alloc | apply Kd.R_drewN | apply Kd.R_drew)); exact (Kd.R_mono (Kd.R_far (p := ⟨gb486, 2, none⟩) (Kd.R_far (p := ⟨gb486, 1, none⟩) (Kd.R_far (p := ⟨gb486, 0, none⟩) (Kd.R_types HO482.out BK486.out (by decide)) (fun _ hk => hk.2) (.int .i64 t483)) (fun _ hk => hk.2) (.int .i64 t484)) (fun _ hk => hk.2) (.int .i64 t485)) (fun _ h_ => h_.1))) hb); have n2_ := Gv.a0 (Kd.R_lower (Kd.R_new' ho0 (Kd.R_lt (by (with_reducible repeat (first | apply Kd.R_alloc | apply Kd.R_drewN | apply Kd.R_drew)); exact (Kd.R_mono (Kd.R_far (p := ⟨gb486, 2, none⟩) (Kd.R_far (p := ⟨gb486, 1, none⟩) (Kd.R_far (p := ⟨gb486, 0, none⟩) (Kd.R_types HO479.out BK486.out (by decide)) (fun _ hk => hk.2) (.int .i64 t483)) (fun _ hk => hk.2) (.int .i64 t484)) (fun _ hk => hk.2) (.int .i64 t485)) (fun _ h_ => h_.1))))) (below_size Gv.bw)); have n3_ := Gv.a0 (blk_below (g := gb486) (o := .cells #[.int .i64 t483, .int .i64 t484, .int .i64 t485] 51 (0, 0)) (by (with_reducible repeat (first | refine blk_drewN ?_ _ | refine blk_drew ?_ | refine blk_alloc ?_ _)); refine blk_put (cs := #[.int .i64 t483, .int .i64 t484, .int .i64 0]) ?_ 2 _ rfl; (with_reducible repeat (first | refine blk_drewN ?_ _ | refine blk_drew ?_ | refine blk_alloc ?_ _)); refine blk_put (cs := #[.int .i64 t483, .int .i64 0, .int .i64 0]) ?_ 1 _ rfl; (with_reducible repeat (first | refine blk_drewN ?_ _ | refine blk_drew ?_ | refine blk_alloc ?_ _)); refine blk_put (cs := #[.int .i64 0, .int .i64 0, .int .i64 0]) ?_ 0 _ rfl; (with_reducible repeat (first | refine blk_drewN ?_ _ | refine blk_drew ?_ | refine blk_alloc ?_ _)); exact BK486.out) hb); have n4_ := Gv.a0 (below_step Gv.bw hb); clear HO479; clear HO482; clear BK486; clear HB; have HO479 := n0_; have HO482 := n1_; have HO489 := n2_; have BK486 := n3_; have HB := n4_; clear n0_ n1_ n2_ n3_ n4_; (try clear hb); (try clear hb2); (try clear hk); (try clear hi); (try clear ho0)) | ((with_reducible refine gate_callee (f := 18) rfl ?_); refine goesL_ (some 31) rfl rfl Try.func18 (by kernel_rfl) rfl #[.slice A1 l1.length c1] rfl Gv.lm ?_; (with_reducible refine (laws_toModuleS.calls k _ _ l1 t490 _ ?side1 ?side2 A12.out).mono ?_); (case side1 => repeat (first | exact (Kd.C_below HR1.out HB.out) | (with_reducible refine Kd.C_alloc ?_ _) | (with_reducible refine Kd.C_drewN ?_ _) | (with_reducible refine Kd.C_drew ?_))); (case side2 => exact HC1.out); rintro e w30 ⟨v491, rfl, ho0, hb⟩; refine ⟨_, rfl, ?_⟩; have n0_ := Gv.a0 (Kd.R_below (Gv.kr HO479.out) hb); have n1_ := Gv.a0 (Kd.R_elder' (Gv.kr HO482.out) (Kd.R_base ho0) hb); have n2_ := Gv.a0 (Kd.R_below (Gv.kr HO489.out) hb); have n3_ := Gv.a0 (Kd.R_lower (Kd.R_new' ho0 (Kd.R_lt (Gv.kr HO482.out))) (below_size Gv.bw)); have n4_ := Gv.a0 (Gv.bb BK486.out hb); have n5_ := Gv.a0 (below_step Gv.bw hb); clear HO479; clear HO482; clear HO489; clear BK486; clear HB; have HO479 := n0_; have HO482 := n1_; have HO489 := n2_; have HO492 := n3_; have BK486 := n4_; have HB := n5_; clear n0_ n1_ n2_ n3_ n4_ n5_; (try clear hb); (try clear hb2); (try clear hk); (try clear hi); (try clear ho0); obtain ⟨Ao31, co31, eo31⟩ := Kd.R_slice HO489.out; subst eo31; obtain ⟨Ao32, co32, eo32⟩ := Kd.R_slice HO492.out; subst eo32) | ((with_reducible refine gate_callee (f := 24) rfl ?_); refine goesL_ (some 35) rfl rfl Try.func24 (by kernel_rfl) rfl #[.slice Ao31 t487.length co31, .slice Ao32 t490.length co32, .int .i64 a2] rfl Gv.lm ?_; (with_reducible refine (impl_ChainCost.calls k _ _ t487 _ _ t490 a2 t493 t494 t495 _ ?side1 ?side2 ?side3 ?side4 A13.out).mono ?_); (case side1 => repeat (first | exact (Kd.R_reads' HO489.out).2.2 | (with_reducible refine Kd.C_alloc ?_ _) | (with_reducible refine Kd.C_drewN ?_ _) | (with_reducible refine Kd.C_drew ?_))); (case side2 => exact (Kd.R_reads' HO489.out).2.1); (case side3 => repeat (first | exact (Kd.R_reads' HO492.out).2.2 | (with_reducible refine Kd.C_alloc ?_ _) | (with_reducible refine Kd.C_drewN ?_ _) | (with_reducible refine Kd.C_drew ?_))); (case side4 => exact (Kd.R_reads' HO492.out).2.1); rintro e w33 ⟨rfl, hb⟩; refine ⟨_, rfl, ?_⟩; have n0_ := Gv.a0 (Kd.R_below (Gv.kr HO479.out) hb); have n1_ := Gv.a0 (Kd.R_below (Gv.kr HO482.out) hb); have n2_ := Gv.a0 (Kd.R_below (Gv.kr HO489.out) hb); have n3_ := Gv.a0 (Kd.R_below (Gv.kr HO492.out) hb); have n4_ := Gv.a0 (Gv.bb BK486.out hb); have n5_ := Gv.a0 (below_step Gv.bw hb); clear HO479; clear HO482; clear HO489; clear HO492; clear BK486; clear HB; have HO479 := n0_; have HO482 := n1_; have HO489 := n2_; have HO492 := n3_; have BK486 := n4_; have HB := n5_; clear n0_ n1_ n2_ n3_ n4_ n5_; (try clear hb); (try clear hb2); (try clear hk); (try clear hi)) | ((with_reducible refine gate_dst (N := 11) rfl ?_); refine box_event ?hg (N := 11) ?hd (cs := #[.int .i64 0, .int .i64 0, .int .i64 0]) (t := 51) ?hr ?_; (case hd => rfl); (case hg => rfl); (case hr => first | (go_simp; done) | (go_simp; rfl)); intro gb496 hg w34 hbox hb; have n0_ := Gv.a0 (Kd.R_below (Gv.kr HO479.out) hb); have n1_ := Gv.a0 (Kd.R_below (Gv.kr HO482.out) hb); have n2_ := Gv.a0 (Kd.R_below (Gv.kr HO489.out) hb); have n3_ := Gv.a0 (Kd.R_below (Gv.kr HO492.out) hb); have n4_ := Gv.a0 (Gv.bb BK486.out hb); have n5_ := Gv.a0 (below_step Gv.bw hb); have n6_ := Gv.a0 (hbox); have n7_ := Gv.a0 ((Gv.ble hg Gv.bw : w.heap.size ≤ gb496)); have n8_ := Gv.a0 ((Gv.ble hg Gv.bw : w.heap.size ≤ gb496)); have n9_ := Gv.a0 ((Gv.nlt hg (Gv.kb BK486.out) : gb486 ≠ gb496)); have n10_ := Gv.a0 ((Gv.ngt hg (Gv.kb BK486.out) : gb496 ≠ gb486)); clear HO479; clear HO482; clear HO489; clear HO492; clear BK486; clear HB; have HO479 := n0_; have HO482 := n1_; have HO489 := n2_; have HO492 := n3_; have BK486 := n4_; have HB := n5_; have BK496 := n6_; have GW496 := n7_; have GE496 := n8_; have NB486_496 := n9_; have NB496_486 := n10_; clear n0_ n1_ n2_ n3_ n4_ n5_ n6_ n7_ n8_ n9_ n10_; clear hb hbox hg; have hnb35 := NB496_486.out; have hnc35 := NB486_496.out; have hcz36_0 : w34.cell? ⟨gb496, 0, none⟩ = some (.int .i64 0) := (blk_cell BK496.out 0).trans rfl; have hcz36_1 : w34.cell? ⟨gb496, 1, none⟩ = some (.int .i64 0) := (blk_cell BK496.out 1).trans rfl; have hcz36_2 : w34.cell? ⟨gb496, 2, none⟩ = some (.int .i64 0) := (blk_cell BK496.out 2).trans rfl; have hfz36_0 := blk_frozen BK496.out 0; have hfz36_1 := blk_frozen BK496.out 1; have hfz36_2 := blk_frozen BK496.out 2; have hcz37_0 : w34.cell? ⟨gb486, 0, none⟩ = some (.int .i64 t483) := (blk_cell BK486.out 0).trans rfl; have hcz37_1 : w34.cell? ⟨gb486, 1, none⟩ = some (.int .i64 t484) := (blk_cell BK486.out 1).trans rfl; have hcz37_2 : w34.cell? ⟨gb486, 2, none⟩ = some (.int .i64 t485) := (blk_cell BK486.out 2).trans rfl; have hfz37_0 := blk_frozen BK486.out 0; have hfz37_1 := blk_frozen BK486.out 1; have hfz37_2 := blk_frozen BK486.out 2) | ((with_reducible refine gate_callee (f := 25) rfl ?_); refine goesL_ (some 38) rfl rfl Try.func25 (by kernel_rfl) rfl #[.agg #[.int .i64 t493, .int .i64 t494, .int .i64 t495], .agg #[.int .i64 t483, .int .i64 t484, .int .i64 t485]] rfl Gv.lm ?_; (with_reducible refine (laws_eqVec.calls t493 t494 t495 t483 t484 t485 true _ A14.out).mono ?_); rintro e w38 ⟨rfl, hb⟩; refine ⟨_, rfl, ?_⟩; have n0_ := Gv.a0 (Kd.R_below (by (with_reducible repeat (first | apply Kd.R_alloc | apply Kd.R_drewN | apply Kd.R_drew)); exact (Kd.R_mono (Kd.R_far (p := ⟨gb496, 2, none⟩) (Kd.R_far (p := ⟨gb496, 1, none⟩) (Kd.R_far (p := ⟨gb496, 0, none⟩) (Kd.R_types HO479.out BK496.out (by decide)) (fun _ hk => hk.2) (.int .i64 t493)) (fun _ hk => hk.2) (.int .i64 t494)) (fun _ hk => hk.2) (.int .i64 t495)) (fun _ h_ => h_.1))) hb); have n1_ := Gv.a0 (Kd.R_below (by (with_reducible repeat (first | apply Kd.R_alloc | apply Kd.R_drewN | apply Kd.R_drew)); exact (Kd.R_mono (Kd.R_far (p := ⟨gb496, 2, none⟩) (Kd.R_far (p := ⟨gb496, 1, none⟩) (Kd.R_far (p := ⟨gb496, 0, none⟩) (Kd.R_types HO482.out BK496.out (by decide)) (fun _ hk => hk.2) (.int .i64 t493)) (fun _ hk => hk.2) (.int .i64 t494)) (fun _ hk => hk.2) (.int .i64 t495)) (fun _ h_ => h_.1))) hb); have n2_ := Gv.a0 (Kd.R_below (by (with_reducible repeat (first | apply Kd.R_alloc | apply Kd.R_drewN | apply Kd.R_drew)); exact (Kd.R_mono (Kd.R_far (p := ⟨gb496, 2, none⟩) (Kd.R_far (p := ⟨gb496, 1, none⟩) (Kd.R_far (p := ⟨gb496, 0, none⟩) (Kd.R_types HO489.out BK496.out (by decide)) (fun _ hk => hk.2) (.int .i64 t493)) (fun _ hk => hk.2) (.int .i64 t494)) (fun _ hk => hk.2) (.int .i64 t495)) (fun _ h_ => h_.1))) hb); have n3_ := Gv.a0 (Kd.R_below (by (with_reducible repeat (first | apply Kd.R_alloc | apply Kd.R_drewN | apply Kd.R_drew)); exact (Kd.R_mono (Kd.R_far (p := ⟨gb496, 2, none⟩) (Kd.R_far (p := ⟨gb496, 1, none⟩) (Kd.R_far (p := ⟨gb496, 0, none⟩) (Kd.R_types HO492.out BK496.out (by decide)) (fun _ hk => hk.2) (.int .i64 t493)) (fun _ hk => hk.2) (.int .i64 t494)) (fun _ hk => hk.2) (.int .i64 t495)) (fun _ h_ => h_.1))) hb); have n4_ := Gv.a0 (blk_below (g := gb486) (o := .cells #[.int .i64 t483, .int .i64 t484, .int .i64 t485] 51 (0, 0)) Gv.bkf hb); have n5_ := Gv.a0 (blk_below (g := gb496) (o := .cells #[.int .i64 t493, .int .i64 t494, .int .i64 t495] 51 (0, 0)) (by (with_reducible repeat (first | refine blk_drewN ?_ _ | refine blk_drew ?_ | refine blk_alloc ?_ _)); refine blk_put (cs := #[.int .i64 t493, .int .i64 t494, .int .i64 0]) ?_ 2 _ rfl; (with_reducible repeat (first | refine blk_drewN ?_ _ | refine blk_drew ?_ | refine blk_alloc ?_ _)); refine blk_put (cs := #[.int .i64 t493, .int .i64 0, .int .i64 0]) ?_ 1 _ rfl; (with_reducible repeat (first | refine blk_drewN ?_ _ | refine blk_drew ?_ | refine blk_alloc ?_ _)); refine blk_put (cs := #[.int .i64 0, .int .i64 0, .int .i64 0]) ?_ 0 _ rfl; (with_reducible repeat (first | refine blk_drewN ?_ _ | refine blk_drew ?_ | refine blk_alloc ?_ _)); exact BK496.out) hb); have n6_ := Gv.a0 (below_step Gv.bw hb); clear HO479; clear HO482; clear HO489; clear HO492; clear BK486; clear BK496; clear HB; have HO479 := n0_; have HO482 := n1_; have HO489 := n2_; have HO492 := n3_; have BK486 := n4_; have BK496 := n5_; have HB := n6_; clear n0_ n1_ n2_ n3_ n4_ n5_ n6_; (try clear hb); (try clear hb2); (try clear hk); (try clear hi)) | ((with_reducible refine gate_callee (f := 23) rfl ?_); refine goesL_ (some 42) rfl rfl Try.func23 (by kernel_rfl) rfl #[.slice A0 l0.length c0] rfl Gv.lm ?_; (with_reducible refine (laws_toProfS.calls k _ _ l0 t498 _ ?side1 ?side2 A16.out).mono ?_); (case side1 => repeat (first | exact (Kd.C_below HR0.out HB.out) | (with_reducible refine Kd.C_alloc ?_ _) | (with_reducible refine Kd.C_drewN ?_ _) | (with_reducible refine Kd.C_drew ?_))); (case side2 => exact HC0.out); rintro e w39 ⟨v499, rfl, ho0, hb⟩; refine ⟨_, rfl, ?_⟩; have n0_ := Gv.a0 (Kd.R_elder' (Gv.kr HO479.out) (Kd.R_base ho0) hb); have n1_ := Gv.a0 (Kd.R_below (Gv.kr HO482.out) hb); have n2_ := Gv.a0 (Kd.R_elder' (Gv.kr HO489.out) (Kd.R_base ho0) hb); have n3_ := Gv.a0 (Kd.R_below (Gv.kr HO492.out) hb); have n4_ := Gv.a0 (Kd.R_lower (Kd.R_new' (Kd.R_new' ho0 (Kd.R_lt (Gv.kr HO479.out))) (Kd.R_lt (Gv.kr HO489.out))) (below_size Gv.bw)); have n5_ := Gv.a0 (Gv.bb BK486.out hb); have n6_ := Gv.a0 (Gv.bb BK496.out hb); have n7_ := Gv.a0 (below_step Gv.bw hb); clear HO479; clear HO482; clear HO489; clear HO492; clear BK486; clear BK496; clear HB; have HO479 := n0_; have HO482 := n1_; have HO489 := n2_; have HO492 := n3_; have HO500 := n4_; have BK486 := n5_; have BK496 := n6_; have HB := n7_; clear n0_ n1_ n2_ n3_ n4_ n5_ n6_ n7_; (try clear hb); (try clear hb2); (try clear hk); (try clear hi); (try clear ho0); obtain ⟨Ao40, co40, eo40⟩ := Kd.R_slice HO500.out; subst eo40) | ((with_reducible refine gate_callee (f := 26) rfl ?_); refine goesL_ (some 43) rfl rfl Try.func26 (by kernel_rfl) rfl #[.slice Ao31 t487.length co31, .slice Ao40 t498.length co40] rfl Gv.lm ?_; (with_reducible refine (laws_eqProfS.calls k _ _ t487 _ _ t498 true _ ?side1 ?side2 ?side3 ?side4 A17.out).mono ?_); (case side1 => repeat (first | exact (Kd.R_reads' HO489.out).2.2 | (with_reducible refine Kd.C_alloc ?_ _) | (with_reducible refine Kd.C_drewN ?_ _) | (with_reducible refine Kd.C_drew ?_))); (case side2 => exact (Kd.R_reads' HO489.out).2.1); (case side3 => repeat (first | exact (Kd.R_reads' HO500.out).2.2 | (with_reducible refine Kd.C_alloc ?_ _) | (with_reducible refine Kd.C_drewN ?_ _) | (with_reducible refine Kd.C_drew ?_))); (case side4 => exact (Kd.R_reads' HO500.out).2.1); rintro e w41 ⟨rfl, hb⟩; refine ⟨_, rfl, ?_⟩; have n0_ := Gv.a0 (Kd.R_below (Gv.kr HO479.out) hb); have n1_ := Gv.a0 (Kd.R_below (Gv.kr HO482.out) hb); have n2_ := Gv.a0 (Kd.R_below (Gv.kr HO489.out) hb); have n3_ := Gv.a0 (Kd.R_below (Gv.kr HO492.out) hb); have n4_ := Gv.a0 (Kd.R_below (Gv.kr HO500.out) hb); have n5_ := Gv.a0 (Gv.bb BK486.out hb); have n6_ := Gv.a0 (Gv.bb BK496.out hb); have n7_ := Gv.a0 (below_step Gv.bw hb); clear HO479; clear HO482; clear HO489; clear HO492; clear HO500; clear BK486; clear BK496; clear HB; have HO479 := n0_; have HO482 := n1_; have HO489 := n2_; have HO492 := n3_; have HO500 := n4_; have BK486 := n5_; have BK496 := n6_; have HB := n7_; clear n0_ n1_ n2_ n3_ n4_ n5_ n6_ n7_; (try clear hb); (try clear hb2); (try clear hk); (try clear hi)) | ((with_reducible refine gate_callee (f := 18) rfl ?_); refine goesL_ (some 47) rfl rfl Try.func18 (by kernel_rfl) rfl #[.slice A1 l1.length c1] rfl Gv.lm ?_; (with_reducible refine (laws_toModuleS.calls k _ _ l1 t502 _ ?side1 ?side2 A19.out).mono ?_); (case side1 => repeat (first | exact (Kd.C_below HR1.out HB.out) | (with_reducible refine Kd.C_alloc ?_ _) | (with_reducible refine Kd.C_drewN ?_ _) | (with_reducible refine Kd.C_drew ?_))); (case side2 => exact HC1.out); rintro e w42 ⟨v503, rfl, ho0, hb⟩; refine ⟨_, rfl, ?_⟩; have n0_ := Gv.a0 (Kd.R_below (Gv.kr HO479.out) hb); have n1_ := Gv.a0 (Kd.R_elder' (Gv.kr HO482.out) (Kd.R_base ho0) hb); have n2_ := Gv.a0 (Kd.R_below (Gv.kr HO489.out) hb); have n3_ := Gv.a0 (Kd.R_elder' (Gv.kr HO492.out) (Kd.R_base ho0) hb); have n4_ := Gv.a0 (Kd.R_below (Gv.kr HO500.out) hb); have n5_ := Gv.a0 (Kd.R_lower (Kd.R_new' (Kd.R_new' ho0 (Kd.R_lt (Gv.kr HO482.out))) (Kd.R_lt (Gv.kr HO492.out))) (below_size Gv.bw)); have n6_ := Gv.a0 (Gv.bb BK486.out hb); have n7_ := Gv.a0 (Gv.bb BK496.out hb); have n8_ := Gv.a0 (below_step Gv.bw hb); clear HO479; clear HO482; clear HO489; clear HO492; clear HO500; clear BK486; clear BK496; clear HB; have HO479 := n0_; have HO482 := n1_; have HO489 := n2_; have HO492 := n3_; have HO500 := n4_; have HO504 := n5_; have BK486 := n6_; have BK496 := n7_; have HB := n8_; clear n0_ n1_ n2_ n3_ n4_ n5_ n6_ n7_ n8_; (try clear hb); (try clear hb2); (try clear hk); (try clear hi); (try clear ho0); obtain ⟨Ao43, co43, eo43⟩ := Kd.R_slice HO504.out; subst eo43) | ((with_reducible refine gate_callee (f := 20) rfl ?_); refine goesL_ (some 48) rfl rfl Try.func20 (by kernel_rfl) rfl #[.slice Ao32 t490.length co32, .slice Ao43 t502.length co43] rfl Gv.lm ?_; (with_reducible refine (laws_eqModuleS.calls k _ _ t490 _ _ t502 true _ ?side1 ?side2 ?side3 ?side4 A20.out).mono ?_); (case side1 => repeat (first | exact (Kd.R_reads' HO492.out).2.2 | (with_reducible refine Kd.C_alloc ?_ _) | (with_reducible refine Kd.C_drewN ?_ _) | (with_reducible refine Kd.C_drew ?_))); (case side2 => exact (Kd.R_reads' HO492.out).2.1); (case side3 => repeat (first | exact (Kd.R_reads' HO504.out).2.2 | (with_reducible refine Kd.C_alloc ?_ _) | (with_reducible refine Kd.C_drewN ?_ _) | (with_reducible refine Kd.C_drew ?_))); (case side4 => exact (Kd.R_reads' HO504.out).2.1); rintro e w44 ⟨rfl, hb⟩; refine ⟨_, rfl, ?_⟩; have n0_ := Gv.a0 (Kd.R_below (Gv.kr HO479.out) hb); have n1_ := Gv.a0 (Kd.R_below (Gv.kr HO482.out) hb); have n2_ := Gv.a0 (Kd.R_below (Gv.kr HO489.out) hb); have n3_ := Gv.a0 (Kd.R_below (Gv.kr HO492.out) hb); have n4_ := Gv.a0 (Kd.R_below (Gv.kr HO500.out) hb); have n5_ := Gv.a0 (Kd.R_below (Gv.kr HO504.out) hb); have n6_ := Gv.a0 (Gv.bb BK486.out hb); have n7_ := Gv.a0 (Gv.bb BK496.out hb); have n8_ := Gv.a0 (below_step Gv.bw hb); clear HO479; clear HO482; clear HO489; clear HO492; clear HO500; clear HO504; clear BK486; clear BK496; clear HB; have HO479 := n0_; have HO482 := n1_; have HO489 := n2_; have HO492 := n3_; have HO500 := n4_; have HO504 := n5_; have BK486 := n6_; have BK496 := n7_; have HB := n8_; clear n0_ n1_ n2_ n3_ n4_ n5_ n6_ n7_ n8_; (try clear hb); (try clear hb2); (try clear hk); (try clear hi)))
      go_ret
      exact ⟨Gv.rt, Gv.bw⟩
     ·replace c21 := Bool.eq_false_iff.mpr c21
      subst c21
      have H1 : (none) = some r := by rw [if_neg (show ¬ (false = true) by decide)] at H; exact H
      clear H
      have H := H1
      clear H1
      exact absurd H (by simp)
    ·replace c18 := Bool.eq_false_iff.mpr c18
     subst c18
     have H1 : (none) = some r := by rw [if_neg (show ¬ (false = true) by decide)] at H; exact H
     clear H
     have H := H1
     clear H1
     exact absurd H (by simp)
   ·replace c15 := Bool.eq_false_iff.mpr c15
    subst c15
    have H1 : (none) = some r := by rw [if_neg (show ¬ (false = true) by decide)] at H; exact H
    clear H
    have H := H1
    clear H1
    exact absurd H (by simp)

end Go.Proofs.Ytbpkmdghloapjaa.PCc
