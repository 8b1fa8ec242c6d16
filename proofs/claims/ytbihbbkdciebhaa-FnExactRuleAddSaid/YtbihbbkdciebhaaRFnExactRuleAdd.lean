/- FnExactRuleAdd: for every input the law returns true; every argument reads as it did. No condition. -/
import Derived.Test.YtbihbbkdciebhaaRows
import Derived.Test.YtbihbbkdciebhaaPRax8
import Derived.Test.YtbihbbkdciebhaaUFnExactRuleAdd
import Derived.Test.YtbihbbkdciebhaaFr
import Derived.WalkKit
import Derived.ProofKit
import Derived.OpenShut
import Derived.ShutString
import Derived.ChangeOld
import Derived.Below
import Derived.SizedLaws
namespace Go.Proofs.Ytbihbbkdciebhaa.fnExactRuleAdd
open Go.ChangeShapes Go.WideShapes Go.ChangeAt Go.RowKit Go.Proofs.YtbihbbkdciebhaaW.PrintWords Go.Proofs.YtbihbbkdciebhaaFr Go.Proofs.Ytbihbbkdciebhaa.PRa
open Go.ChangeMaps (open_string shut_string)
set_option linter.unusedVariables false
theorem own : ownKnob Try.prog.godebug = none := by kernel_rfl
theorem laidOut : laidOutB Try.prog = true := by kernel_rfl
set_option maxRecDepth 100000 in
theorem open0 {H : Type} {enc : TypeId × Value → H} {w : World} {b0 : Nat} {v : Value} {d : DataW H} {p : List MemPlace} (hv : Value.okWide Try.prog w .any b0 22 v) (h : DataW.Trod enc Try.prog w 0 (fun _ => true) true 22 v d p) :
    ∃ (A0 : Option Addr) (c0 : Nat) (l0 : List (S50)), v = .slice A0 l0.length c0 ∧ l0.length ≤ c0 ∧ Kd.C k50 w A0 l0.length l0 ∧ (l0.length ≤ maxLen ∧ ∀ y ∈ l0, (I64 y.f0 ∧ ((I64 y.f1.f0.f0 ∧ I64 y.f1.f0.f1 ∧ I64 y.f1.f0.f2 ∧ I64 y.f1.f0.f3 ∧ I64 y.f1.f0.f4) ∧ I64 y.f1.f1) ∧ ((I64 y.f2.f0.f0 ∧ I64 y.f2.f0.f1 ∧ I64 y.f2.f0.f2 ∧ I64 y.f2.f0.f3 ∧ I64 y.f2.f0.f4) ∧ I64 y.f2.f1) ∧ I64 y.f3 ∧ I64 y.f4 ∧ I64 y.f5 ∧ I64 y.f6 ∧ I64 y.f7 ∧ I64 y.f8 ∧ I64 y.f9 ∧ I64 y.f10)) := by
  obtain ⟨a_, len_, cap_, rfl⟩ := okWide_slice Try.underlying22 hv
  obtain ⟨fuel, hf⟩ := h
  obtain ⟨y, hK, hg0⟩ := (opens_slice Try.underlying22 (by kernel_rfl) (opens_iso (fun x : S50 => (x.f0, x.f1, x.f2, x.f3, x.f4, x.f5, x.f6, x.f7, x.f8, x.f9, x.f10)) (fun z => (⟨z.1, z.2.1, z.2.2.1, z.2.2.2.1, z.2.2.2.2.1, z.2.2.2.2.2.1, z.2.2.2.2.2.2.1, z.2.2.2.2.2.2.2.1, z.2.2.2.2.2.2.2.2.1, z.2.2.2.2.2.2.2.2.2.1, z.2.2.2.2.2.2.2.2.2.2⟩ : S50)) (fun _ => rfl) (opens_struct Try.underlying50 (by kernel_rfl) (by kernel_rfl) (opensAt_cons (opens_i64 Try.underlying3) (opensAt_cons (opens_iso (fun x : S48 => (x.f0, x.f1)) (fun z => (⟨z.1, z.2⟩ : S48)) (fun _ => rfl) (opens_struct Try.underlying48 (by kernel_rfl) (by kernel_rfl) (opensAt_cons (opens_iso (fun x : S30 => (x.f0, x.f1, x.f2, x.f3, x.f4)) (fun z => (⟨z.1, z.2.1, z.2.2.1, z.2.2.2.1, z.2.2.2.2⟩ : S30)) (fun _ => rfl) (opens_struct Try.underlying30 (by kernel_rfl) (by kernel_rfl) (opensAt_cons (opens_i64 Try.underlying3) (opensAt_cons (opens_i64 Try.underlying3) (opensAt_cons (opens_i64 Try.underlying3) (opensAt_cons (opens_i64 Try.underlying3) (opensAt_one (opens_i64 Try.underlying3)))))))) (opensAt_one (opens_i64 Try.underlying3))))) (opensAt_cons (opens_iso (fun x : S48 => (x.f0, x.f1)) (fun z => (⟨z.1, z.2⟩ : S48)) (fun _ => rfl) (opens_struct Try.underlying48 (by kernel_rfl) (by kernel_rfl) (opensAt_cons (opens_iso (fun x : S30 => (x.f0, x.f1, x.f2, x.f3, x.f4)) (fun z => (⟨z.1, z.2.1, z.2.2.1, z.2.2.2.1, z.2.2.2.2⟩ : S30)) (fun _ => rfl) (opens_struct Try.underlying30 (by kernel_rfl) (by kernel_rfl) (opensAt_cons (opens_i64 Try.underlying3) (opensAt_cons (opens_i64 Try.underlying3) (opensAt_cons (opens_i64 Try.underlying3) (opensAt_cons (opens_i64 Try.underlying3) (opensAt_one (opens_i64 Try.underlying3)))))))) (opensAt_one (opens_i64 Try.underlying3))))) (opensAt_cons (opens_i64 Try.underlying3) (opensAt_cons (opens_i64 Try.underlying3) (opensAt_cons (opens_i64 Try.underlying3) (opensAt_cons (opens_i64 Try.underlying3) (opensAt_cons (opens_i64 Try.underlying3) (opensAt_cons (opens_i64 Try.underlying3) (opensAt_cons (opens_i64 Try.underlying3) (opensAt_one (opens_i64 Try.underlying3))))))))))))))) H enc 0 (fun _ => true) true fuel (Value.cells (.slice a_ len_ cap_)).toList _ hf
  obtain ⟨A0, c0, e_, hc0, hr0⟩ := hK
  have e2_ : (Value.slice a_ len_ cap_) = .slice A0 y.length c0 := (List.cons.inj e_).1
  rw [e2_]
  exact ⟨A0, c0, y, rfl, hc0, hr0, hg0⟩
set_option maxRecDepth 100000 in
theorem open1 {H : Type} {enc : TypeId × Value → H} {w : World} {b0 : Nat} {v : Value} {d : DataW H} {p : List MemPlace} (hv : Value.okWide Try.prog w .any b0 50 v) (h : DataW.Trod enc Try.prog w 0 (fun _ => true) true 50 v d p) :
    ∃ (a1_0 : Int) (a1_1 : Int) (a1_2 : Int) (a1_3 : Int) (a1_4 : Int) (a1_5 : Int) (a1_6 : Int) (a1_7 : Int) (a1_8 : Int) (a1_9 : Int) (a1_10 : Int) (a1_11 : Int) (a1_12 : Int) (a1_13 : Int) (a1_14 : Int) (a1_15 : Int) (a1_16 : Int) (a1_17 : Int) (a1_18 : Int) (a1_19 : Int) (a1_20 : Int), v = .agg #[.int .i64 a1_0, .int .i64 a1_1, .int .i64 a1_2, .int .i64 a1_3, .int .i64 a1_4, .int .i64 a1_5, .int .i64 a1_6, .int .i64 a1_7, .int .i64 a1_8, .int .i64 a1_9, .int .i64 a1_10, .int .i64 a1_11, .int .i64 a1_12, .int .i64 a1_13, .int .i64 a1_14, .int .i64 a1_15, .int .i64 a1_16, .int .i64 a1_17, .int .i64 a1_18, .int .i64 a1_19, .int .i64 a1_20] ∧ I64 a1_0 ∧ I64 a1_1 ∧ I64 a1_2 ∧ I64 a1_3 ∧ I64 a1_4 ∧ I64 a1_5 ∧ I64 a1_6 ∧ I64 a1_7 ∧ I64 a1_8 ∧ I64 a1_9 ∧ I64 a1_10 ∧ I64 a1_11 ∧ I64 a1_12 ∧ I64 a1_13 ∧ I64 a1_14 ∧ I64 a1_15 ∧ I64 a1_16 ∧ I64 a1_17 ∧ I64 a1_18 ∧ I64 a1_19 ∧ I64 a1_20 := by
  obtain ⟨cs, rfl, _⟩ := okWide_struct Try.underlying50 hv
  obtain ⟨fuel, hf⟩ := h
  obtain ⟨y, hK, hg⟩ := (opens_iso (fun x : S50 => (x.f0, x.f1, x.f2, x.f3, x.f4, x.f5, x.f6, x.f7, x.f8, x.f9, x.f10)) (fun z => (⟨z.1, z.2.1, z.2.2.1, z.2.2.2.1, z.2.2.2.2.1, z.2.2.2.2.2.1, z.2.2.2.2.2.2.1, z.2.2.2.2.2.2.2.1, z.2.2.2.2.2.2.2.2.1, z.2.2.2.2.2.2.2.2.2.1, z.2.2.2.2.2.2.2.2.2.2⟩ : S50)) (fun _ => rfl) (opens_struct Try.underlying50 (by kernel_rfl) (by kernel_rfl) (opensAt_cons (opens_i64 Try.underlying3) (opensAt_cons (opens_iso (fun x : S48 => (x.f0, x.f1)) (fun z => (⟨z.1, z.2⟩ : S48)) (fun _ => rfl) (opens_struct Try.underlying48 (by kernel_rfl) (by kernel_rfl) (opensAt_cons (opens_iso (fun x : S30 => (x.f0, x.f1, x.f2, x.f3, x.f4)) (fun z => (⟨z.1, z.2.1, z.2.2.1, z.2.2.2.1, z.2.2.2.2⟩ : S30)) (fun _ => rfl) (opens_struct Try.underlying30 (by kernel_rfl) (by kernel_rfl) (opensAt_cons (opens_i64 Try.underlying3) (opensAt_cons (opens_i64 Try.underlying3) (opensAt_cons (opens_i64 Try.underlying3) (opensAt_cons (opens_i64 Try.underlying3) (opensAt_one (opens_i64 Try.underlying3)))))))) (opensAt_one (opens_i64 Try.underlying3))))) (opensAt_cons (opens_iso (fun x : S48 => (x.f0, x.f1)) (fun z => (⟨z.1, z.2⟩ : S48)) (fun _ => rfl) (opens_struct Try.underlying48 (by kernel_rfl) (by kernel_rfl) (opensAt_cons (opens_iso (fun x : S30 => (x.f0, x.f1, x.f2, x.f3, x.f4)) (fun z => (⟨z.1, z.2.1, z.2.2.1, z.2.2.2.1, z.2.2.2.2⟩ : S30)) (fun _ => rfl) (opens_struct Try.underlying30 (by kernel_rfl) (by kernel_rfl) (opensAt_cons (opens_i64 Try.underlying3) (opensAt_cons (opens_i64 Try.underlying3) (opensAt_cons (opens_i64 Try.underlying3) (opensAt_cons (opens_i64 Try.underlying3) (opensAt_one (opens_i64 Try.underlying3)))))))) (opensAt_one (opens_i64 Try.underlying3))))) (opensAt_cons (opens_i64 Try.underlying3) (opensAt_cons (opens_i64 Try.underlying3) (opensAt_cons (opens_i64 Try.underlying3) (opensAt_cons (opens_i64 Try.underlying3) (opensAt_cons (opens_i64 Try.underlying3) (opensAt_cons (opens_i64 Try.underlying3) (opensAt_cons (opens_i64 Try.underlying3) (opensAt_one (opens_i64 Try.underlying3)))))))))))))) H enc 0 (fun _ => true) true fuel (Value.cells (.agg cs)).toList _ hf
  obtain ⟨l⟩ := cs
  simp only [Value.cells] at hK
  obtain ⟨_, _, rfl, rfl, ⟨_, _, rfl, ⟨_, _, rfl, ⟨_, _, rfl, rfl, ⟨_, _, rfl, rfl, ⟨_, _, rfl, rfl, ⟨_, _, rfl, rfl, rfl⟩⟩⟩⟩, rfl⟩, ⟨_, _, rfl, ⟨_, _, rfl, ⟨_, _, rfl, rfl, ⟨_, _, rfl, rfl, ⟨_, _, rfl, rfl, ⟨_, _, rfl, rfl, rfl⟩⟩⟩⟩, rfl⟩, ⟨_, _, rfl, rfl, ⟨_, _, rfl, rfl, ⟨_, _, rfl, rfl, ⟨_, _, rfl, rfl, ⟨_, _, rfl, rfl, ⟨_, _, rfl, rfl, ⟨_, _, rfl, rfl, rfl⟩⟩⟩⟩⟩⟩⟩⟩⟩⟩ := hK
  obtain ⟨hg1_0, ⟨⟨hg1_1, hg1_2, hg1_3, hg1_4, hg1_5⟩, hg1_6⟩, ⟨⟨hg1_7, hg1_8, hg1_9, hg1_10, hg1_11⟩, hg1_12⟩, hg1_13, hg1_14, hg1_15, hg1_16, hg1_17, hg1_18, hg1_19, hg1_20⟩ := hg
  exact ⟨y.f0, y.f1.f0.f0, y.f1.f0.f1, y.f1.f0.f2, y.f1.f0.f3, y.f1.f0.f4, y.f1.f1, y.f2.f0.f0, y.f2.f0.f1, y.f2.f0.f2, y.f2.f0.f3, y.f2.f0.f4, y.f2.f1, y.f3, y.f4, y.f5, y.f6, y.f7, y.f8, y.f9, y.f10, rfl, hg1_0, hg1_1, hg1_2, hg1_3, hg1_4, hg1_5, hg1_6, hg1_7, hg1_8, hg1_9, hg1_10, hg1_11, hg1_12, hg1_13, hg1_14, hg1_15, hg1_16, hg1_17, hg1_18, hg1_19, hg1_20⟩
set_option maxRecDepth 100000 in
theorem lifted (os : Os) (started : os.Started) (H : Type) (enc : TypeId × Value → H) :
    ReturnsInHanded {} Try.checked os 7 .any (Rows.fnExactRuleAddSpec.pre6 enc Try.prog Try.f7 Rows.fnExactRuleAddRow.domain false) (Rows.fnExactRuleAddSpec.post enc Try.prog Try.f7 false true false false) := by
  refine returnsInHanded_of_change_sized (C := Try.checked) own started (by kernel_rfl) Try.func7
    (ChangeSpec.witness6 (enc := enc) (C := Try.checked) false ⟨#[], #[.slice none 0 0, .agg #[.int .i64 0, .int .i64 0, .int .i64 0, .int .i64 0, .int .i64 0, .int .i64 0, .int .i64 0, .int .i64 0, .int .i64 0, .int .i64 0, .int .i64 0, .int .i64 0, .int .i64 0, .int .i64 0, .int .i64 0, .int .i64 0, .int .i64 0, .int .i64 0, .int .i64 0, .int .i64 0, .int .i64 0]], []⟩ 12 (by kernel_rfl) (by kernel_rfl) (by kernel_rfl) (by kernel_rfl)) ?_
  intro W base args ds gs before hval0 hW hcnd hsz0 _
  have hsz : (DataW.weightsEach Try.prog (Try.f7.params.toList ++ Rows.fnExactRuleAddSpec.plain.varTypes Try.prog) (ds ++ gs)).all (· ≤ reachBytes) = true := hsz0
  have hval : ∀ (j : Nat) t v, Try.f7.params[j]? = some t → args[j]? = some v → Value.okWide Try.prog W .any base t v := hval0
  have hW' := hW
  obtain ⟨p, q, hA0, hV, rfl, hfz, hnd⟩ := hW
  have hA : DataW.TrodAll enc Try.prog W 0 (fun _ => true) true Try.f7.params.toList args.toList ds p := hA0
  rw [Try.params7] at hA hval hsz
  obtain ⟨v0, vs0, d0, ds0, p0, q0, hargs, rfl, rfl, h0, r0⟩ := trodAll_cons hA
  obtain ⟨v1, vs1, d1, ds1, p1, q1, rfl, rfl, rfl, h1, r1⟩ := trodAll_cons r0
  obtain ⟨rfl, rfl, rfl⟩ := trodAll_nil r1
  obtain rfl : args = #[v0, v1] := by cases args; simp_all
  obtain ⟨rfl, rfl⟩ := trodVars_none hV
  have k0 := h0
  have lt0 : ∀ x ∈ p0, x.block < W.heap.size := by obtain ⟨m, hm⟩ := k0; exact DataW.trod_lt m _ _ _ hm
  obtain ⟨A0, c0, l0, rfl, hc0, hr0, hg0⟩ := open0 ((hval 0 22 v0 rfl rfl)) h0
  have k1 := h1
  have lt1 : ∀ x ∈ p1, x.block < W.heap.size := by obtain ⟨m, hm⟩ := k1; exact DataW.trod_lt m _ _ _ hm
  obtain ⟨a1_0, a1_1, a1_2, a1_3, a1_4, a1_5, a1_6, a1_7, a1_8, a1_9, a1_10, a1_11, a1_12, a1_13, a1_14, a1_15, a1_16, a1_17, a1_18, a1_19, a1_20, rfl, hg1_0, hg1_1, hg1_2, hg1_3, hg1_4, hg1_5, hg1_6, hg1_7, hg1_8, hg1_9, hg1_10, hg1_11, hg1_12, hg1_13, hg1_14, hg1_15, hg1_16, hg1_17, hg1_18, hg1_19, hg1_20⟩ := open1 ((hval 1 50 v1 rfl rfl)) h1
  clear hA0 hval0 hsz0 hsz
  obtain ⟨k, h⟩ := UFnExactRuleAdd.pure l0 a1_0 a1_1 a1_2 a1_3 a1_4 a1_5 a1_6 a1_7 a1_8 a1_9 a1_10 a1_11 a1_12 a1_13 a1_14 a1_15 a1_16 a1_17 a1_18 a1_19 a1_20 hg0 hg1_0 hg1_1 hg1_2 hg1_3 hg1_4 hg1_5 hg1_6 hg1_7 hg1_8 hg1_9 hg1_10 hg1_11 hg1_12 hg1_13 hg1_14 hg1_15 hg1_16 hg1_17 hg1_18 hg1_19 hg1_20
  refine (laws_FnExactRuleAdd.calls k A0 c0 l0 a1_0 a1_1 a1_2 a1_3 a1_4 a1_5 a1_6 a1_7 a1_8 a1_9 a1_10 a1_11 a1_12 a1_13 a1_14 a1_15 a1_16 a1_17 a1_18 a1_19 a1_20 true W hr0 hc0 h).mono fun e W' he => ?_
  obtain ⟨he, bel0⟩ := he
  have bel : Below W.heap.size W W' := bel0
  subst he
  exact ⟨_, rfl, _, _, _, [], _, [], hW', trodAll_mk1 (shut_bool Try.underlying4 _), (trodAll_cons_mk (Below.trod laidOut (by kernel_rfl) (of_decide_eq_true (by kernel_rfl)) k0 bel lt0) (trodAll_cons_mk (Below.trod laidOut (by kernel_rfl) (of_decide_eq_true (by kernel_rfl)) k1 bel lt1) trodAll_mk0)), rfl, bel.frame _, fun h => by cases h⟩
theorem over : Rows.fnExactRuleAddRow.holds Try.pinned (OpenSpec.ofChange Rows.fnExactRuleAddSpec) :=
  OpenClaim.holds_of_wide 7 Try.f7 rfl rfl rfl rfl rfl rfl rfl ⟨rfl, rfl, rfl, rfl, rfl⟩ rfl rfl rfl rfl rfl (by kernel_rfl) Try.func7 (by kernel_rfl)
    (of_decide_eq_true (by kernel_rfl)) (by unfold Func.isWrapper; first | (rw [if_pos (by decide +kernel)]; kernel_rfl) | (rw [if_neg (by decide +kernel)]; exact ⟨rfl, rfl⟩))
    (fun os started H enc _ => lifted os started H enc)
theorem proved : Rows.FnExactRuleAddSaid := over
end Go.Proofs.Ytbihbbkdciebhaa.fnExactRuleAdd
namespace Go.Proofs.Ytbihbbkdciebhaa
/-- The row, under a short name, for the claim. -/
theorem fnExactRuleAdd_holds : Rows.FnExactRuleAddSaid := fnExactRuleAdd.proved
#print axioms fnExactRuleAdd_holds
end Go.Proofs.Ytbihbbkdciebhaa
