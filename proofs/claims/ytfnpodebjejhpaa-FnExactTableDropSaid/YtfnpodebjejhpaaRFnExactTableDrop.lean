/- FnExactTableDrop: for every input the law returns true; every argument reads as it did. No condition. -/
import Derived.Test.YtfnpodebjejhpaaRows
import Derived.Test.YtfnpodebjejhpaaPTdx10
import Derived.Test.YtfnpodebjejhpaaUFnExactTableDrop
import Derived.Test.YtfnpodebjejhpaaFr
import Derived.WalkKit
import Derived.ProofKit
import Derived.OpenShut
import Derived.ShutString
import Derived.ChangeOld
import Derived.Below
import Derived.SizedLaws
namespace Go.Proofs.Ytfnpodebjejhpaa.fnExactTableDrop
open Go.ChangeShapes Go.WideShapes Go.ChangeAt Go.RowKit Go.Proofs.YtfnpodebjejhpaaW.PrintWords Go.Proofs.YtfnpodebjejhpaaFr Go.Proofs.Ytfnpodebjejhpaa.PTd
open Go.ChangeMaps (open_string shut_string)
set_option linter.unusedVariables false
theorem own : ownKnob Try.prog.godebug = none := by kernel_rfl
theorem laidOut : laidOutB Try.prog = true := by kernel_rfl
set_option maxRecDepth 100000 in
theorem open0 {H : Type} {enc : TypeId × Value → H} {w : World} {b0 : Nat} {v : Value} {d : DataW H} {p : List MemPlace} (hv : Value.okWide Try.prog w .any b0 47 v) (h : DataW.Trod enc Try.prog w 0 (fun _ => true) true 47 v d p) :
    ∃ (a0_0 : Int) (A0_1 : Option Addr) (c0_1 : Nat) (l0_1 : List (S94)), v = .agg #[.int .i64 a0_0, .slice A0_1 l0_1.length c0_1] ∧ I64 a0_0 ∧ l0_1.length ≤ c0_1 ∧ Kd.C k94 w A0_1 l0_1.length l0_1 ∧ (l0_1.length ≤ maxLen ∧ ∀ y ∈ l0_1, (True ∧ (I64 y.f1.f0 ∧ ((I64 y.f1.f1.f0.f0 ∧ I64 y.f1.f1.f0.f1 ∧ I64 y.f1.f1.f0.f2 ∧ I64 y.f1.f1.f0.f3 ∧ I64 y.f1.f1.f0.f4) ∧ (I64 y.f1.f1.f1.f0 ∧ I64 y.f1.f1.f1.f1 ∧ I64 y.f1.f1.f1.f2 ∧ I64 y.f1.f1.f1.f3 ∧ I64 y.f1.f1.f1.f4) ∧ I64 y.f1.f1.f2 ∧ I64 y.f1.f1.f3 ∧ I64 y.f1.f1.f4)) ∧ I64 y.f2)) := by
  obtain ⟨cs, rfl, _⟩ := okWide_struct Try.underlying47 hv
  obtain ⟨fuel, hf⟩ := h
  obtain ⟨y, hK, hg⟩ := (opens_struct Try.underlying47 (by kernel_rfl) (by kernel_rfl) (opensAt_cons (opens_i64 Try.underlying3) (opensAt_one (opens_slice Try.underlying45 (by kernel_rfl) (opens_iso (fun x : S94 => (x.f0, x.f1, x.f2)) (fun z => (⟨z.1, z.2.1, z.2.2⟩ : S94)) (fun _ => rfl) (opens_struct Try.underlying94 (by kernel_rfl) (by kernel_rfl) (opensAt_cons (opens_bool Try.underlying4) (opensAt_cons (opens_iso (fun x : S27 => (x.f0, x.f1)) (fun z => (⟨z.1, z.2⟩ : S27)) (fun _ => rfl) (opens_struct Try.underlying27 (by kernel_rfl) (by kernel_rfl) (opensAt_cons (opens_i64 Try.underlying3) (opensAt_one (opens_iso (fun x : S25 => (x.f0, x.f1, x.f2, x.f3, x.f4)) (fun z => (⟨z.1, z.2.1, z.2.2.1, z.2.2.2.1, z.2.2.2.2⟩ : S25)) (fun _ => rfl) (opens_struct Try.underlying25 (by kernel_rfl) (by kernel_rfl) (opensAt_cons (opens_iso (fun x : S23 => (x.f0, x.f1, x.f2, x.f3, x.f4)) (fun z => (⟨z.1, z.2.1, z.2.2.1, z.2.2.2.1, z.2.2.2.2⟩ : S23)) (fun _ => rfl) (opens_struct Try.underlying23 (by kernel_rfl) (by kernel_rfl) (opensAt_cons (opens_i64 Try.underlying3) (opensAt_cons (opens_i64 Try.underlying3) (opensAt_cons (opens_i64 Try.underlying3) (opensAt_cons (opens_i64 Try.underlying3) (opensAt_one (opens_i64 Try.underlying3)))))))) (opensAt_cons (opens_iso (fun x : S23 => (x.f0, x.f1, x.f2, x.f3, x.f4)) (fun z => (⟨z.1, z.2.1, z.2.2.1, z.2.2.2.1, z.2.2.2.2⟩ : S23)) (fun _ => rfl) (opens_struct Try.underlying23 (by kernel_rfl) (by kernel_rfl) (opensAt_cons (opens_i64 Try.underlying3) (opensAt_cons (opens_i64 Try.underlying3) (opensAt_cons (opens_i64 Try.underlying3) (opensAt_cons (opens_i64 Try.underlying3) (opensAt_one (opens_i64 Try.underlying3)))))))) (opensAt_cons (opens_i64 Try.underlying3) (opensAt_cons (opens_i64 Try.underlying3) (opensAt_one (opens_i64 Try.underlying3)))))))))))) (opensAt_one (opens_i64 Try.underlying3)))))))))) H enc 0 (fun _ => true) true fuel (Value.cells (.agg cs)).toList _ hf
  obtain ⟨l⟩ := cs
  simp only [Value.cells] at hK
  obtain ⟨_, _, rfl, rfl, ⟨A0_1, c0_1, rfl, hc0_1, hr0_1⟩⟩ := hK
  obtain ⟨hg0_0, hg0_1⟩ := hg
  exact ⟨y.1, A0_1, c0_1, y.2, rfl, hg0_0, hc0_1, hr0_1, hg0_1⟩
set_option maxRecDepth 100000 in
theorem open1 {H : Type} {enc : TypeId × Value → H} {w : World} {b0 : Nat} {v : Value} {d : DataW H} {p : List MemPlace} (hv : Value.okWide Try.prog w .any b0 27 v) (h : DataW.Trod enc Try.prog w 0 (fun _ => true) true 27 v d p) :
    ∃ (a1_0 : Int) (a1_1 : Int) (a1_2 : Int) (a1_3 : Int) (a1_4 : Int) (a1_5 : Int) (a1_6 : Int) (a1_7 : Int) (a1_8 : Int) (a1_9 : Int) (a1_10 : Int) (a1_11 : Int) (a1_12 : Int) (a1_13 : Int), v = .agg #[.int .i64 a1_0, .int .i64 a1_1, .int .i64 a1_2, .int .i64 a1_3, .int .i64 a1_4, .int .i64 a1_5, .int .i64 a1_6, .int .i64 a1_7, .int .i64 a1_8, .int .i64 a1_9, .int .i64 a1_10, .int .i64 a1_11, .int .i64 a1_12, .int .i64 a1_13] ∧ I64 a1_0 ∧ I64 a1_1 ∧ I64 a1_2 ∧ I64 a1_3 ∧ I64 a1_4 ∧ I64 a1_5 ∧ I64 a1_6 ∧ I64 a1_7 ∧ I64 a1_8 ∧ I64 a1_9 ∧ I64 a1_10 ∧ I64 a1_11 ∧ I64 a1_12 ∧ I64 a1_13 := by
  obtain ⟨cs, rfl, _⟩ := okWide_struct Try.underlying27 hv
  obtain ⟨fuel, hf⟩ := h
  obtain ⟨y, hK, hg⟩ := (opens_iso (fun x : S27 => (x.f0, x.f1)) (fun z => (⟨z.1, z.2⟩ : S27)) (fun _ => rfl) (opens_struct Try.underlying27 (by kernel_rfl) (by kernel_rfl) (opensAt_cons (opens_i64 Try.underlying3) (opensAt_one (opens_iso (fun x : S25 => (x.f0, x.f1, x.f2, x.f3, x.f4)) (fun z => (⟨z.1, z.2.1, z.2.2.1, z.2.2.2.1, z.2.2.2.2⟩ : S25)) (fun _ => rfl) (opens_struct Try.underlying25 (by kernel_rfl) (by kernel_rfl) (opensAt_cons (opens_iso (fun x : S23 => (x.f0, x.f1, x.f2, x.f3, x.f4)) (fun z => (⟨z.1, z.2.1, z.2.2.1, z.2.2.2.1, z.2.2.2.2⟩ : S23)) (fun _ => rfl) (opens_struct Try.underlying23 (by kernel_rfl) (by kernel_rfl) (opensAt_cons (opens_i64 Try.underlying3) (opensAt_cons (opens_i64 Try.underlying3) (opensAt_cons (opens_i64 Try.underlying3) (opensAt_cons (opens_i64 Try.underlying3) (opensAt_one (opens_i64 Try.underlying3)))))))) (opensAt_cons (opens_iso (fun x : S23 => (x.f0, x.f1, x.f2, x.f3, x.f4)) (fun z => (⟨z.1, z.2.1, z.2.2.1, z.2.2.2.1, z.2.2.2.2⟩ : S23)) (fun _ => rfl) (opens_struct Try.underlying23 (by kernel_rfl) (by kernel_rfl) (opensAt_cons (opens_i64 Try.underlying3) (opensAt_cons (opens_i64 Try.underlying3) (opensAt_cons (opens_i64 Try.underlying3) (opensAt_cons (opens_i64 Try.underlying3) (opensAt_one (opens_i64 Try.underlying3)))))))) (opensAt_cons (opens_i64 Try.underlying3) (opensAt_cons (opens_i64 Try.underlying3) (opensAt_one (opens_i64 Try.underlying3)))))))))))) H enc 0 (fun _ => true) true fuel (Value.cells (.agg cs)).toList _ hf
  obtain ⟨l⟩ := cs
  simp only [Value.cells] at hK
  obtain ⟨_, _, rfl, rfl, ⟨_, _, rfl, ⟨_, _, rfl, rfl, ⟨_, _, rfl, rfl, ⟨_, _, rfl, rfl, ⟨_, _, rfl, rfl, rfl⟩⟩⟩⟩, ⟨_, _, rfl, ⟨_, _, rfl, rfl, ⟨_, _, rfl, rfl, ⟨_, _, rfl, rfl, ⟨_, _, rfl, rfl, rfl⟩⟩⟩⟩, ⟨_, _, rfl, rfl, ⟨_, _, rfl, rfl, rfl⟩⟩⟩⟩⟩ := hK
  obtain ⟨hg1_0, ⟨⟨hg1_1, hg1_2, hg1_3, hg1_4, hg1_5⟩, ⟨hg1_6, hg1_7, hg1_8, hg1_9, hg1_10⟩, hg1_11, hg1_12, hg1_13⟩⟩ := hg
  exact ⟨y.f0, y.f1.f0.f0, y.f1.f0.f1, y.f1.f0.f2, y.f1.f0.f3, y.f1.f0.f4, y.f1.f1.f0, y.f1.f1.f1, y.f1.f1.f2, y.f1.f1.f3, y.f1.f1.f4, y.f1.f2, y.f1.f3, y.f1.f4, rfl, hg1_0, hg1_1, hg1_2, hg1_3, hg1_4, hg1_5, hg1_6, hg1_7, hg1_8, hg1_9, hg1_10, hg1_11, hg1_12, hg1_13⟩
set_option maxRecDepth 100000 in
theorem lifted (os : Os) (started : os.Started) (H : Type) (enc : TypeId × Value → H) :
    ReturnsInHanded {} Try.checked os 12 .any (Rows.fnExactTableDropSpec.pre6 enc Try.prog Try.f12 Rows.fnExactTableDropRow.domain false) (Rows.fnExactTableDropSpec.post enc Try.prog Try.f12 false true false false) := by
  refine returnsInHanded_of_change_sized (C := Try.checked) own started (by kernel_rfl) Try.func12
    (ChangeSpec.witness6 (enc := enc) (C := Try.checked) false ⟨#[], #[.agg #[.int .i64 0, .slice none 0 0], .agg #[.int .i64 0, .int .i64 0, .int .i64 0, .int .i64 0, .int .i64 0, .int .i64 0, .int .i64 0, .int .i64 0, .int .i64 0, .int .i64 0, .int .i64 0, .int .i64 0, .int .i64 0, .int .i64 0]], []⟩ 12 (by kernel_rfl) (by kernel_rfl) (by kernel_rfl) (by kernel_rfl)) ?_
  intro W base args ds gs before hval0 hW hcnd hsz0 _
  have hsz : (DataW.weightsEach Try.prog (Try.f12.params.toList ++ Rows.fnExactTableDropSpec.plain.varTypes Try.prog) (ds ++ gs)).all (· ≤ reachBytes) = true := hsz0
  have hval : ∀ (j : Nat) t v, Try.f12.params[j]? = some t → args[j]? = some v → Value.okWide Try.prog W .any base t v := hval0
  have hW' := hW
  obtain ⟨p, q, hA0, hV, rfl, hfz, hnd⟩ := hW
  have hA : DataW.TrodAll enc Try.prog W 0 (fun _ => true) true Try.f12.params.toList args.toList ds p := hA0
  rw [Try.params12] at hA hval hsz
  obtain ⟨v0, vs0, d0, ds0, p0, q0, hargs, rfl, rfl, h0, r0⟩ := trodAll_cons hA
  obtain ⟨v1, vs1, d1, ds1, p1, q1, rfl, rfl, rfl, h1, r1⟩ := trodAll_cons r0
  obtain ⟨rfl, rfl, rfl⟩ := trodAll_nil r1
  obtain rfl : args = #[v0, v1] := by cases args; simp_all
  obtain ⟨rfl, rfl⟩ := trodVars_none hV
  have k0 := h0
  have lt0 : ∀ x ∈ p0, x.block < W.heap.size := by obtain ⟨m, hm⟩ := k0; exact DataW.trod_lt m _ _ _ hm
  obtain ⟨a0_0, A0_1, c0_1, l0_1, rfl, hg0_0, hc0_1, hr0_1, hg0_1⟩ := open0 ((hval 0 47 v0 rfl rfl)) h0
  have k1 := h1
  have lt1 : ∀ x ∈ p1, x.block < W.heap.size := by obtain ⟨m, hm⟩ := k1; exact DataW.trod_lt m _ _ _ hm
  obtain ⟨a1_0, a1_1, a1_2, a1_3, a1_4, a1_5, a1_6, a1_7, a1_8, a1_9, a1_10, a1_11, a1_12, a1_13, rfl, hg1_0, hg1_1, hg1_2, hg1_3, hg1_4, hg1_5, hg1_6, hg1_7, hg1_8, hg1_9, hg1_10, hg1_11, hg1_12, hg1_13⟩ := open1 ((hval 1 27 v1 rfl rfl)) h1
  clear hA0 hval0 hsz0 hsz
  obtain ⟨k, h⟩ := UFnExactTableDrop.pure a0_0 l0_1 a1_0 a1_1 a1_2 a1_3 a1_4 a1_5 a1_6 a1_7 a1_8 a1_9 a1_10 a1_11 a1_12 a1_13 hg0_0 hg0_1 hg1_0 hg1_1 hg1_2 hg1_3 hg1_4 hg1_5 hg1_6 hg1_7 hg1_8 hg1_9 hg1_10 hg1_11 hg1_12 hg1_13
  refine (laws_FnExactTableDrop.calls k a0_0 A0_1 c0_1 l0_1 a1_0 a1_1 a1_2 a1_3 a1_4 a1_5 a1_6 a1_7 a1_8 a1_9 a1_10 a1_11 a1_12 a1_13 true W hr0_1 hc0_1 h).mono fun e W' he => ?_
  obtain ⟨he, bel0⟩ := he
  have bel : Below W.heap.size W W' := bel0
  subst he
  exact ⟨_, rfl, _, _, _, [], _, [], hW', trodAll_mk1 (shut_bool Try.underlying4 _), (trodAll_cons_mk (Below.trod laidOut (by kernel_rfl) (of_decide_eq_true (by kernel_rfl)) k0 bel lt0) (trodAll_cons_mk (Below.trod laidOut (by kernel_rfl) (of_decide_eq_true (by kernel_rfl)) k1 bel lt1) trodAll_mk0)), rfl, bel.frame _, fun h => by cases h⟩
theorem over : Rows.fnExactTableDropRow.holds Try.pinned (OpenSpec.ofChange Rows.fnExactTableDropSpec) :=
  OpenClaim.holds_of_wide 12 Try.f12 rfl rfl rfl rfl rfl rfl rfl ⟨rfl, rfl, rfl, rfl, rfl⟩ rfl rfl rfl rfl rfl (by kernel_rfl) Try.func12 (by kernel_rfl)
    (of_decide_eq_true (by kernel_rfl)) (by unfold Func.isWrapper; first | (rw [if_pos (by decide +kernel)]; kernel_rfl) | (rw [if_neg (by decide +kernel)]; exact ⟨rfl, rfl⟩))
    (fun os started H enc _ => lifted os started H enc)
theorem proved : Rows.FnExactTableDropSaid := over
end Go.Proofs.Ytfnpodebjejhpaa.fnExactTableDrop
namespace Go.Proofs.Ytfnpodebjejhpaa
/-- The row, under a short name, for the claim. -/
theorem fnExactTableDrop_holds : Rows.FnExactTableDropSaid := fnExactTableDrop.proved
#print axioms fnExactTableDrop_holds
end Go.Proofs.Ytfnpodebjejhpaa
