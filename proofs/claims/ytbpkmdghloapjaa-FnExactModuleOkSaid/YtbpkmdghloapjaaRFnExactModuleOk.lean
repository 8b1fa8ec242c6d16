/- FnExactModuleOk: for every input the law returns true; every argument reads as it did. No condition. -/
import Derived.Test.YtbpkmdghloapjaaRows
import Derived.Test.YtbpkmdghloapjaaPMox8
import Derived.Test.YtbpkmdghloapjaaUFnExactModuleOk
import Derived.Test.YtbpkmdghloapjaaFr
import Derived.WalkKit
import Derived.ProofKit
import Derived.OpenShut
import Derived.ShutString
import Derived.ChangeOld
import Derived.Below
import Derived.SizedLaws
namespace Go.Proofs.Ytbpkmdghloapjaa.fnExactModuleOk
open Go.ChangeShapes Go.WideShapes Go.ChangeAt Go.RowKit Go.Proofs.YtbpkmdghloapjaaW.PrintWords Go.Proofs.YtbpkmdghloapjaaFr Go.Proofs.Ytbpkmdghloapjaa.PMo
open Go.ChangeMaps (open_string shut_string)
set_option linter.unusedVariables false
theorem own : ownKnob Try.prog.godebug = none := by kernel_rfl
theorem laidOut : laidOutB Try.prog = true := by kernel_rfl
set_option maxRecDepth 100000 in
theorem open0 {H : Type} {enc : TypeId × Value → H} {w : World} {b0 : Nat} {v : Value} {d : DataW H} {p : List MemPlace} (hv : Value.okWide Try.prog w .any b0 35 v) (h : DataW.Trod enc Try.prog w 0 (fun _ => true) true 35 v d p) :
    ∃ (a0_0 : Int) (a0_1 : Int) (a0_2 : Int) (a0_3 : Int) (a0_4 : Int) (a0_5 : Int) (a0_6 : Int) (a0_7 : Int) (a0_8 : Int) (a0_9 : Int) (a0_10 : Int) (a0_11 : Int) (a0_12 : Int) (a0_13 : Int) (a0_14 : Int) (a0_15 : Int) (a0_16 : Int), v = .agg #[.int .i64 a0_0, .int .i64 a0_1, .int .i64 a0_2, .int .i64 a0_3, .int .i64 a0_4, .int .i64 a0_5, .int .i64 a0_6, .int .i64 a0_7, .int .i64 a0_8, .int .i64 a0_9, .int .i64 a0_10, .int .i64 a0_11, .int .i64 a0_12, .int .i64 a0_13, .int .i64 a0_14, .int .i64 a0_15, .int .i64 a0_16] ∧ I64 a0_0 ∧ I64 a0_1 ∧ I64 a0_2 ∧ I64 a0_3 ∧ I64 a0_4 ∧ I64 a0_5 ∧ I64 a0_6 ∧ I64 a0_7 ∧ I64 a0_8 ∧ I64 a0_9 ∧ I64 a0_10 ∧ I64 a0_11 ∧ I64 a0_12 ∧ I64 a0_13 ∧ I64 a0_14 ∧ I64 a0_15 ∧ I64 a0_16 := by
  obtain ⟨cs, rfl, _⟩ := okWide_struct Try.underlying35 hv
  obtain ⟨fuel, hf⟩ := h
  obtain ⟨y, hK, hg⟩ := (opens_struct Try.underlying35 (by kernel_rfl) (by kernel_rfl) (opensAt_cons (opens_i64 Try.underlying3) (opensAt_cons (opens_struct Try.underlying25 (by kernel_rfl) (by kernel_rfl) (opensAt_cons (opens_struct Try.underlying23 (by kernel_rfl) (by kernel_rfl) (opensAt_cons (opens_i64 Try.underlying3) (opensAt_cons (opens_i64 Try.underlying3) (opensAt_cons (opens_i64 Try.underlying3) (opensAt_cons (opens_i64 Try.underlying3) (opensAt_one (opens_i64 Try.underlying3))))))) (opensAt_one (opens_i64 Try.underlying3)))) (opensAt_cons (opens_struct Try.underlying25 (by kernel_rfl) (by kernel_rfl) (opensAt_cons (opens_struct Try.underlying23 (by kernel_rfl) (by kernel_rfl) (opensAt_cons (opens_i64 Try.underlying3) (opensAt_cons (opens_i64 Try.underlying3) (opensAt_cons (opens_i64 Try.underlying3) (opensAt_cons (opens_i64 Try.underlying3) (opensAt_one (opens_i64 Try.underlying3))))))) (opensAt_one (opens_i64 Try.underlying3)))) (opensAt_cons (opens_i64 Try.underlying3) (opensAt_cons (opens_i64 Try.underlying3) (opensAt_cons (opens_i64 Try.underlying3) (opensAt_one (opens_i64 Try.underlying3))))))))) H enc 0 (fun _ => true) true fuel (Value.cells (.agg cs)).toList _ hf
  obtain ⟨l⟩ := cs
  simp only [Value.cells] at hK
  obtain ⟨_, _, rfl, rfl, ⟨_, _, rfl, ⟨_, _, rfl, ⟨_, _, rfl, rfl, ⟨_, _, rfl, rfl, ⟨_, _, rfl, rfl, ⟨_, _, rfl, rfl, rfl⟩⟩⟩⟩, rfl⟩, ⟨_, _, rfl, ⟨_, _, rfl, ⟨_, _, rfl, rfl, ⟨_, _, rfl, rfl, ⟨_, _, rfl, rfl, ⟨_, _, rfl, rfl, rfl⟩⟩⟩⟩, rfl⟩, ⟨_, _, rfl, rfl, ⟨_, _, rfl, rfl, ⟨_, _, rfl, rfl, rfl⟩⟩⟩⟩⟩⟩ := hK
  obtain ⟨hg0_0, ⟨⟨hg0_1, hg0_2, hg0_3, hg0_4, hg0_5⟩, hg0_6⟩, ⟨⟨hg0_7, hg0_8, hg0_9, hg0_10, hg0_11⟩, hg0_12⟩, hg0_13, hg0_14, hg0_15, hg0_16⟩ := hg
  exact ⟨y.1, y.2.1.1.1, y.2.1.1.2.1, y.2.1.1.2.2.1, y.2.1.1.2.2.2.1, y.2.1.1.2.2.2.2, y.2.1.2, y.2.2.1.1.1, y.2.2.1.1.2.1, y.2.2.1.1.2.2.1, y.2.2.1.1.2.2.2.1, y.2.2.1.1.2.2.2.2, y.2.2.1.2, y.2.2.2.1, y.2.2.2.2.1, y.2.2.2.2.2.1, y.2.2.2.2.2.2, rfl, hg0_0, hg0_1, hg0_2, hg0_3, hg0_4, hg0_5, hg0_6, hg0_7, hg0_8, hg0_9, hg0_10, hg0_11, hg0_12, hg0_13, hg0_14, hg0_15, hg0_16⟩
set_option maxRecDepth 100000 in
theorem lifted (os : Os) (started : os.Started) (H : Type) (enc : TypeId × Value → H) :
    ReturnsInHanded {} Try.checked os 4 .any (Rows.fnExactModuleOkSpec.pre6 enc Try.prog Try.f4 Rows.fnExactModuleOkRow.domain false) (Rows.fnExactModuleOkSpec.post enc Try.prog Try.f4 false true false false) := by
  refine returnsInHanded_of_change_sized (C := Try.checked) own started (by kernel_rfl) Try.func4
    (ChangeSpec.witness6 (enc := enc) (C := Try.checked) false ⟨#[], #[.agg #[.int .i64 0, .int .i64 0, .int .i64 0, .int .i64 0, .int .i64 0, .int .i64 0, .int .i64 0, .int .i64 0, .int .i64 0, .int .i64 0, .int .i64 0, .int .i64 0, .int .i64 0, .int .i64 0, .int .i64 0, .int .i64 0, .int .i64 0]], []⟩ 12 (by kernel_rfl) (by kernel_rfl) (by kernel_rfl) (by kernel_rfl)) ?_
  intro W base args ds gs before hval0 hW hcnd hsz0 _
  have hsz : (DataW.weightsEach Try.prog (Try.f4.params.toList ++ Rows.fnExactModuleOkSpec.plain.varTypes Try.prog) (ds ++ gs)).all (· ≤ reachBytes) = true := hsz0
  have hval : ∀ (j : Nat) t v, Try.f4.params[j]? = some t → args[j]? = some v → Value.okWide Try.prog W .any base t v := hval0
  have hW' := hW
  obtain ⟨p, q, hA0, hV, rfl, hfz, hnd⟩ := hW
  have hA : DataW.TrodAll enc Try.prog W 0 (fun _ => true) true Try.f4.params.toList args.toList ds p := hA0
  rw [Try.params4] at hA hval hsz
  obtain ⟨v0, vs0, d0, ds0, p0, q0, hargs, rfl, rfl, h0, r0⟩ := trodAll_cons hA
  obtain ⟨rfl, rfl, rfl⟩ := trodAll_nil r0
  obtain rfl : args = #[v0] := by cases args; simp_all
  obtain ⟨rfl, rfl⟩ := trodVars_none hV
  have k0 := h0
  have lt0 : ∀ x ∈ p0, x.block < W.heap.size := by obtain ⟨m, hm⟩ := k0; exact DataW.trod_lt m _ _ _ hm
  obtain ⟨a0_0, a0_1, a0_2, a0_3, a0_4, a0_5, a0_6, a0_7, a0_8, a0_9, a0_10, a0_11, a0_12, a0_13, a0_14, a0_15, a0_16, rfl, hg0_0, hg0_1, hg0_2, hg0_3, hg0_4, hg0_5, hg0_6, hg0_7, hg0_8, hg0_9, hg0_10, hg0_11, hg0_12, hg0_13, hg0_14, hg0_15, hg0_16⟩ := open0 ((hval 0 35 v0 rfl rfl)) h0
  clear hA0 hval0 hsz0 hsz
  obtain ⟨k, h⟩ := UFnExactModuleOk.pure a0_0 a0_1 a0_2 a0_3 a0_4 a0_5 a0_6 a0_7 a0_8 a0_9 a0_10 a0_11 a0_12 a0_13 a0_14 a0_15 a0_16 hg0_0 hg0_1 hg0_2 hg0_3 hg0_4 hg0_5 hg0_6 hg0_7 hg0_8 hg0_9 hg0_10 hg0_11 hg0_12 hg0_13 hg0_14 hg0_15 hg0_16
  refine (laws_FnExactModuleOk.calls k a0_0 a0_1 a0_2 a0_3 a0_4 a0_5 a0_6 a0_7 a0_8 a0_9 a0_10 a0_11 a0_12 a0_13 a0_14 a0_15 a0_16 true W h).mono fun e W' he => ?_
  obtain ⟨he, bel0⟩ := he
  have bel : Below W.heap.size W W' := bel0
  subst he
  exact ⟨_, rfl, _, _, _, [], _, [], hW', trodAll_mk1 (shut_bool Try.underlying4 _), (trodAll_cons_mk (Below.trod laidOut (by kernel_rfl) (of_decide_eq_true (by kernel_rfl)) k0 bel lt0) trodAll_mk0), rfl, bel.frame _, fun h => by cases h⟩
theorem over : Rows.fnExactModuleOkRow.holds Try.pinned (OpenSpec.ofChange Rows.fnExactModuleOkSpec) :=
  OpenClaim.holds_of_wide 4 Try.f4 rfl rfl rfl rfl rfl rfl rfl ⟨rfl, rfl, rfl, rfl, rfl⟩ rfl rfl rfl rfl rfl (by kernel_rfl) Try.func4 (by kernel_rfl)
    (of_decide_eq_true (by kernel_rfl)) (by unfold Func.isWrapper; first | (rw [if_pos (by decide +kernel)]; kernel_rfl) | (rw [if_neg (by decide +kernel)]; exact ⟨rfl, rfl⟩))
    (fun os started H enc _ => lifted os started H enc)
theorem proved : Rows.FnExactModuleOkSaid := over
end Go.Proofs.Ytbpkmdghloapjaa.fnExactModuleOk
namespace Go.Proofs.Ytbpkmdghloapjaa
/-- The row, under a short name, for the claim. -/
theorem fnExactModuleOk_holds : Rows.FnExactModuleOkSaid := fnExactModuleOk.proved
#print axioms fnExactModuleOk_holds
end Go.Proofs.Ytbpkmdghloapjaa
