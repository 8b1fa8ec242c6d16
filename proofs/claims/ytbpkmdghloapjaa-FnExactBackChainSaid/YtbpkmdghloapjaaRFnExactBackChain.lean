/- FnExactBackChain: for every input the law returns true; every argument reads as it did. No condition. -/
import Derived.Test.YtbpkmdghloapjaaRows
import Derived.Test.YtbpkmdghloapjaaPBcx8
import Derived.Test.YtbpkmdghloapjaaUFnExactBackChain
import Derived.Test.YtbpkmdghloapjaaFr
import Derived.WalkKit
import Derived.ProofKit
import Derived.OpenShut
import Derived.ShutString
import Derived.ChangeOld
import Derived.Below
import Derived.SizedLaws
namespace Go.Proofs.Ytbpkmdghloapjaa.fnExactBackChain
open Go.ChangeShapes Go.WideShapes Go.ChangeAt Go.RowKit Go.Proofs.YtbpkmdghloapjaaW.PrintWords Go.Proofs.YtbpkmdghloapjaaFr Go.Proofs.Ytbpkmdghloapjaa.PBc
open Go.ChangeMaps (open_string shut_string)
set_option linter.unusedVariables false
theorem own : ownKnob Try.prog.godebug = none := by kernel_rfl
theorem laidOut : laidOutB Try.prog = true := by kernel_rfl
set_option maxRecDepth 100000 in
theorem open0 {H : Type} {enc : TypeId × Value → H} {w : World} {b0 : Nat} {v : Value} {d : DataW H} {p : List MemPlace} (hv : Value.okWide Try.prog w .any b0 41 v) (h : DataW.Trod enc Try.prog w 0 (fun _ => true) true 41 v d p) :
    ∃ (A0 : Option Addr) (c0 : Nat) (l0 : List (S35)), v = .slice A0 l0.length c0 ∧ l0.length ≤ c0 ∧ Kd.C k35 w A0 l0.length l0 ∧ (l0.length ≤ maxLen ∧ ∀ y ∈ l0, (I64 y.f0 ∧ ((I64 y.f1.f0.f0 ∧ I64 y.f1.f0.f1 ∧ I64 y.f1.f0.f2 ∧ I64 y.f1.f0.f3 ∧ I64 y.f1.f0.f4) ∧ I64 y.f1.f1) ∧ ((I64 y.f2.f0.f0 ∧ I64 y.f2.f0.f1 ∧ I64 y.f2.f0.f2 ∧ I64 y.f2.f0.f3 ∧ I64 y.f2.f0.f4) ∧ I64 y.f2.f1) ∧ I64 y.f3 ∧ I64 y.f4 ∧ I64 y.f5 ∧ I64 y.f6)) := by
  obtain ⟨a_, len_, cap_, rfl⟩ := okWide_slice Try.underlying41 hv
  obtain ⟨fuel, hf⟩ := h
  obtain ⟨y, hK, hg0⟩ := (opens_slice Try.underlying41 (by kernel_rfl) (opens_iso (fun x : S35 => (x.f0, x.f1, x.f2, x.f3, x.f4, x.f5, x.f6)) (fun z => (⟨z.1, z.2.1, z.2.2.1, z.2.2.2.1, z.2.2.2.2.1, z.2.2.2.2.2.1, z.2.2.2.2.2.2⟩ : S35)) (fun _ => rfl) (opens_struct Try.underlying35 (by kernel_rfl) (by kernel_rfl) (opensAt_cons (opens_i64 Try.underlying3) (opensAt_cons (opens_iso (fun x : S25 => (x.f0, x.f1)) (fun z => (⟨z.1, z.2⟩ : S25)) (fun _ => rfl) (opens_struct Try.underlying25 (by kernel_rfl) (by kernel_rfl) (opensAt_cons (opens_iso (fun x : S23 => (x.f0, x.f1, x.f2, x.f3, x.f4)) (fun z => (⟨z.1, z.2.1, z.2.2.1, z.2.2.2.1, z.2.2.2.2⟩ : S23)) (fun _ => rfl) (opens_struct Try.underlying23 (by kernel_rfl) (by kernel_rfl) (opensAt_cons (opens_i64 Try.underlying3) (opensAt_cons (opens_i64 Try.underlying3) (opensAt_cons (opens_i64 Try.underlying3) (opensAt_cons (opens_i64 Try.underlying3) (opensAt_one (opens_i64 Try.underlying3)))))))) (opensAt_one (opens_i64 Try.underlying3))))) (opensAt_cons (opens_iso (fun x : S25 => (x.f0, x.f1)) (fun z => (⟨z.1, z.2⟩ : S25)) (fun _ => rfl) (opens_struct Try.underlying25 (by kernel_rfl) (by kernel_rfl) (opensAt_cons (opens_iso (fun x : S23 => (x.f0, x.f1, x.f2, x.f3, x.f4)) (fun z => (⟨z.1, z.2.1, z.2.2.1, z.2.2.2.1, z.2.2.2.2⟩ : S23)) (fun _ => rfl) (opens_struct Try.underlying23 (by kernel_rfl) (by kernel_rfl) (opensAt_cons (opens_i64 Try.underlying3) (opensAt_cons (opens_i64 Try.underlying3) (opensAt_cons (opens_i64 Try.underlying3) (opensAt_cons (opens_i64 Try.underlying3) (opensAt_one (opens_i64 Try.underlying3)))))))) (opensAt_one (opens_i64 Try.underlying3))))) (opensAt_cons (opens_i64 Try.underlying3) (opensAt_cons (opens_i64 Try.underlying3) (opensAt_cons (opens_i64 Try.underlying3) (opensAt_one (opens_i64 Try.underlying3))))))))))) H enc 0 (fun _ => true) true fuel (Value.cells (.slice a_ len_ cap_)).toList _ hf
  obtain ⟨A0, c0, e_, hc0, hr0⟩ := hK
  have e2_ : (Value.slice a_ len_ cap_) = .slice A0 y.length c0 := (List.cons.inj e_).1
  rw [e2_]
  exact ⟨A0, c0, y, rfl, hc0, hr0, hg0⟩
set_option maxRecDepth 100000 in
theorem lifted (os : Os) (started : os.Started) (H : Type) (enc : TypeId × Value → H) :
    ReturnsInHanded {} Try.checked os 7 .any (Rows.fnExactBackChainSpec.pre6 enc Try.prog Try.f7 Rows.fnExactBackChainRow.domain false) (Rows.fnExactBackChainSpec.post enc Try.prog Try.f7 false true false false) := by
  refine returnsInHanded_of_change_sized (C := Try.checked) own started (by kernel_rfl) Try.func7
    (ChangeSpec.witness6 (enc := enc) (C := Try.checked) false ⟨#[], #[.slice none 0 0], []⟩ 12 (by kernel_rfl) (by kernel_rfl) (by kernel_rfl) (by kernel_rfl)) ?_
  intro W base args ds gs before hval0 hW hcnd hsz0 _
  have hsz : (DataW.weightsEach Try.prog (Try.f7.params.toList ++ Rows.fnExactBackChainSpec.plain.varTypes Try.prog) (ds ++ gs)).all (· ≤ reachBytes) = true := hsz0
  have hval : ∀ (j : Nat) t v, Try.f7.params[j]? = some t → args[j]? = some v → Value.okWide Try.prog W .any base t v := hval0
  have hW' := hW
  obtain ⟨p, q, hA0, hV, rfl, hfz, hnd⟩ := hW
  have hA : DataW.TrodAll enc Try.prog W 0 (fun _ => true) true Try.f7.params.toList args.toList ds p := hA0
  rw [Try.params7] at hA hval hsz
  obtain ⟨v0, vs0, d0, ds0, p0, q0, hargs, rfl, rfl, h0, r0⟩ := trodAll_cons hA
  obtain ⟨rfl, rfl, rfl⟩ := trodAll_nil r0
  obtain rfl : args = #[v0] := by cases args; simp_all
  obtain ⟨rfl, rfl⟩ := trodVars_none hV
  have k0 := h0
  have lt0 : ∀ x ∈ p0, x.block < W.heap.size := by obtain ⟨m, hm⟩ := k0; exact DataW.trod_lt m _ _ _ hm
  obtain ⟨A0, c0, l0, rfl, hc0, hr0, hg0⟩ := open0 ((hval 0 41 v0 rfl rfl)) h0
  clear hA0 hval0 hsz0 hsz
  obtain ⟨k, h⟩ := UFnExactBackChain.pure l0 hg0
  refine (laws_FnExactBackChain.calls k A0 c0 l0 true W hr0 hc0 h).mono fun e W' he => ?_
  obtain ⟨he, bel0⟩ := he
  have bel : Below W.heap.size W W' := bel0
  subst he
  exact ⟨_, rfl, _, _, _, [], _, [], hW', trodAll_mk1 (shut_bool Try.underlying4 _), (trodAll_cons_mk (Below.trod laidOut (by kernel_rfl) (of_decide_eq_true (by kernel_rfl)) k0 bel lt0) trodAll_mk0), rfl, bel.frame _, fun h => by cases h⟩
theorem over : Rows.fnExactBackChainRow.holds Try.pinned (OpenSpec.ofChange Rows.fnExactBackChainSpec) :=
  OpenClaim.holds_of_wide 7 Try.f7 rfl rfl rfl rfl rfl rfl rfl ⟨rfl, rfl, rfl, rfl, rfl⟩ rfl rfl rfl rfl rfl (by kernel_rfl) Try.func7 (by kernel_rfl)
    (of_decide_eq_true (by kernel_rfl)) (by unfold Func.isWrapper; first | (rw [if_pos (by decide +kernel)]; kernel_rfl) | (rw [if_neg (by decide +kernel)]; exact ⟨rfl, rfl⟩))
    (fun os started H enc _ => lifted os started H enc)
theorem proved : Rows.FnExactBackChainSaid := over
end Go.Proofs.Ytbpkmdghloapjaa.fnExactBackChain
namespace Go.Proofs.Ytbpkmdghloapjaa
/-- The row, under a short name, for the claim. -/
theorem fnExactBackChain_holds : Rows.FnExactBackChainSaid := fnExactBackChain.proved
#print axioms fnExactBackChain_holds
end Go.Proofs.Ytbpkmdghloapjaa
