/- FnExactHeapPop: for every input the law returns true; every argument reads as it did. No condition. -/
import Derived.Test.YtjpmhbjbgooheaaRows
import Derived.Test.YtjpmhbjbgooheaaPPox7
import Derived.Test.YtjpmhbjbgooheaaUFnExactHeapPop
import Derived.Test.YtjpmhbjbgooheaaFr
import Derived.WalkKit
import Derived.ProofKit
import Derived.OpenShut
import Derived.ShutString
import Derived.ChangeOld
import Derived.Below
import Derived.SizedLaws
namespace Go.Proofs.Ytjpmhbjbgooheaa.fnExactHeapPop
open Go.ChangeShapes Go.WideShapes Go.ChangeAt Go.RowKit Go.Proofs.YtjpmhbjbgooheaaW.PrintWords Go.Proofs.YtjpmhbjbgooheaaFr Go.Proofs.Ytjpmhbjbgooheaa.PPo
open Go.ChangeMaps (open_string shut_string)
set_option linter.unusedVariables false
theorem own : ownKnob Try.prog.godebug = none := by kernel_rfl
theorem laidOut : laidOutB Try.prog = true := by kernel_rfl
set_option maxRecDepth 100000 in
theorem open0 {H : Type} {enc : TypeId × Value → H} {w : World} {b0 : Nat} {v : Value} {d : DataW H} {p : List MemPlace} (hv : Value.okWide Try.prog w .any b0 32 v) (h : DataW.Trod enc Try.prog w 0 (fun _ => true) true 32 v d p) :
    ∃ (A0_0 : Option Addr) (c0_0 : Nat) (l0_0 : List (S23)), v = .agg #[.slice A0_0 l0_0.length c0_0] ∧ l0_0.length ≤ c0_0 ∧ Kd.C k23 w A0_0 l0_0.length l0_0 ∧ (l0_0.length ≤ maxLen ∧ ∀ y ∈ l0_0, (I64 y.f0 ∧ I64 y.f1)) := by
  obtain ⟨cs, rfl, _⟩ := okWide_struct Try.underlying32 hv
  obtain ⟨fuel, hf⟩ := h
  obtain ⟨y, hK, hg⟩ := (opens_struct Try.underlying32 (by kernel_rfl) (by kernel_rfl) (opensAt_one (opens_slice Try.underlying30 (by kernel_rfl) (opens_iso (fun x : S23 => (x.f0, x.f1)) (fun z => (⟨z.1, z.2⟩ : S23)) (fun _ => rfl) (opens_struct Try.underlying23 (by kernel_rfl) (by kernel_rfl) (opensAt_cons (opens_i64 Try.underlying3) (opensAt_one (opens_i64 Try.underlying3)))))))) H enc 0 (fun _ => true) true fuel (Value.cells (.agg cs)).toList _ hf
  obtain ⟨l⟩ := cs
  simp only [Value.cells] at hK
  obtain ⟨A0_0, c0_0, rfl, hc0_0, hr0_0⟩ := hK
  have hg0_0 := hg
  exact ⟨A0_0, c0_0, y, rfl, hc0_0, hr0_0, hg0_0⟩
set_option maxRecDepth 100000 in
theorem lifted (os : Os) (started : os.Started) (H : Type) (enc : TypeId × Value → H) :
    ReturnsInHanded {} Try.checked os 9 .any (Rows.fnExactHeapPopSpec.pre6 enc Try.prog Try.f9 Rows.fnExactHeapPopRow.domain false) (Rows.fnExactHeapPopSpec.post enc Try.prog Try.f9 false true false false) := by
  refine returnsInHanded_of_change_sized (C := Try.checked) own started (by kernel_rfl) Try.func9
    (ChangeSpec.witness6 (enc := enc) (C := Try.checked) false ⟨#[], #[.agg #[.slice none 0 0]], []⟩ 12 (by kernel_rfl) (by kernel_rfl) (by kernel_rfl) (by kernel_rfl)) ?_
  intro W base args ds gs before hval0 hW hcnd hsz0 _
  have hsz : (DataW.weightsEach Try.prog (Try.f9.params.toList ++ Rows.fnExactHeapPopSpec.plain.varTypes Try.prog) (ds ++ gs)).all (· ≤ reachBytes) = true := hsz0
  have hval : ∀ (j : Nat) t v, Try.f9.params[j]? = some t → args[j]? = some v → Value.okWide Try.prog W .any base t v := hval0
  have hW' := hW
  obtain ⟨p, q, hA0, hV, rfl, hfz, hnd⟩ := hW
  have hA : DataW.TrodAll enc Try.prog W 0 (fun _ => true) true Try.f9.params.toList args.toList ds p := hA0
  rw [Try.params9] at hA hval hsz
  obtain ⟨v0, vs0, d0, ds0, p0, q0, hargs, rfl, rfl, h0, r0⟩ := trodAll_cons hA
  obtain ⟨rfl, rfl, rfl⟩ := trodAll_nil r0
  obtain rfl : args = #[v0] := by cases args; simp_all
  obtain ⟨rfl, rfl⟩ := trodVars_none hV
  have k0 := h0
  have lt0 : ∀ x ∈ p0, x.block < W.heap.size := by obtain ⟨m, hm⟩ := k0; exact DataW.trod_lt m _ _ _ hm
  obtain ⟨A0_0, c0_0, l0_0, rfl, hc0_0, hr0_0, hg0_0⟩ := open0 ((hval 0 32 v0 rfl rfl)) h0
  clear hA0 hval0 hsz0 hsz
  obtain ⟨k, h⟩ := UFnExactHeapPop.pure l0_0 hg0_0
  refine (laws_FnExactHeapPop.calls k A0_0 c0_0 l0_0 true W hr0_0 hc0_0 h).mono fun e W' he => ?_
  obtain ⟨he, bel0⟩ := he
  have bel : Below W.heap.size W W' := bel0
  subst he
  exact ⟨_, rfl, _, _, _, [], _, [], hW', trodAll_mk1 (shut_bool Try.underlying4 _), (trodAll_cons_mk (Below.trod laidOut (by kernel_rfl) (of_decide_eq_true (by kernel_rfl)) k0 bel lt0) trodAll_mk0), rfl, bel.frame _, fun h => by cases h⟩
theorem over : Rows.fnExactHeapPopRow.holds Try.pinned (OpenSpec.ofChange Rows.fnExactHeapPopSpec) :=
  OpenClaim.holds_of_wide 9 Try.f9 rfl rfl rfl rfl rfl rfl rfl ⟨rfl, rfl, rfl, rfl, rfl⟩ rfl rfl rfl rfl rfl (by kernel_rfl) Try.func9 (by kernel_rfl)
    (of_decide_eq_true (by kernel_rfl)) (by unfold Func.isWrapper; first | (rw [if_pos (by decide +kernel)]; kernel_rfl) | (rw [if_neg (by decide +kernel)]; exact ⟨rfl, rfl⟩))
    (fun os started H enc _ => lifted os started H enc)
theorem proved : Rows.FnExactHeapPopSaid := over
end Go.Proofs.Ytjpmhbjbgooheaa.fnExactHeapPop
namespace Go.Proofs.Ytjpmhbjbgooheaa
/-- The row, under a short name, for the claim. -/
theorem fnExactHeapPop_holds : Rows.FnExactHeapPopSaid := fnExactHeapPop.proved
#print axioms fnExactHeapPop_holds
end Go.Proofs.Ytjpmhbjbgooheaa
