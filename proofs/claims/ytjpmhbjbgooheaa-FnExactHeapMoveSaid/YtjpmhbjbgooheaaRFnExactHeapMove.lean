/- FnExactHeapMove: for every input the law returns true; every argument reads as it did. No condition. -/
import Derived.Test.YtjpmhbjbgooheaaRows
import Derived.Test.YtjpmhbjbgooheaaPMvx8
import Derived.Test.YtjpmhbjbgooheaaUFnExactHeapMove
import Derived.Test.YtjpmhbjbgooheaaFr
import Derived.WalkKit
import Derived.ProofKit
import Derived.OpenShut
import Derived.ShutString
import Derived.ChangeOld
import Derived.Below
import Derived.SizedLaws
namespace Go.Proofs.Ytjpmhbjbgooheaa.fnExactHeapMove
open Go.ChangeShapes Go.WideShapes Go.ChangeAt Go.RowKit Go.Proofs.YtjpmhbjbgooheaaW.PrintWords Go.Proofs.YtjpmhbjbgooheaaFr Go.Proofs.Ytjpmhbjbgooheaa.PMv
open Go.ChangeMaps (open_string shut_string)
set_option linter.unusedVariables false
theorem own : ownKnob Try.prog.godebug = none := by kernel_rfl
theorem laidOut : laidOutB Try.prog = true := by kernel_rfl
set_option maxRecDepth 100000 in
theorem open0 {H : Type} {enc : TypeId × Value → H} {w : World} {b0 : Nat} {v : Value} {d : DataW H} {p : List MemPlace} (hv : Value.okWide Try.prog w .any b0 32 v) (h : DataW.Trod enc Try.prog w 0 (fun _ => true) true 32 v d p) :
    ∃ (A0_0 : Option Addr) (c0_0 : Nat) (l0_0 : List (S23)), v = .agg #[.slice A0_0 l0_0.length c0_0] ∧ l0_0.length ≤ c0_0 ∧ Kd.C k23 w A0_0 l0_0.length l0_0 ∧ (l0_0.length ≤ maxLen ∧ ∀ y ∈ l0_0, (I64 y.f0 ∧ I64 y.f1)) := by
  obtain ⟨cs, rfl, _⟩ := okWide_struct Try.underlying32 hv
  obtain ⟨fuel, hf⟩ := h
  obtain ⟨y, hK, hg⟩ := (opens_struct Try.underlying32 (by kernel_rfl) (by kernel_rfl) (opensAt_one (opens_slice Try.underlying30 (by kernel_rfl) (opens_iso (fun x : S23 => (x.f0, x.f1)) (fun z => (⟨z.1, z.2⟩ : S23)) (fun _ => rfl) (opens_struct Try.underlying23 (by kernel_rfl) (by kernel_rfl) (opensAt_cons (opens_i64 Try.underlying3) (opensAt_one (opens_i64 Try.underlying3)))))))) H enc 0 (fun _ => true) true fuel (Value.cells (.agg cs)).toList _ hf
  obtain ⟨l⟩ := cs
  simp only [Value.cells] at hK
  obtain ⟨A0_0, c0_0, rfl, hc0_0, hr0_0⟩ := hK
  have hg0_0 := hg
  exact ⟨A0_0, c0_0, y, rfl, hc0_0, hr0_0, hg0_0⟩
set_option maxRecDepth 100000 in
theorem open1 {H : Type} {enc : TypeId × Value → H} {w : World} {b0 : Nat} {v : Value} {d : DataW H} {p : List MemPlace} (hv : Value.okWide Try.prog w .any b0 23 v) (h : DataW.Trod enc Try.prog w 0 (fun _ => true) true 23 v d p) :
    ∃ (a1_0 : Int) (a1_1 : Int), v = .agg #[.int .i64 a1_0, .int .i64 a1_1] ∧ I64 a1_0 ∧ I64 a1_1 := by
  obtain ⟨cs, rfl, _⟩ := okWide_struct Try.underlying23 hv
  obtain ⟨fuel, hf⟩ := h
  obtain ⟨y, hK, hg⟩ := (opens_iso (fun x : S23 => (x.f0, x.f1)) (fun z => (⟨z.1, z.2⟩ : S23)) (fun _ => rfl) (opens_struct Try.underlying23 (by kernel_rfl) (by kernel_rfl) (opensAt_cons (opens_i64 Try.underlying3) (opensAt_one (opens_i64 Try.underlying3))))) H enc 0 (fun _ => true) true fuel (Value.cells (.agg cs)).toList _ hf
  obtain ⟨l⟩ := cs
  simp only [Value.cells] at hK
  obtain ⟨_, _, rfl, rfl, rfl⟩ := hK
  obtain ⟨hg1_0, hg1_1⟩ := hg
  exact ⟨y.f0, y.f1, rfl, hg1_0, hg1_1⟩
set_option maxRecDepth 100000 in
theorem lifted (os : Os) (started : os.Started) (H : Type) (enc : TypeId × Value → H) :
    ReturnsInHanded {} Try.checked os 8 .any (Rows.fnExactHeapMoveSpec.pre6 enc Try.prog Try.f8 Rows.fnExactHeapMoveRow.domain false) (Rows.fnExactHeapMoveSpec.post enc Try.prog Try.f8 false true false false) := by
  refine returnsInHanded_of_change_sized (C := Try.checked) own started (by kernel_rfl) Try.func8
    (ChangeSpec.witness6 (enc := enc) (C := Try.checked) false ⟨#[], #[.agg #[.slice none 0 0], .agg #[.int .i64 0, .int .i64 0]], []⟩ 12 (by kernel_rfl) (by kernel_rfl) (by kernel_rfl) (by kernel_rfl)) ?_
  intro W base args ds gs before hval0 hW hcnd hsz0 _
  have hsz : (DataW.weightsEach Try.prog (Try.f8.params.toList ++ Rows.fnExactHeapMoveSpec.plain.varTypes Try.prog) (ds ++ gs)).all (· ≤ reachBytes) = true := hsz0
  have hval : ∀ (j : Nat) t v, Try.f8.params[j]? = some t → args[j]? = some v → Value.okWide Try.prog W .any base t v := hval0
  have hW' := hW
  obtain ⟨p, q, hA0, hV, rfl, hfz, hnd⟩ := hW
  have hA : DataW.TrodAll enc Try.prog W 0 (fun _ => true) true Try.f8.params.toList args.toList ds p := hA0
  rw [Try.params8] at hA hval hsz
  obtain ⟨v0, vs0, d0, ds0, p0, q0, hargs, rfl, rfl, h0, r0⟩ := trodAll_cons hA
  obtain ⟨v1, vs1, d1, ds1, p1, q1, rfl, rfl, rfl, h1, r1⟩ := trodAll_cons r0
  obtain ⟨rfl, rfl, rfl⟩ := trodAll_nil r1
  obtain rfl : args = #[v0, v1] := by cases args; simp_all
  obtain ⟨rfl, rfl⟩ := trodVars_none hV
  have k0 := h0
  have lt0 : ∀ x ∈ p0, x.block < W.heap.size := by obtain ⟨m, hm⟩ := k0; exact DataW.trod_lt m _ _ _ hm
  obtain ⟨A0_0, c0_0, l0_0, rfl, hc0_0, hr0_0, hg0_0⟩ := open0 ((hval 0 32 v0 rfl rfl)) h0
  have k1 := h1
  have lt1 : ∀ x ∈ p1, x.block < W.heap.size := by obtain ⟨m, hm⟩ := k1; exact DataW.trod_lt m _ _ _ hm
  obtain ⟨a1_0, a1_1, rfl, hg1_0, hg1_1⟩ := open1 ((hval 1 23 v1 rfl rfl)) h1
  clear hA0 hval0 hsz0 hsz
  obtain ⟨k, h⟩ := UFnExactHeapMove.pure l0_0 a1_0 a1_1 hg0_0 hg1_0 hg1_1
  refine (laws_FnExactHeapMove.calls k A0_0 c0_0 l0_0 a1_0 a1_1 true W hr0_0 hc0_0 h).mono fun e W' he => ?_
  obtain ⟨he, bel0⟩ := he
  have bel : Below W.heap.size W W' := bel0
  subst he
  exact ⟨_, rfl, _, _, _, [], _, [], hW', trodAll_mk1 (shut_bool Try.underlying4 _), (trodAll_cons_mk (Below.trod laidOut (by kernel_rfl) (of_decide_eq_true (by kernel_rfl)) k0 bel lt0) (trodAll_cons_mk (Below.trod laidOut (by kernel_rfl) (of_decide_eq_true (by kernel_rfl)) k1 bel lt1) trodAll_mk0)), rfl, bel.frame _, fun h => by cases h⟩
theorem over : Rows.fnExactHeapMoveRow.holds Try.pinned (OpenSpec.ofChange Rows.fnExactHeapMoveSpec) :=
  OpenClaim.holds_of_wide 8 Try.f8 rfl rfl rfl rfl rfl rfl rfl ⟨rfl, rfl, rfl, rfl, rfl⟩ rfl rfl rfl rfl rfl (by kernel_rfl) Try.func8 (by kernel_rfl)
    (of_decide_eq_true (by kernel_rfl)) (by unfold Func.isWrapper; first | (rw [if_pos (by decide +kernel)]; kernel_rfl) | (rw [if_neg (by decide +kernel)]; exact ⟨rfl, rfl⟩))
    (fun os started H enc _ => lifted os started H enc)
theorem proved : Rows.FnExactHeapMoveSaid := over
end Go.Proofs.Ytjpmhbjbgooheaa.fnExactHeapMove
namespace Go.Proofs.Ytjpmhbjbgooheaa
/-- The row, under a short name, for the claim. -/
theorem fnExactHeapMove_holds : Rows.FnExactHeapMoveSaid := fnExactHeapMove.proved
#print axioms fnExactHeapMove_holds
end Go.Proofs.Ytjpmhbjbgooheaa
