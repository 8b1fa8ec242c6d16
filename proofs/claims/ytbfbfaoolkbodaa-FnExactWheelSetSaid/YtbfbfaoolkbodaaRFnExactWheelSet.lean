/- FnExactWheelSet: for every input the law returns true; every argument reads as it did. No condition. -/
import Derived.Test.YtbfbfaoolkbodaaRows
import Derived.Test.YtbfbfaoolkbodaaPWsx4
import Derived.Test.YtbfbfaoolkbodaaUFnExactWheelSet
import Derived.Test.YtbfbfaoolkbodaaFr
import Derived.WalkKit
import Derived.ProofKit
import Derived.OpenShut
import Derived.ShutString
import Derived.ChangeOld
import Derived.Below
import Derived.SizedLaws
namespace Go.Proofs.Ytbfbfaoolkbodaa.fnExactWheelSet
open Go.ChangeShapes Go.WideShapes Go.ChangeAt Go.RowKit Go.Proofs.YtbfbfaoolkbodaaW.PrintWords Go.Proofs.YtbfbfaoolkbodaaFr Go.Proofs.Ytbfbfaoolkbodaa.PWs
open Go.ChangeMaps (open_string shut_string)
set_option linter.unusedVariables false
theorem own : ownKnob Try.prog.godebug = none := by kernel_rfl
theorem laidOut : laidOutB Try.prog = true := by kernel_rfl
set_option maxRecDepth 100000 in
theorem open0 {H : Type} {enc : TypeId × Value → H} {w : World} {b0 : Nat} {v : Value} {d : DataW H} {p : List MemPlace} (hv : Value.okWide Try.prog w .any b0 31 v) (h : DataW.Trod enc Try.prog w 0 (fun _ => true) true 31 v d p) :
    ∃ (a0_0 : Int) (A0_1 : Option Addr) (c0_1 : Nat) (l0_1 : List (S65)), v = .agg #[.int .i64 a0_0, .slice A0_1 l0_1.length c0_1] ∧ I64 a0_0 ∧ l0_1.length ≤ c0_1 ∧ Kd.C k65 w A0_1 l0_1.length l0_1 ∧ (l0_1.length ≤ maxLen ∧ ∀ y ∈ l0_1, ((y.f0.length ≤ maxLen ∧ ∀ y_ ∈ y.f0, (I64 y_.f0 ∧ I64 y_.f1)))) := by
  obtain ⟨cs, rfl, _⟩ := okWide_struct Try.underlying31 hv
  obtain ⟨fuel, hf⟩ := h
  obtain ⟨y, hK, hg⟩ := (opens_struct Try.underlying31 (by kernel_rfl) (by kernel_rfl) (opensAt_cons (opens_i64 Try.underlying3) (opensAt_one (opens_slice Try.underlying29 (by kernel_rfl) (opens_iso (fun x : S65 => (x.f0)) (fun z => (⟨z⟩ : S65)) (fun _ => rfl) (opens_struct Try.underlying65 (by kernel_rfl) (by kernel_rfl) (opensAt_one (opens_slice Try.underlying63 (by kernel_rfl) (opens_iso (fun x : S76 => (x.f0, x.f1)) (fun z => (⟨z.1, z.2⟩ : S76)) (fun _ => rfl) (opens_struct Try.underlying76 (by kernel_rfl) (by kernel_rfl) (opensAt_cons (opens_i64 Try.underlying3) (opensAt_one (opens_i64 Try.underlying3))))))))))))) H enc 0 (fun _ => true) true fuel (Value.cells (.agg cs)).toList _ hf
  obtain ⟨l⟩ := cs
  simp only [Value.cells] at hK
  obtain ⟨_, _, rfl, rfl, ⟨A0_1, c0_1, rfl, hc0_1, hr0_1⟩⟩ := hK
  obtain ⟨hg0_0, hg0_1⟩ := hg
  exact ⟨y.1, A0_1, c0_1, y.2, rfl, hg0_0, hc0_1, hr0_1, hg0_1⟩
set_option maxRecDepth 100000 in
theorem lifted (os : Os) (started : os.Started) (H : Type) (enc : TypeId × Value → H) :
    ReturnsInHanded {} Try.checked os 7 .any (Rows.fnExactWheelSetSpec.pre6 enc Try.prog Try.f7 Rows.fnExactWheelSetRow.domain false) (Rows.fnExactWheelSetSpec.post enc Try.prog Try.f7 false true false false) := by
  refine returnsInHanded_of_change_sized (C := Try.checked) own started (by kernel_rfl) Try.func7
    (ChangeSpec.witness6 (enc := enc) (C := Try.checked) false ⟨#[], #[.agg #[.int .i64 0, .slice none 0 0], .int .i64 0, .int .i64 0], []⟩ 12 (by kernel_rfl) (by kernel_rfl) (by kernel_rfl) (by kernel_rfl)) ?_
  intro W base args ds gs before hval0 hW hcnd hsz0 _
  have hsz : (DataW.weightsEach Try.prog (Try.f7.params.toList ++ Rows.fnExactWheelSetSpec.plain.varTypes Try.prog) (ds ++ gs)).all (· ≤ reachBytes) = true := hsz0
  have hval : ∀ (j : Nat) t v, Try.f7.params[j]? = some t → args[j]? = some v → Value.okWide Try.prog W .any base t v := hval0
  have hW' := hW
  obtain ⟨p, q, hA0, hV, rfl, hfz, hnd⟩ := hW
  have hA : DataW.TrodAll enc Try.prog W 0 (fun _ => true) true Try.f7.params.toList args.toList ds p := hA0
  rw [Try.params7] at hA hval hsz
  obtain ⟨v0, vs0, d0, ds0, p0, q0, hargs, rfl, rfl, h0, r0⟩ := trodAll_cons hA
  obtain ⟨v1, vs1, d1, ds1, p1, q1, rfl, rfl, rfl, h1, r1⟩ := trodAll_cons r0
  obtain ⟨v2, vs2, d2, ds2, p2, q2, rfl, rfl, rfl, h2, r2⟩ := trodAll_cons r1
  obtain ⟨rfl, rfl, rfl⟩ := trodAll_nil r2
  obtain rfl : args = #[v0, v1, v2] := by cases args; simp_all
  obtain ⟨rfl, rfl⟩ := trodVars_none hV
  have k0 := h0
  have lt0 : ∀ x ∈ p0, x.block < W.heap.size := by obtain ⟨m, hm⟩ := k0; exact DataW.trod_lt m _ _ _ hm
  obtain ⟨a0_0, A0_1, c0_1, l0_1, rfl, hg0_0, hc0_1, hr0_1, hg0_1⟩ := open0 ((hval 0 31 v0 rfl rfl)) h0
  obtain ⟨a1, rfl, rfl, rfl, w1⟩ := open_int Try.underlying3 (hval 1 3 v1 rfl rfl) h1
  have hg1 := i64_of w1
  obtain ⟨a2, rfl, rfl, rfl, w2⟩ := open_int Try.underlying3 (hval 2 3 v2 rfl rfl) h2
  have hg2 := i64_of w2
  clear hA0 hval0 hsz0 hsz
  obtain ⟨k, h⟩ := UFnExactWheelSet.pure a0_0 l0_1 a1 a2 hg0_0 hg0_1 hg1 hg2
  refine (laws_FnExactWheelSet.calls k a0_0 A0_1 c0_1 l0_1 a1 a2 true W hr0_1 hc0_1 h).mono fun e W' he => ?_
  obtain ⟨he, bel0⟩ := he
  have bel : Below W.heap.size W W' := bel0
  subst he
  exact ⟨_, rfl, _, _, _, [], _, [], hW', trodAll_mk1 (shut_bool Try.underlying4 _), (trodAll_cons_mk (Below.trod laidOut (by kernel_rfl) (of_decide_eq_true (by kernel_rfl)) k0 bel lt0) (trodAll_cons_mk (shut_int Try.underlying3 w1) (trodAll_cons_mk (shut_int Try.underlying3 w2) trodAll_mk0))), rfl, bel.frame _, fun h => by cases h⟩
theorem over : Rows.fnExactWheelSetRow.holds Try.pinned (OpenSpec.ofChange Rows.fnExactWheelSetSpec) :=
  OpenClaim.holds_of_wide 7 Try.f7 rfl rfl rfl rfl rfl rfl rfl ⟨rfl, rfl, rfl, rfl, rfl⟩ rfl rfl rfl rfl rfl (by kernel_rfl) Try.func7 (by kernel_rfl)
    (of_decide_eq_true (by kernel_rfl)) (by unfold Func.isWrapper; first | (rw [if_pos (by decide +kernel)]; kernel_rfl) | (rw [if_neg (by decide +kernel)]; exact ⟨rfl, rfl⟩))
    (fun os started H enc _ => lifted os started H enc)
theorem proved : Rows.FnExactWheelSetSaid := over
end Go.Proofs.Ytbfbfaoolkbodaa.fnExactWheelSet
namespace Go.Proofs.Ytbfbfaoolkbodaa
/-- The row, under a short name, for the claim. -/
theorem fnExactWheelSet_holds : Rows.FnExactWheelSetSaid := fnExactWheelSet.proved
#print axioms fnExactWheelSet_holds
end Go.Proofs.Ytbfbfaoolkbodaa
