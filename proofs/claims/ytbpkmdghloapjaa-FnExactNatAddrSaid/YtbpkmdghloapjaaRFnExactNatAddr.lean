/- FnExactNatAddr: for every input the law returns true; every argument reads as it did. No condition. -/
import Derived.Test.YtbpkmdghloapjaaRows
import Derived.Test.YtbpkmdghloapjaaPNax8
import Derived.Test.YtbpkmdghloapjaaUFnExactNatAddr
import Derived.Test.YtbpkmdghloapjaaFr
import Derived.WalkKit
import Derived.ProofKit
import Derived.OpenShut
import Derived.ShutString
import Derived.ChangeOld
import Derived.Below
import Derived.SizedLaws
namespace Go.Proofs.Ytbpkmdghloapjaa.fnExactNatAddr
open Go.ChangeShapes Go.WideShapes Go.ChangeAt Go.RowKit Go.Proofs.YtbpkmdghloapjaaW.PrintWords Go.Proofs.YtbpkmdghloapjaaFr Go.Proofs.Ytbpkmdghloapjaa.PNa
open Go.ChangeMaps (open_string shut_string)
set_option linter.unusedVariables false
theorem own : ownKnob Try.prog.godebug = none := by kernel_rfl
theorem laidOut : laidOutB Try.prog = true := by kernel_rfl
set_option maxRecDepth 100000 in
theorem open0 {H : Type} {enc : TypeId × Value → H} {w : World} {b0 : Nat} {v : Value} {d : DataW H} {p : List MemPlace} (hv : Value.okWide Try.prog w .any b0 25 v) (h : DataW.Trod enc Try.prog w 0 (fun _ => true) true 25 v d p) :
    ∃ (a0_0 : Int) (a0_1 : Int) (a0_2 : Int) (a0_3 : Int) (a0_4 : Int) (a0_5 : Int), v = .agg #[.int .i64 a0_0, .int .i64 a0_1, .int .i64 a0_2, .int .i64 a0_3, .int .i64 a0_4, .int .i64 a0_5] ∧ I64 a0_0 ∧ I64 a0_1 ∧ I64 a0_2 ∧ I64 a0_3 ∧ I64 a0_4 ∧ I64 a0_5 := by
  obtain ⟨cs, rfl, _⟩ := okWide_struct Try.underlying25 hv
  obtain ⟨fuel, hf⟩ := h
  obtain ⟨y, hK, hg⟩ := (opens_struct Try.underlying25 (by kernel_rfl) (by kernel_rfl) (opensAt_cons (opens_struct Try.underlying23 (by kernel_rfl) (by kernel_rfl) (opensAt_cons (opens_i64 Try.underlying3) (opensAt_cons (opens_i64 Try.underlying3) (opensAt_cons (opens_i64 Try.underlying3) (opensAt_cons (opens_i64 Try.underlying3) (opensAt_one (opens_i64 Try.underlying3))))))) (opensAt_one (opens_i64 Try.underlying3)))) H enc 0 (fun _ => true) true fuel (Value.cells (.agg cs)).toList _ hf
  obtain ⟨l⟩ := cs
  simp only [Value.cells] at hK
  obtain ⟨_, _, rfl, ⟨_, _, rfl, rfl, ⟨_, _, rfl, rfl, ⟨_, _, rfl, rfl, ⟨_, _, rfl, rfl, rfl⟩⟩⟩⟩, rfl⟩ := hK
  obtain ⟨⟨hg0_0, hg0_1, hg0_2, hg0_3, hg0_4⟩, hg0_5⟩ := hg
  exact ⟨y.1.1, y.1.2.1, y.1.2.2.1, y.1.2.2.2.1, y.1.2.2.2.2, y.2, rfl, hg0_0, hg0_1, hg0_2, hg0_3, hg0_4, hg0_5⟩
set_option maxRecDepth 100000 in
theorem open1 {H : Type} {enc : TypeId × Value → H} {w : World} {b0 : Nat} {v : Value} {d : DataW H} {p : List MemPlace} (hv : Value.okWide Try.prog w .any b0 25 v) (h : DataW.Trod enc Try.prog w 0 (fun _ => true) true 25 v d p) :
    ∃ (a1_0 : Int) (a1_1 : Int) (a1_2 : Int) (a1_3 : Int) (a1_4 : Int) (a1_5 : Int), v = .agg #[.int .i64 a1_0, .int .i64 a1_1, .int .i64 a1_2, .int .i64 a1_3, .int .i64 a1_4, .int .i64 a1_5] ∧ I64 a1_0 ∧ I64 a1_1 ∧ I64 a1_2 ∧ I64 a1_3 ∧ I64 a1_4 ∧ I64 a1_5 := by
  obtain ⟨cs, rfl, _⟩ := okWide_struct Try.underlying25 hv
  obtain ⟨fuel, hf⟩ := h
  obtain ⟨y, hK, hg⟩ := (opens_struct Try.underlying25 (by kernel_rfl) (by kernel_rfl) (opensAt_cons (opens_struct Try.underlying23 (by kernel_rfl) (by kernel_rfl) (opensAt_cons (opens_i64 Try.underlying3) (opensAt_cons (opens_i64 Try.underlying3) (opensAt_cons (opens_i64 Try.underlying3) (opensAt_cons (opens_i64 Try.underlying3) (opensAt_one (opens_i64 Try.underlying3))))))) (opensAt_one (opens_i64 Try.underlying3)))) H enc 0 (fun _ => true) true fuel (Value.cells (.agg cs)).toList _ hf
  obtain ⟨l⟩ := cs
  simp only [Value.cells] at hK
  obtain ⟨_, _, rfl, ⟨_, _, rfl, rfl, ⟨_, _, rfl, rfl, ⟨_, _, rfl, rfl, ⟨_, _, rfl, rfl, rfl⟩⟩⟩⟩, rfl⟩ := hK
  obtain ⟨⟨hg1_0, hg1_1, hg1_2, hg1_3, hg1_4⟩, hg1_5⟩ := hg
  exact ⟨y.1.1, y.1.2.1, y.1.2.2.1, y.1.2.2.2.1, y.1.2.2.2.2, y.2, rfl, hg1_0, hg1_1, hg1_2, hg1_3, hg1_4, hg1_5⟩
set_option maxRecDepth 100000 in
theorem open2 {H : Type} {enc : TypeId × Value → H} {w : World} {b0 : Nat} {v : Value} {d : DataW H} {p : List MemPlace} (hv : Value.okWide Try.prog w .any b0 23 v) (h : DataW.Trod enc Try.prog w 0 (fun _ => true) true 23 v d p) :
    ∃ (a2_0 : Int) (a2_1 : Int) (a2_2 : Int) (a2_3 : Int) (a2_4 : Int), v = .agg #[.int .i64 a2_0, .int .i64 a2_1, .int .i64 a2_2, .int .i64 a2_3, .int .i64 a2_4] ∧ I64 a2_0 ∧ I64 a2_1 ∧ I64 a2_2 ∧ I64 a2_3 ∧ I64 a2_4 := by
  obtain ⟨cs, rfl, _⟩ := okWide_struct Try.underlying23 hv
  obtain ⟨fuel, hf⟩ := h
  obtain ⟨y, hK, hg⟩ := (opens_struct Try.underlying23 (by kernel_rfl) (by kernel_rfl) (opensAt_cons (opens_i64 Try.underlying3) (opensAt_cons (opens_i64 Try.underlying3) (opensAt_cons (opens_i64 Try.underlying3) (opensAt_cons (opens_i64 Try.underlying3) (opensAt_one (opens_i64 Try.underlying3))))))) H enc 0 (fun _ => true) true fuel (Value.cells (.agg cs)).toList _ hf
  obtain ⟨l⟩ := cs
  simp only [Value.cells] at hK
  obtain ⟨_, _, rfl, rfl, ⟨_, _, rfl, rfl, ⟨_, _, rfl, rfl, ⟨_, _, rfl, rfl, rfl⟩⟩⟩⟩ := hK
  obtain ⟨hg2_0, hg2_1, hg2_2, hg2_3, hg2_4⟩ := hg
  exact ⟨y.1, y.2.1, y.2.2.1, y.2.2.2.1, y.2.2.2.2, rfl, hg2_0, hg2_1, hg2_2, hg2_3, hg2_4⟩
set_option maxRecDepth 100000 in
theorem lifted (os : Os) (started : os.Started) (H : Type) (enc : TypeId × Value → H) :
    ReturnsInHanded {} Try.checked os 3 .any (Rows.fnExactNatAddrSpec.pre6 enc Try.prog Try.f3 Rows.fnExactNatAddrRow.domain false) (Rows.fnExactNatAddrSpec.post enc Try.prog Try.f3 false true false false) := by
  refine returnsInHanded_of_change_sized (C := Try.checked) own started (by kernel_rfl) Try.func3
    (ChangeSpec.witness6 (enc := enc) (C := Try.checked) false ⟨#[], #[.agg #[.int .i64 0, .int .i64 0, .int .i64 0, .int .i64 0, .int .i64 0, .int .i64 0], .agg #[.int .i64 0, .int .i64 0, .int .i64 0, .int .i64 0, .int .i64 0, .int .i64 0], .agg #[.int .i64 0, .int .i64 0, .int .i64 0, .int .i64 0, .int .i64 0]], []⟩ 12 (by kernel_rfl) (by kernel_rfl) (by kernel_rfl) (by kernel_rfl)) ?_
  intro W base args ds gs before hval0 hW hcnd hsz0 _
  have hsz : (DataW.weightsEach Try.prog (Try.f3.params.toList ++ Rows.fnExactNatAddrSpec.plain.varTypes Try.prog) (ds ++ gs)).all (· ≤ reachBytes) = true := hsz0
  have hval : ∀ (j : Nat) t v, Try.f3.params[j]? = some t → args[j]? = some v → Value.okWide Try.prog W .any base t v := hval0
  have hW' := hW
  obtain ⟨p, q, hA0, hV, rfl, hfz, hnd⟩ := hW
  have hA : DataW.TrodAll enc Try.prog W 0 (fun _ => true) true Try.f3.params.toList args.toList ds p := hA0
  rw [Try.params3] at hA hval hsz
  obtain ⟨v0, vs0, d0, ds0, p0, q0, hargs, rfl, rfl, h0, r0⟩ := trodAll_cons hA
  obtain ⟨v1, vs1, d1, ds1, p1, q1, rfl, rfl, rfl, h1, r1⟩ := trodAll_cons r0
  obtain ⟨v2, vs2, d2, ds2, p2, q2, rfl, rfl, rfl, h2, r2⟩ := trodAll_cons r1
  obtain ⟨rfl, rfl, rfl⟩ := trodAll_nil r2
  obtain rfl : args = #[v0, v1, v2] := by cases args; simp_all
  obtain ⟨rfl, rfl⟩ := trodVars_none hV
  have k0 := h0
  have lt0 : ∀ x ∈ p0, x.block < W.heap.size := by obtain ⟨m, hm⟩ := k0; exact DataW.trod_lt m _ _ _ hm
  obtain ⟨a0_0, a0_1, a0_2, a0_3, a0_4, a0_5, rfl, hg0_0, hg0_1, hg0_2, hg0_3, hg0_4, hg0_5⟩ := open0 ((hval 0 25 v0 rfl rfl)) h0
  have k1 := h1
  have lt1 : ∀ x ∈ p1, x.block < W.heap.size := by obtain ⟨m, hm⟩ := k1; exact DataW.trod_lt m _ _ _ hm
  obtain ⟨a1_0, a1_1, a1_2, a1_3, a1_4, a1_5, rfl, hg1_0, hg1_1, hg1_2, hg1_3, hg1_4, hg1_5⟩ := open1 ((hval 1 25 v1 rfl rfl)) h1
  have k2 := h2
  have lt2 : ∀ x ∈ p2, x.block < W.heap.size := by obtain ⟨m, hm⟩ := k2; exact DataW.trod_lt m _ _ _ hm
  obtain ⟨a2_0, a2_1, a2_2, a2_3, a2_4, rfl, hg2_0, hg2_1, hg2_2, hg2_3, hg2_4⟩ := open2 ((hval 2 23 v2 rfl rfl)) h2
  clear hA0 hval0 hsz0 hsz
  obtain ⟨k, h⟩ := UFnExactNatAddr.pure a0_0 a0_1 a0_2 a0_3 a0_4 a0_5 a1_0 a1_1 a1_2 a1_3 a1_4 a1_5 a2_0 a2_1 a2_2 a2_3 a2_4 hg0_0 hg0_1 hg0_2 hg0_3 hg0_4 hg0_5 hg1_0 hg1_1 hg1_2 hg1_3 hg1_4 hg1_5 hg2_0 hg2_1 hg2_2 hg2_3 hg2_4
  refine (laws_FnExactNatAddr.calls k a0_0 a0_1 a0_2 a0_3 a0_4 a0_5 a1_0 a1_1 a1_2 a1_3 a1_4 a1_5 a2_0 a2_1 a2_2 a2_3 a2_4 true W h).mono fun e W' he => ?_
  obtain ⟨he, bel0⟩ := he
  have bel : Below W.heap.size W W' := bel0
  subst he
  exact ⟨_, rfl, _, _, _, [], _, [], hW', trodAll_mk1 (shut_bool Try.underlying4 _), (trodAll_cons_mk (Below.trod laidOut (by kernel_rfl) (of_decide_eq_true (by kernel_rfl)) k0 bel lt0) (trodAll_cons_mk (Below.trod laidOut (by kernel_rfl) (of_decide_eq_true (by kernel_rfl)) k1 bel lt1) (trodAll_cons_mk (Below.trod laidOut (by kernel_rfl) (of_decide_eq_true (by kernel_rfl)) k2 bel lt2) trodAll_mk0))), rfl, bel.frame _, fun h => by cases h⟩
theorem over : Rows.fnExactNatAddrRow.holds Try.pinned (OpenSpec.ofChange Rows.fnExactNatAddrSpec) :=
  OpenClaim.holds_of_wide 3 Try.f3 rfl rfl rfl rfl rfl rfl rfl ⟨rfl, rfl, rfl, rfl, rfl⟩ rfl rfl rfl rfl rfl (by kernel_rfl) Try.func3 (by kernel_rfl)
    (of_decide_eq_true (by kernel_rfl)) (by unfold Func.isWrapper; first | (rw [if_pos (by decide +kernel)]; kernel_rfl) | (rw [if_neg (by decide +kernel)]; exact ⟨rfl, rfl⟩))
    (fun os started H enc _ => lifted os started H enc)
theorem proved : Rows.FnExactNatAddrSaid := over
end Go.Proofs.Ytbpkmdghloapjaa.fnExactNatAddr
namespace Go.Proofs.Ytbpkmdghloapjaa
/-- The row, under a short name, for the claim. -/
theorem fnExactNatAddr_holds : Rows.FnExactNatAddrSaid := fnExactNatAddr.proved
#print axioms fnExactNatAddr_holds
end Go.Proofs.Ytbpkmdghloapjaa
