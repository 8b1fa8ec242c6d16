/- FnExactVecText: for every input the law returns true; the argument reads as it did; the listed table stands as the program lays it (the tie). And the tied card. -/
import Derived.Test.YtiokbmbdhejciaaDoorRows
import Derived.Test.YtiokbmbdhejciaaDoorCards
import Derived.Test.YtiokbmbdhejciaaDoorTie
import Derived.Test.YtiokbmbdhejciaaDoorI
import Derived.Test.YtiokbmbdhejciaaDoorUFnExactVecText
import Derived.Test.YtiokbmbdhejciaaDoorFr
import Derived.WalkKit
import Derived.ProofKit
import Derived.LaidMore
import Derived.OpenShut
import Derived.Stop.Joined
import Derived.ChangeOld
import Derived.Below
import Derived.SizedLaws
import Derived.SevenTiedAt
namespace Go.Proofs.YtiokbmbdhejciaaDoor.fnExactVecText
open Go.ChangeShapes Go.WideShapes Go.ChangeAt Go.RowKit Go.Proofs.YtiokbmbdhejciaaDoorW.PrintWords Go.Proofs.YtiokbmbdhejciaaDoorFr Go.Proofs.YtiokbmbdhejciaaDoor.PFnExactVecText
set_option linter.unusedVariables false
theorem own : ownKnob Tryd.prog.godebug = none := by kernel_rfl
theorem laidOut : laidOutB Tryd.prog = true := by kernel_rfl
abbrev laids : List (String × DataW Unit) := Rows.fnExactVecTextRow.laid
/-- The door's own heap meets the condition. -/
theorem door_met (os : Os) (args : Array Value) : laidMetH Tryd.prog laids ((World.doorLaid Tryd.prog 4000 os).forCall (fun _ _ => 0) ⟨#[], args, []⟩).memory :=
  laidMetH_of_parts3 (fuel := 8) (laidMet_of_run' 8 (by kernel_rfl) (by kernel_rfl)) (by kernel_rfl) (by kernel_rfl)
theorem of_laid {W : World} (h : laidMetH Tryd.prog laids W) : Tab W := by
  rw [MakeChecks.laidMetH_plain _ _ _ (by kernel_rfl)] at h
  obtain ⟨g, t, cs, fuel, p, hg, ht, hvar, hd⟩ := Lib.laidMet.reads h (n := "internal/strconv.uint64pow10") (d := Lib.tabData .u64 Lib.pow10Tab) (.tail _ (.tail _ (.head _)))
  obtain rfl := Option.some.inj ((show Tryd.prog.globalNamed "internal/strconv.uint64pow10" = some 3 by kernel_rfl).symm.trans hg)
  obtain rfl := Option.some.inj ((show (Tryd.prog.globals[3]?).map (·.type) = some 75 by kernel_rfl).symm.trans ht)
  unfold Tab Lib.TabIs
  rw [hvar, ← Lib.cells_of_tab Tryd.underlying75 Tryd.underlying61 (by kernel_rfl) (by kernel_rfl) hd]
set_option maxRecDepth 100000 in
theorem open0 {H : Type} {enc : TypeId × Value → H} {w : World} {b0 : Nat} {v : Value} {d : DataW H} {p : List MemPlace} (hv : Value.okWide Tryd.prog w .any b0 23 v) (h : DataW.Trod enc Tryd.prog w 0 (fun _ => true) true 23 v d p) :
    ∃ (a0_0 : Int) (a0_1 : Int) (a0_2 : Int), v = .agg #[.int .i64 a0_0, .int .i64 a0_1, .int .i64 a0_2] ∧ I64 a0_0 ∧ I64 a0_1 ∧ I64 a0_2 := by
  obtain ⟨cs, rfl, _⟩ := okWide_struct Tryd.underlying23 hv
  obtain ⟨fuel, hf⟩ := h
  obtain ⟨y, hK, hg⟩ := (opens_struct Tryd.underlying23 (by kernel_rfl) (by kernel_rfl) (opensAt_cons (opens_i64 Tryd.underlying3) (opensAt_cons (opens_i64 Tryd.underlying3) (opensAt_one (opens_i64 Tryd.underlying3))))) H enc 0 (fun _ => true) true fuel (Value.cells (.agg cs)).toList _ hf
  obtain ⟨l⟩ := cs
  simp only [Value.cells] at hK
  obtain ⟨_, _, rfl, rfl, ⟨_, _, rfl, rfl, rfl⟩⟩ := hK
  obtain ⟨hg0_0, hg0_1, hg0_2⟩ := hg
  exact ⟨y.1, y.2.1, y.2.2, rfl, hg0_0, hg0_1, hg0_2⟩
set_option maxRecDepth 100000 in
theorem lifted (os : Os) (started : os.Started) (H : Type) (enc : TypeId × Value → H) :
    ReturnsInHanded {} Tryd.checked os 3 .any (fun w args => (Rows.fnExactVecTextSpec.pre enc Tryd.prog Tryd.f3 [] false w args ∧ laidMetH Tryd.prog laids w) ∧ sizedMet enc Tryd.prog Tryd.f3 (OpenSpec.ofChange Rows.fnExactVecTextSpec) false w args)
      (Rows.fnExactVecTextSpec.post enc Tryd.prog Tryd.f3 false true false false) := by
  refine returnsInHanded_of_change_and (C := Tryd.checked) (X := fun w _ => laidMetH Tryd.prog laids w) (fun _ _ _ hh h => h.of_heap hh) own started (by kernel_rfl) Tryd.func3
    (ChangeSpec.witness_shaped (enc := enc) (C := Tryd.checked) (os := os) (X := fun w _ => laidMetH Tryd.prog laids w) false (World.doorLaid Tryd.prog 4000 os) #[.agg #[.int .i64 0, .int .i64 0, .int .i64 0]] 12 rfl (World.shaped_of_RefB (by kernel_rfl) (by kernel_rfl)) (by kernel_rfl) (by kernel_rfl) (by kernel_rfl) (door_met os _)) ?_
  intro W base args ds gs before hval0 hW _ _ hL _
  have hval : ∀ (j : Nat) t v, Tryd.f3.params[j]? = some t → args[j]? = some v → Value.okWide Tryd.prog W .any base t v := hval0
  have hW' := hW
  obtain ⟨p, q, hA0, hV, rfl, hfz, hnd⟩ := hW
  have hA : DataW.TrodAll enc Tryd.prog W 0 (fun _ => true) true Tryd.f3.params.toList args.toList ds p := hA0
  rw [Tryd.params3] at hA hval
  obtain ⟨v0, vs0, d0, ds0, p0, q0, hargs, rfl, rfl, h0, r0⟩ := trodAll_cons hA
  obtain ⟨rfl, rfl, rfl⟩ := trodAll_nil r0
  obtain rfl : args = #[v0] := by cases args; simp_all
  obtain ⟨rfl, rfl⟩ := trodVars_none hV
  have k0 := h0
  have lt0 : ∀ x ∈ p0, x.block < W.heap.size := by obtain ⟨m, hm⟩ := k0; exact DataW.trod_lt m _ _ _ hm
  obtain ⟨a0_0, a0_1, a0_2, rfl, hg0_0, hg0_1, hg0_2⟩ := open0 ((hval 0 23 v0 rfl rfl)) h0
  clear hA0 hval0
  obtain ⟨s, hS, hI⟩ := UFnExactVecText.pure a0_0 a0_1 a0_2 hg0_0 hg0_1 hg0_2
  refine (laws_FnExactVecText.calls 21 a0_0 a0_1 a0_2 s W (of_laid hL) hg0_0 hg0_1 hg0_2 hS hI).mono fun e W' he => ?_
  obtain ⟨he, bel0⟩ := he
  have bel : Below W.heap.size W W' := bel0
  subst he
  exact ⟨_, rfl, _, _, _, [], _, [], hW', trodAll_mk1 (shut_bool Tryd.underlying4 _), (trodAll_cons_mk (Below.trod laidOut (by kernel_rfl) (of_decide_eq_true (by kernel_rfl)) k0 bel lt0) trodAll_mk0), rfl, bel.frame _, fun h => by cases h⟩
theorem over : Rows.fnExactVecTextRow.holds Tryd.pinned (OpenSpec.ofChange Rows.fnExactVecTextSpec) :=
  OpenClaim.holds_of_wide 3 Tryd.f3 rfl rfl rfl rfl rfl rfl rfl ⟨rfl, rfl, rfl, rfl, rfl⟩ rfl rfl rfl rfl rfl (by kernel_rfl) Tryd.func3 (by kernel_rfl)
    (of_decide_eq_true (by kernel_rfl)) (by unfold Func.isWrapper; first | (rw [if_pos (by decide +kernel)]; kernel_rfl) | (rw [if_neg (by decide +kernel)]; exact ⟨rfl, rfl⟩))
    (fun os started H enc _ => lifted os started H enc)
/-- THE TIED CARD. -/
theorem proved : Rows.FnExactVecTextCardSaid :=
  Claim7.holds_tied_plain_at .later [] [.data, .data, .data] true (true, "70b2cc6e1ec1f6e0b1722bfa7c29f5c8060f0183e8af1f323928db63ec3f037d") true
    over (fun _ h => by cases h) (by kernel_rfl) (fun _ h => by cases h) fnExactVecText_row_tie rfl ⟨rfl, rfl⟩ (by kernel_rfl) rfl
    (fun f fn hf hfn => by
      obtain rfl : f = 3 := Option.some.inj ((show Tryd.prog.funcNamed "loop.example/g00655/laws.FnExactVecText" = some 3 by kernel_rfl).symm.trans hf) |>.symm
      obtain rfl : fn = Tryd.f3 := (Option.some.inj (Tryd.func3.symm.trans hfn)).symm
      exact ⟨by kernel_rfl, fun j t ht => by
        rw [Tryd.params3] at ht
        have h3 : t = 23 := by
          rcases j with _ | j
          · simpa using ht.symm
          · simp at ht
        subst h3
        exact (show Tryd.prog.wantsStandIn 23 = false by kernel_rfl)⟩)
    (by kernel_rfl)
end Go.Proofs.YtiokbmbdhejciaaDoor.fnExactVecText
namespace Go.Proofs.YtiokbmbdhejciaaDoor
/-- The card, under a short name, for the claim. -/
theorem fnExactVecText_holds : Rows.FnExactVecTextCardSaid := fnExactVecText.proved
#print axioms fnExactVecText_holds
end Go.Proofs.YtiokbmbdhejciaaDoor
