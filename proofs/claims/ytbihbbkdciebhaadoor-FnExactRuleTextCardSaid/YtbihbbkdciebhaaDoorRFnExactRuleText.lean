/- FnExactRuleText: for every input the law returns true; the argument reads as it did; the listed tables stand as the program lays them (the tie). And the tied card. -/
import Derived.Test.YtbihbbkdciebhaaDoorRows
import Derived.Test.YtbihbbkdciebhaaDoorCards
import Derived.Test.YtbihbbkdciebhaaDoorTie
import Derived.Test.YtbihbbkdciebhaaDoorPRtx8
import Derived.Test.YtbihbbkdciebhaaDoorUFnExactRuleText
import Derived.Test.YtbihbbkdciebhaaDoorFr
import Derived.WalkKit
import Derived.ProofKit
import Derived.LaidMore
import Derived.OpenShut
import Derived.Stop.Joined
import Derived.ChangeOld
import Derived.Below
import Derived.SizedLaws
import Derived.SevenTiedAt
namespace Go.Proofs.YtbihbbkdciebhaaDoor.fnExactRuleText
open Go.ChangeShapes Go.WideShapes Go.ChangeAt Go.RowKit Go.Proofs.YtbihbbkdciebhaaDoorW.PrintWords Go.Proofs.YtbihbbkdciebhaaDoorFr Go.Proofs.YtbihbbkdciebhaaDoor.PRt
set_option linter.unusedVariables false
theorem own : ownKnob Tryd.prog.godebug = none := by kernel_rfl
theorem laidOut : laidOutB Tryd.prog = true := by kernel_rfl
abbrev laids : List (String × DataW Unit) := Rows.fnExactRuleTextRow.laid
/-- The door's own heap meets the condition. -/
theorem door_met (os : Os) (args : Array Value) : laidMetH Tryd.prog laids ((World.doorLaid Tryd.prog 4000 os).forCall (fun _ _ => 0) ⟨#[], args, []⟩).memory :=
  laidMetH_of_parts3 (fuel := 8) (laidMet_of_run' 8 (by kernel_rfl) (by kernel_rfl)) (by kernel_rfl) (by kernel_rfl)
def tab64 : List Int := [0, 1, 56, 2, 57, 49, 28, 3, 61, 58, 42, 50, 38, 29, 17, 4, 62, 47, 59, 36, 45, 43, 51, 22, 53, 39, 33, 30, 24, 18, 12, 5, 63, 55, 48, 27, 60, 41, 37, 16, 46, 35, 44, 21, 52, 32, 23, 11, 54, 26, 40, 15, 34, 20, 31, 10, 25, 14, 19, 9, 13, 8, 7, 6]
theorem of_laid {W : World} (h : laidMetH Tryd.prog laids W) : La.Env W := by
  rw [MakeChecks.laidMetH_plain _ _ _ (by kernel_rfl)] at h
  constructor
  · obtain ⟨g, t, cs, fuel, p, hg, ht, hvar, hd⟩ := Lib.laidMet.reads h (n := "internal/strconv.uint64pow10") (d := Lib.tabData .u64 Lib.pow10Tab) (.tail _ (.tail _ (.head _)))
    obtain rfl := Option.some.inj ((show Tryd.prog.globalNamed "internal/strconv.uint64pow10" = some 1 by kernel_rfl).symm.trans hg)
    obtain rfl := Option.some.inj ((show (Tryd.prog.globals[1]?).map (·.type) = some 89 by kernel_rfl).symm.trans ht)
    unfold Lib.TabIs
    rw [hvar, ← Lib.cells_of_tab Tryd.underlying89 Tryd.underlying79 (by kernel_rfl) (by kernel_rfl) hd]
  · have hT : Lib.TabIs Tryd.prog W "math/bits.deBruijn64tab" .u8 tab64 := by
      obtain ⟨g, t, cs, fuel, p, hg, ht, hvar, hd⟩ := Lib.laidMet.reads h (n := "math/bits.deBruijn64tab") (d := Lib.tabData .u8 tab64) (.tail _ (.head _))
      obtain rfl := Option.some.inj ((show Tryd.prog.globalNamed "math/bits.deBruijn64tab" = some 3 by kernel_rfl).symm.trans hg)
      obtain rfl := Option.some.inj ((show (Tryd.prog.globals[3]?).map (·.type) = some 95 by kernel_rfl).symm.trans ht)
      unfold Lib.TabIs
      rw [hvar, ← Lib.cells_of_tab Tryd.underlying95 Tryd.underlying5 (by kernel_rfl) (by kernel_rfl) hd]
    exact hT.cell (g := 3) (by kernel_rfl) 15 (by decide)
set_option maxRecDepth 100000 in
theorem open0 {H : Type} {enc : TypeId × Value → H} {w : World} {b0 : Nat} {v : Value} {d : DataW H} {p : List MemPlace} (hv : Value.okWide Tryd.prog w .any b0 27 v) (h : DataW.Trod enc Tryd.prog w 0 (fun _ => true) true 27 v d p) :
    ∃ (a0_0 : Int) (a0_1 : Int) (a0_2 : Int) (a0_3 : Int) (a0_4 : Int) (a0_5 : Int) (a0_6 : Int) (a0_7 : Int) (a0_8 : Int) (a0_9 : Int) (a0_10 : Int) (a0_11 : Int) (a0_12 : Int) (a0_13 : Int) (a0_14 : Int) (a0_15 : Int) (a0_16 : Int) (a0_17 : Int) (a0_18 : Int) (a0_19 : Int) (a0_20 : Int), v = .agg #[.int .i64 a0_0, .int .i64 a0_1, .int .i64 a0_2, .int .i64 a0_3, .int .i64 a0_4, .int .i64 a0_5, .int .i64 a0_6, .int .i64 a0_7, .int .i64 a0_8, .int .i64 a0_9, .int .i64 a0_10, .int .i64 a0_11, .int .i64 a0_12, .int .i64 a0_13, .int .i64 a0_14, .int .i64 a0_15, .int .i64 a0_16, .int .i64 a0_17, .int .i64 a0_18, .int .i64 a0_19, .int .i64 a0_20] ∧ I64 a0_0 ∧ I64 a0_1 ∧ I64 a0_2 ∧ I64 a0_3 ∧ I64 a0_4 ∧ I64 a0_5 ∧ I64 a0_6 ∧ I64 a0_7 ∧ I64 a0_8 ∧ I64 a0_9 ∧ I64 a0_10 ∧ I64 a0_11 ∧ I64 a0_12 ∧ I64 a0_13 ∧ I64 a0_14 ∧ I64 a0_15 ∧ I64 a0_16 ∧ I64 a0_17 ∧ I64 a0_18 ∧ I64 a0_19 ∧ I64 a0_20 := by
  obtain ⟨cs, rfl, _⟩ := okWide_struct Tryd.underlying27 hv
  obtain ⟨fuel, hf⟩ := h
  obtain ⟨y, hK, hg⟩ := (opens_struct Tryd.underlying27 (by kernel_rfl) (by kernel_rfl) (opensAt_cons (opens_i64 Tryd.underlying3) (opensAt_cons (opens_struct Tryd.underlying25 (by kernel_rfl) (by kernel_rfl) (opensAt_cons (opens_struct Tryd.underlying23 (by kernel_rfl) (by kernel_rfl) (opensAt_cons (opens_i64 Tryd.underlying3) (opensAt_cons (opens_i64 Tryd.underlying3) (opensAt_cons (opens_i64 Tryd.underlying3) (opensAt_cons (opens_i64 Tryd.underlying3) (opensAt_one (opens_i64 Tryd.underlying3))))))) (opensAt_one (opens_i64 Tryd.underlying3)))) (opensAt_cons (opens_struct Tryd.underlying25 (by kernel_rfl) (by kernel_rfl) (opensAt_cons (opens_struct Tryd.underlying23 (by kernel_rfl) (by kernel_rfl) (opensAt_cons (opens_i64 Tryd.underlying3) (opensAt_cons (opens_i64 Tryd.underlying3) (opensAt_cons (opens_i64 Tryd.underlying3) (opensAt_cons (opens_i64 Tryd.underlying3) (opensAt_one (opens_i64 Tryd.underlying3))))))) (opensAt_one (opens_i64 Tryd.underlying3)))) (opensAt_cons (opens_i64 Tryd.underlying3) (opensAt_cons (opens_i64 Tryd.underlying3) (opensAt_cons (opens_i64 Tryd.underlying3) (opensAt_cons (opens_i64 Tryd.underlying3) (opensAt_cons (opens_i64 Tryd.underlying3) (opensAt_cons (opens_i64 Tryd.underlying3) (opensAt_cons (opens_i64 Tryd.underlying3) (opensAt_one (opens_i64 Tryd.underlying3))))))))))))) H enc 0 (fun _ => true) true fuel (Value.cells (.agg cs)).toList _ hf
  obtain ⟨l⟩ := cs
  simp only [Value.cells] at hK
  obtain ⟨_, _, rfl, rfl, ⟨_, _, rfl, ⟨_, _, rfl, ⟨_, _, rfl, rfl, ⟨_, _, rfl, rfl, ⟨_, _, rfl, rfl, ⟨_, _, rfl, rfl, rfl⟩⟩⟩⟩, rfl⟩, ⟨_, _, rfl, ⟨_, _, rfl, ⟨_, _, rfl, rfl, ⟨_, _, rfl, rfl, ⟨_, _, rfl, rfl, ⟨_, _, rfl, rfl, rfl⟩⟩⟩⟩, rfl⟩, ⟨_, _, rfl, rfl, ⟨_, _, rfl, rfl, ⟨_, _, rfl, rfl, ⟨_, _, rfl, rfl, ⟨_, _, rfl, rfl, ⟨_, _, rfl, rfl, ⟨_, _, rfl, rfl, rfl⟩⟩⟩⟩⟩⟩⟩⟩⟩⟩ := hK
  obtain ⟨hg0_0, ⟨⟨hg0_1, hg0_2, hg0_3, hg0_4, hg0_5⟩, hg0_6⟩, ⟨⟨hg0_7, hg0_8, hg0_9, hg0_10, hg0_11⟩, hg0_12⟩, hg0_13, hg0_14, hg0_15, hg0_16, hg0_17, hg0_18, hg0_19, hg0_20⟩ := hg
  exact ⟨y.1, y.2.1.1.1, y.2.1.1.2.1, y.2.1.1.2.2.1, y.2.1.1.2.2.2.1, y.2.1.1.2.2.2.2, y.2.1.2, y.2.2.1.1.1, y.2.2.1.1.2.1, y.2.2.1.1.2.2.1, y.2.2.1.1.2.2.2.1, y.2.2.1.1.2.2.2.2, y.2.2.1.2, y.2.2.2.1, y.2.2.2.2.1, y.2.2.2.2.2.1, y.2.2.2.2.2.2.1, y.2.2.2.2.2.2.2.1, y.2.2.2.2.2.2.2.2.1, y.2.2.2.2.2.2.2.2.2.1, y.2.2.2.2.2.2.2.2.2.2, rfl, hg0_0, hg0_1, hg0_2, hg0_3, hg0_4, hg0_5, hg0_6, hg0_7, hg0_8, hg0_9, hg0_10, hg0_11, hg0_12, hg0_13, hg0_14, hg0_15, hg0_16, hg0_17, hg0_18, hg0_19, hg0_20⟩
set_option maxRecDepth 100000 in
theorem lifted (os : Os) (started : os.Started) (H : Type) (enc : TypeId × Value → H) :
    ReturnsInHanded {} Tryd.checked os 3 .any (fun w args => (Rows.fnExactRuleTextSpec.pre enc Tryd.prog Tryd.f3 [] false w args ∧ laidMetH Tryd.prog laids w) ∧ sizedMet enc Tryd.prog Tryd.f3 (OpenSpec.ofChange Rows.fnExactRuleTextSpec) false w args)
      (Rows.fnExactRuleTextSpec.post enc Tryd.prog Tryd.f3 false true false false) := by
  refine returnsInHanded_of_change_and (C := Tryd.checked) (X := fun w _ => laidMetH Tryd.prog laids w) (fun _ _ _ hh h => h.of_heap hh) own started (by kernel_rfl) Tryd.func3
    (ChangeSpec.witness_shaped (enc := enc) (C := Tryd.checked) (os := os) (X := fun w _ => laidMetH Tryd.prog laids w) false (World.doorLaid Tryd.prog 4000 os) #[.agg #[.int .i64 0, .int .i64 0, .int .i64 0, .int .i64 0, .int .i64 0, .int .i64 0, .int .i64 0, .int .i64 0, .int .i64 0, .int .i64 0, .int .i64 0, .int .i64 0, .int .i64 0, .int .i64 0, .int .i64 0, .int .i64 0, .int .i64 0, .int .i64 0, .int .i64 0, .int .i64 0, .int .i64 0]] 12 rfl (World.shaped_of_RefB (by kernel_rfl) (by kernel_rfl)) (by kernel_rfl) (by kernel_rfl) (by kernel_rfl) (door_met os _)) ?_
  intro W base args ds gs before hval0 hW _ _ hL _
  have hval : ∀ (j : Nat) t v, Tryd.f3.params[j]? = some t → args[j]? = some v → Value.okWide Tryd.prog W .any base t v := hval0
  have hW' := hW
  obtain ⟨p, q, hA0, hV, rfl, hfz, hnd⟩ := hW
  have hA : DataW.TrodAll enc Tryd.prog W 0 (fun _ => true) true Tryd.f3.params.toList args.toList ds p := hA0
  rw [Tryd.params3] at hA hval
  obtain ⟨v0, vs0, d0, ds0, p0, q0, hargs, rfl, rfl, h0, r0⟩ := trodAll_cons hA
  obtain ⟨rfl, rfl, rfl⟩ := trodAll_nil r0
  obtain rfl : args = #[v0] := by cases args; simp_all
  obtain ⟨rfl, rfl⟩ := trodVars_none hV
  have k0 := h0
  have lt0 : ∀ x ∈ p0, x.block < W.heap.size := by obtain ⟨m, hm⟩ := k0; exact DataW.trod_lt m _ _ _ hm
  obtain ⟨a0_0, a0_1, a0_2, a0_3, a0_4, a0_5, a0_6, a0_7, a0_8, a0_9, a0_10, a0_11, a0_12, a0_13, a0_14, a0_15, a0_16, a0_17, a0_18, a0_19, a0_20, rfl, hg0_0, hg0_1, hg0_2, hg0_3, hg0_4, hg0_5, hg0_6, hg0_7, hg0_8, hg0_9, hg0_10, hg0_11, hg0_12, hg0_13, hg0_14, hg0_15, hg0_16, hg0_17, hg0_18, hg0_19, hg0_20⟩ := open0 ((hval 0 27 v0 rfl rfl)) h0
  clear hA0 hval0
  have hP := UFnExactRuleText.pure a0_0 a0_1 a0_2 a0_3 a0_4 a0_5 a0_6 a0_7 a0_8 a0_9 a0_10 a0_11 a0_12 a0_13 a0_14 a0_15 a0_16 a0_17 a0_18 a0_19 a0_20 hg0_0 hg0_13 hg0_14 hg0_15 hg0_16 hg0_17 hg0_18 hg0_19 hg0_20
  refine (laws_FnExactRuleText.calls _ a0_0 a0_1 a0_2 a0_3 a0_4 a0_5 a0_6 a0_7 a0_8 a0_9 a0_10 a0_11 a0_12 a0_13 a0_14 a0_15 a0_16 a0_17 a0_18 a0_19 a0_20 true W (of_laid hL) hP).mono fun e W' he => ?_
  obtain ⟨he, bel0⟩ := he
  have bel : Below W.heap.size W W' := bel0
  subst he
  exact ⟨_, rfl, _, _, _, [], _, [], hW', trodAll_mk1 (shut_bool Tryd.underlying4 _), (trodAll_cons_mk (Below.trod laidOut (by kernel_rfl) (of_decide_eq_true (by kernel_rfl)) k0 bel lt0) trodAll_mk0), rfl, bel.frame _, fun h => by cases h⟩
theorem over : Rows.fnExactRuleTextRow.holds Tryd.pinned (OpenSpec.ofChange Rows.fnExactRuleTextSpec) :=
  OpenClaim.holds_of_wide 3 Tryd.f3 rfl rfl rfl rfl rfl rfl rfl ⟨rfl, rfl, rfl, rfl, rfl⟩ rfl rfl rfl rfl rfl (by kernel_rfl) Tryd.func3 (by kernel_rfl)
    (of_decide_eq_true (by kernel_rfl)) (by unfold Func.isWrapper; first | (rw [if_pos (by decide +kernel)]; kernel_rfl) | (rw [if_neg (by decide +kernel)]; exact ⟨rfl, rfl⟩))
    (fun os started H enc _ => lifted os started H enc)
/-- THE TIED CARD. -/
theorem proved : Rows.FnExactRuleTextCardSaid :=
  Claim7.holds_tied_plain_at .later [] [.data, .data, .data] true (true, "3270ac731837ea797e43fad51bc0848952968753c5e7db9b4ee108e84f7d5374") false
    over (fun _ h => by cases h) (by kernel_rfl) (fun _ h => by cases h) fnExactRuleText_row_tie rfl ⟨rfl, rfl⟩ (by kernel_rfl) rfl
    (fun f fn hf hfn => by
      obtain rfl : f = 3 := Option.some.inj ((show Tryd.prog.funcNamed "loop.example/g00655/laws.FnExactRuleText" = some 3 by kernel_rfl).symm.trans hf) |>.symm
      obtain rfl : fn = Tryd.f3 := (Option.some.inj (Tryd.func3.symm.trans hfn)).symm
      exact ⟨by kernel_rfl, fun j t ht => by
        rw [Tryd.params3] at ht
        have h3 : t = 27 := by
          rcases j with _ | j
          · simpa using ht.symm
          · simp at ht
        subst h3
        exact (show Tryd.prog.wantsStandIn 27 = false by kernel_rfl)⟩)
    (by kernel_rfl)
end Go.Proofs.YtbihbbkdciebhaaDoor.fnExactRuleText
namespace Go.Proofs.YtbihbbkdciebhaaDoor
/-- The card, under a short name, for the claim. -/
theorem fnExactRuleText_holds : Rows.FnExactRuleTextCardSaid := fnExactRuleText.proved
#print axioms fnExactRuleText_holds
end Go.Proofs.YtbihbbkdciebhaaDoor
