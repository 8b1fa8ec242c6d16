/-
  No cell of these rows narrows 'for every input' (looked for: loops, veiled, ifaces, maps, wideKeys, modest, calm, conditions, laid).
  DERIVED. THE GIVEN ROWS OF THIS SEAT. 5 by the template 'for every input the law returns true; each argument reads behind the call as it read before'; 0 by the template 'total and deterministic' (their statements: YtbihbbkdciebhaaTotals.lean).
  GIVEN WITH THE SEED: the statements are not yours to turn. If you find one false, say at which input.
  Laid BY PROGRAM, IN A SANDBOX (cutbox-rows.mjs): the forced cells as the released guide's own fill.sh prints them over the translation c099a87719ff44a5… (all of the seat's roots in one cut). By AI agents, Wed Nov 11 2026. No macro, syntax, notation, axiom, sorry.
-/
import Derived.Test.YtbihbbkdciebhaaChecked
import GoSem.Claim
import GoSem.ClaimJoined
import GoSem.ClaimMapViews
import Derived.JoinedTies
import Derived.KernelRfl
namespace Go.Proofs.Ytbihbbkdciebhaa
/- THE CELL 'sum', in the pinned program and in every row, IS THE sha256 OF THE DUMP (.gsa) THAT YtbihbbkdciebhaaProg.lean LOADS. Nothing in Lean hashes anything: it is a label: what it is worth is what the hold of that sum in a sandbox is worth. -/
noncomputable def Try.pinned : Pinned := { name := "ytbihbbkdciebhaa", sum := "c099a87719ff44a5874760a6fb8f8bc0c18b1b846adb56eefe080f541cf711a8", checked := Try.checked }
namespace Rows
def none {H : Type} : Left H := { results := [], args := [] }

/-- 'laws.FnExactRulesOk': WHATEVER THE INPUT: true; the input reads as it did. -/
def fnExactRulesOkSpec : ChangeSpec := { name := "fnExactRulesOk", fn := fun _ => fun
  | [d] => { results := [.lit (.bool true)], args := [d] }
  | _ => none }
def fnExactRulesOkRow : OpenClaim := { program := "ytbihbbkdciebhaa", sum := "c099a87719ff44a5874760a6fb8f8bc0c18b1b846adb56eefe080f541cf711a8", func := "loop.example/g00655/laws.FnExactRulesOk", spec := "fnExactRulesOk", apart := false }
def FnExactRulesOkSaid : Prop := fnExactRulesOkRow.holds Try.pinned (OpenSpec.ofChange fnExactRulesOkSpec)

/-- ITS FALSE NEIGHBOUR: 'it returns false'. Refute it at one input. -/
def fnExactRulesOkWrong : ChangeSpec := { name := "fnExactRulesOk", fn := fun _ => fun
  | [d] => { results := [.lit (.bool false)], args := [d] }
  | _ => none }
def FnExactRulesOkWrongFalsely : Prop := fnExactRulesOkRow.holds Try.pinned (OpenSpec.ofChange fnExactRulesOkWrong)

/-- 'laws.FnExactRuleFor': WHATEVER THE INPUT: true; the input reads as it did. -/
def fnExactRuleForSpec : ChangeSpec := { name := "fnExactRuleFor", fn := fun _ => fun
  | [d1, d2] => { results := [.lit (.bool true)], args := [d1, d2] }
  | _ => none }
def fnExactRuleForRow : OpenClaim := { program := "ytbihbbkdciebhaa", sum := "c099a87719ff44a5874760a6fb8f8bc0c18b1b846adb56eefe080f541cf711a8", func := "loop.example/g00655/laws.FnExactRuleFor", spec := "fnExactRuleFor", unfollowed := true, recurses := true, apart := false }
def FnExactRuleForSaid : Prop := fnExactRuleForRow.holds Try.pinned (OpenSpec.ofChange fnExactRuleForSpec)

/-- ITS FALSE NEIGHBOUR: 'it returns false'. Refute it at one input. -/
def fnExactRuleForWrong : ChangeSpec := { name := "fnExactRuleFor", fn := fun _ => fun
  | [d1, d2] => { results := [.lit (.bool false)], args := [d1, d2] }
  | _ => none }
def FnExactRuleForWrongFalsely : Prop := fnExactRuleForRow.holds Try.pinned (OpenSpec.ofChange fnExactRuleForWrong)

/-- 'laws.FnExactShadowed': WHATEVER THE INPUT: true; the input reads as it did. -/
def fnExactShadowedSpec : ChangeSpec := { name := "fnExactShadowed", fn := fun _ => fun
  | [d] => { results := [.lit (.bool true)], args := [d] }
  | _ => none }
def fnExactShadowedRow : OpenClaim := { program := "ytbihbbkdciebhaa", sum := "c099a87719ff44a5874760a6fb8f8bc0c18b1b846adb56eefe080f541cf711a8", func := "loop.example/g00655/laws.FnExactShadowed", spec := "fnExactShadowed", unfollowed := true, recurses := true, apart := false }
def FnExactShadowedSaid : Prop := fnExactShadowedRow.holds Try.pinned (OpenSpec.ofChange fnExactShadowedSpec)

/-- ITS FALSE NEIGHBOUR: 'it returns false'. Refute it at one input. -/
def fnExactShadowedWrong : ChangeSpec := { name := "fnExactShadowed", fn := fun _ => fun
  | [d] => { results := [.lit (.bool false)], args := [d] }
  | _ => none }
def FnExactShadowedWrongFalsely : Prop := fnExactShadowedRow.holds Try.pinned (OpenSpec.ofChange fnExactShadowedWrong)

/-- 'laws.FnExactRuleDrop': WHATEVER THE INPUT: true; the input reads as it did. -/
def fnExactRuleDropSpec : ChangeSpec := { name := "fnExactRuleDrop", fn := fun _ => fun
  | [d1, d2] => { results := [.lit (.bool true)], args := [d1, d2] }
  | _ => none }
def fnExactRuleDropRow : OpenClaim := { program := "ytbihbbkdciebhaa", sum := "c099a87719ff44a5874760a6fb8f8bc0c18b1b846adb56eefe080f541cf711a8", func := "loop.example/g00655/laws.FnExactRuleDrop", spec := "fnExactRuleDrop", unfollowed := true, recurses := true, apart := false }
def FnExactRuleDropSaid : Prop := fnExactRuleDropRow.holds Try.pinned (OpenSpec.ofChange fnExactRuleDropSpec)

/-- ITS FALSE NEIGHBOUR: 'it returns false'. Refute it at one input. -/
def fnExactRuleDropWrong : ChangeSpec := { name := "fnExactRuleDrop", fn := fun _ => fun
  | [d1, d2] => { results := [.lit (.bool false)], args := [d1, d2] }
  | _ => none }
def FnExactRuleDropWrongFalsely : Prop := fnExactRuleDropRow.holds Try.pinned (OpenSpec.ofChange fnExactRuleDropWrong)

/-- 'laws.FnExactRuleAdd': WHATEVER THE INPUT: true; the input reads as it did. -/
def fnExactRuleAddSpec : ChangeSpec := { name := "fnExactRuleAdd", fn := fun _ => fun
  | [d1, d2] => { results := [.lit (.bool true)], args := [d1, d2] }
  | _ => none }
def fnExactRuleAddRow : OpenClaim := { program := "ytbihbbkdciebhaa", sum := "c099a87719ff44a5874760a6fb8f8bc0c18b1b846adb56eefe080f541cf711a8", func := "loop.example/g00655/laws.FnExactRuleAdd", spec := "fnExactRuleAdd", unfollowed := true, recurses := true, apart := false }
def FnExactRuleAddSaid : Prop := fnExactRuleAddRow.holds Try.pinned (OpenSpec.ofChange fnExactRuleAddSpec)

/-- ITS FALSE NEIGHBOUR: 'it returns false'. Refute it at one input. -/
def fnExactRuleAddWrong : ChangeSpec := { name := "fnExactRuleAdd", fn := fun _ => fun
  | [d1, d2] => { results := [.lit (.bool false)], args := [d1, d2] }
  | _ => none }
def FnExactRuleAddWrongFalsely : Prop := fnExactRuleAddRow.holds Try.pinned (OpenSpec.ofChange fnExactRuleAddWrong)

/- THE SECOND FORM. 'bulk': how many values and letters a reading holds, each counted each time it is reached (what is shared counts as often as it is met; a slice's spare places count too). A statement '..UptoSaid' is the law's where the arguments, and the package variables that the reading takes, are together of bulk at most 1048576: NARROWER than '..Said'. Prove '..Said' where nothing that the law and all that it calls make is longer than what came in: it says more and counts as full. Else prove '..UptoSaid'. A law counts once. -/
mutual
def uptoBulk {H : Type} : DataW H → Nat
  | .lit (.string bytes) => bytes.length + 1
  | .lit _ => 1
  | .nil => 1
  | .ptr d => uptoBulk d + 1
  | .slice elems spare => uptoBulkAll elems + uptoBulkAll spare + 1
  | .agg parts => uptoBulkAll parts + 1
  | .iface _ d => uptoBulk d + 1
  | .map entries => uptoBulkEntries entries + 1
  | .held _ => 1
def uptoBulkAll {H : Type} : List (DataW H) → Nat
  | [] => 0
  | d :: r => uptoBulk d + uptoBulkAll r
def uptoBulkEntries {H : Type} : List (Lit × DataW H) → Nat
  | [] => 0
  | x :: r => uptoBulkEntry x + uptoBulkEntries r
def uptoBulkEntry {H : Type} : Lit × DataW H → Nat
  | (.string bytes, d) => bytes.length + uptoBulk d + 1
  | (_, d) => uptoBulk d + 1
 end
def uptoSmall : (H : Type) → List (DataW H) → Bool := fun _ ds => decide (uptoBulkAll ds ≤ 1048576)
def OpenSpec.upto (s : _root_.Go.ChangeSpec) : _root_.Go.OpenSpec := { _root_.Go.OpenSpec.ofChange s with cond := some uptoSmall }

/-- 'laws.FnExactRulesOk', WHERE WHAT IT READS IS OF BULK AT MOST 1048576: true; the input reads as it did. -/
def fnExactRulesOkUptoRow : OpenClaim := { program := "ytbihbbkdciebhaa", sum := "c099a87719ff44a5874760a6fb8f8bc0c18b1b846adb56eefe080f541cf711a8", func := "loop.example/g00655/laws.FnExactRulesOk", spec := "fnExactRulesOk", apart := false, narrowed := true }
def FnExactRulesOkUptoSaid : Prop := fnExactRulesOkUptoRow.holds Try.pinned (OpenSpec.upto fnExactRulesOkSpec)

/-- 'laws.FnExactRuleFor', WHERE WHAT IT READS IS OF BULK AT MOST 1048576: true; the input reads as it did. -/
def fnExactRuleForUptoRow : OpenClaim := { program := "ytbihbbkdciebhaa", sum := "c099a87719ff44a5874760a6fb8f8bc0c18b1b846adb56eefe080f541cf711a8", func := "loop.example/g00655/laws.FnExactRuleFor", spec := "fnExactRuleFor", unfollowed := true, recurses := true, apart := false, narrowed := true }
def FnExactRuleForUptoSaid : Prop := fnExactRuleForUptoRow.holds Try.pinned (OpenSpec.upto fnExactRuleForSpec)

/-- 'laws.FnExactShadowed', WHERE WHAT IT READS IS OF BULK AT MOST 1048576: true; the input reads as it did. -/
def fnExactShadowedUptoRow : OpenClaim := { program := "ytbihbbkdciebhaa", sum := "c099a87719ff44a5874760a6fb8f8bc0c18b1b846adb56eefe080f541cf711a8", func := "loop.example/g00655/laws.FnExactShadowed", spec := "fnExactShadowed", unfollowed := true, recurses := true, apart := false, narrowed := true }
def FnExactShadowedUptoSaid : Prop := fnExactShadowedUptoRow.holds Try.pinned (OpenSpec.upto fnExactShadowedSpec)

/-- 'laws.FnExactRuleDrop', WHERE WHAT IT READS IS OF BULK AT MOST 1048576: true; the input reads as it did. -/
def fnExactRuleDropUptoRow : OpenClaim := { program := "ytbihbbkdciebhaa", sum := "c099a87719ff44a5874760a6fb8f8bc0c18b1b846adb56eefe080f541cf711a8", func := "loop.example/g00655/laws.FnExactRuleDrop", spec := "fnExactRuleDrop", unfollowed := true, recurses := true, apart := false, narrowed := true }
def FnExactRuleDropUptoSaid : Prop := fnExactRuleDropUptoRow.holds Try.pinned (OpenSpec.upto fnExactRuleDropSpec)

/-- 'laws.FnExactRuleAdd', WHERE WHAT IT READS IS OF BULK AT MOST 1048576: true; the input reads as it did. -/
def fnExactRuleAddUptoRow : OpenClaim := { program := "ytbihbbkdciebhaa", sum := "c099a87719ff44a5874760a6fb8f8bc0c18b1b846adb56eefe080f541cf711a8", func := "loop.example/g00655/laws.FnExactRuleAdd", spec := "fnExactRuleAdd", unfollowed := true, recurses := true, apart := false, narrowed := true }
def FnExactRuleAddUptoSaid : Prop := fnExactRuleAddUptoRow.holds Try.pinned (OpenSpec.upto fnExactRuleAddSpec)

end Rows
end Go.Proofs.Ytbihbbkdciebhaa
