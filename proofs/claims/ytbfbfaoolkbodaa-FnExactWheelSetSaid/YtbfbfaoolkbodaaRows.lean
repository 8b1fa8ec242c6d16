/-
  No cell of these rows narrows 'for every input' (looked for: loops, veiled, ifaces, maps, wideKeys, modest, calm, conditions, laid).
  DERIVED. THE GIVEN ROWS OF THIS SEAT. 5 by the template 'for every input the law returns true; each argument reads behind the call as it read before'; 0 by the template 'total and deterministic' (their statements: YtbfbfaoolkbodaaTotals.lean).
  GIVEN WITH THE SEED: the statements are not yours to turn. If you find one false, say at which input.
  Laid BY PROGRAM, IN A SANDBOX (cutbox-rows.mjs): the forced cells as the released guide's own fill.sh prints them over the translation 73b71e0b710fb2f1… (all of the seat's roots in one cut). By AI agents, Wed Nov 11 2026. No macro, syntax, notation, axiom, sorry.
-/
import Derived.Test.YtbfbfaoolkbodaaChecked
import GoSem.Claim
import GoSem.ClaimJoined
import GoSem.ClaimMapViews
import Derived.JoinedTies
import Derived.KernelRfl
namespace Go.Proofs.Ytbfbfaoolkbodaa
/- THE CELL 'sum', in the pinned program and in every row, IS THE sha256 OF THE DUMP (.gsa) THAT YtbfbfaoolkbodaaProg.lean LOADS. Nothing in Lean hashes anything: it is a label: what it is worth is what the hold of that sum in a sandbox is worth. -/
noncomputable def Try.pinned : Pinned := { name := "ytbfbfaoolkbodaa", sum := "73b71e0b710fb2f14f5f9f809429a84cbeecbdf4f3fcb0f417c660ec1be1989b", checked := Try.checked }
namespace Rows
def none {H : Type} : Left H := { results := [], args := [] }

/-- 'laws.FnExactWheelNew': WHATEVER THE INPUT: true; the input reads as it did. -/
def fnExactWheelNewSpec : ChangeSpec := { name := "fnExactWheelNew", fn := fun _ => fun
  | [d] => { results := [.lit (.bool true)], args := [d] }
  | _ => none }
def fnExactWheelNewRow : OpenClaim := { program := "ytbfbfaoolkbodaa", sum := "73b71e0b710fb2f14f5f9f809429a84cbeecbdf4f3fcb0f417c660ec1be1989b", func := "loop.example/g00655/laws.FnExactWheelNew", spec := "fnExactWheelNew", apart := false }
def FnExactWheelNewSaid : Prop := fnExactWheelNewRow.holds Try.pinned (OpenSpec.ofChange fnExactWheelNewSpec)

/-- ITS FALSE NEIGHBOUR: 'it returns false'. Refute it at one input. -/
def fnExactWheelNewWrong : ChangeSpec := { name := "fnExactWheelNew", fn := fun _ => fun
  | [d] => { results := [.lit (.bool false)], args := [d] }
  | _ => none }
def FnExactWheelNewWrongFalsely : Prop := fnExactWheelNewRow.holds Try.pinned (OpenSpec.ofChange fnExactWheelNewWrong)

/-- 'laws.FnExactWheelOk': WHATEVER THE INPUT: true; the input reads as it did. -/
def fnExactWheelOkSpec : ChangeSpec := { name := "fnExactWheelOk", fn := fun _ => fun
  | [d] => { results := [.lit (.bool true)], args := [d] }
  | _ => none }
def fnExactWheelOkRow : OpenClaim := { program := "ytbfbfaoolkbodaa", sum := "73b71e0b710fb2f14f5f9f809429a84cbeecbdf4f3fcb0f417c660ec1be1989b", func := "loop.example/g00655/laws.FnExactWheelOk", spec := "fnExactWheelOk", apart := false }
def FnExactWheelOkSaid : Prop := fnExactWheelOkRow.holds Try.pinned (OpenSpec.ofChange fnExactWheelOkSpec)

/-- ITS FALSE NEIGHBOUR: 'it returns false'. Refute it at one input. -/
def fnExactWheelOkWrong : ChangeSpec := { name := "fnExactWheelOk", fn := fun _ => fun
  | [d] => { results := [.lit (.bool false)], args := [d] }
  | _ => none }
def FnExactWheelOkWrongFalsely : Prop := fnExactWheelOkRow.holds Try.pinned (OpenSpec.ofChange fnExactWheelOkWrong)

/-- 'laws.FnExactWheelNext': WHATEVER THE INPUT: true; the input reads as it did. -/
def fnExactWheelNextSpec : ChangeSpec := { name := "fnExactWheelNext", fn := fun _ => fun
  | [d] => { results := [.lit (.bool true)], args := [d] }
  | _ => none }
def fnExactWheelNextRow : OpenClaim := { program := "ytbfbfaoolkbodaa", sum := "73b71e0b710fb2f14f5f9f809429a84cbeecbdf4f3fcb0f417c660ec1be1989b", func := "loop.example/g00655/laws.FnExactWheelNext", spec := "fnExactWheelNext", apart := false }
def FnExactWheelNextSaid : Prop := fnExactWheelNextRow.holds Try.pinned (OpenSpec.ofChange fnExactWheelNextSpec)

/-- ITS FALSE NEIGHBOUR: 'it returns false'. Refute it at one input. -/
def fnExactWheelNextWrong : ChangeSpec := { name := "fnExactWheelNext", fn := fun _ => fun
  | [d] => { results := [.lit (.bool false)], args := [d] }
  | _ => none }
def FnExactWheelNextWrongFalsely : Prop := fnExactWheelNextRow.holds Try.pinned (OpenSpec.ofChange fnExactWheelNextWrong)

/-- 'laws.FnExactWheelDrop': WHATEVER THE INPUT: true; the input reads as it did. -/
def fnExactWheelDropSpec : ChangeSpec := { name := "fnExactWheelDrop", fn := fun _ => fun
  | [d1, d2] => { results := [.lit (.bool true)], args := [d1, d2] }
  | _ => none }
def fnExactWheelDropRow : OpenClaim := { program := "ytbfbfaoolkbodaa", sum := "73b71e0b710fb2f14f5f9f809429a84cbeecbdf4f3fcb0f417c660ec1be1989b", func := "loop.example/g00655/laws.FnExactWheelDrop", spec := "fnExactWheelDrop", unfollowed := true, recurses := true, apart := false }
def FnExactWheelDropSaid : Prop := fnExactWheelDropRow.holds Try.pinned (OpenSpec.ofChange fnExactWheelDropSpec)

/-- ITS FALSE NEIGHBOUR: 'it returns false'. Refute it at one input. -/
def fnExactWheelDropWrong : ChangeSpec := { name := "fnExactWheelDrop", fn := fun _ => fun
  | [d1, d2] => { results := [.lit (.bool false)], args := [d1, d2] }
  | _ => none }
def FnExactWheelDropWrongFalsely : Prop := fnExactWheelDropRow.holds Try.pinned (OpenSpec.ofChange fnExactWheelDropWrong)

/-- 'laws.FnExactWheelSet': WHATEVER THE INPUT: true; the input reads as it did. -/
def fnExactWheelSetSpec : ChangeSpec := { name := "fnExactWheelSet", fn := fun _ => fun
  | [d1, d2, d3] => { results := [.lit (.bool true)], args := [d1, d2, d3] }
  | _ => none }
def fnExactWheelSetRow : OpenClaim := { program := "ytbfbfaoolkbodaa", sum := "73b71e0b710fb2f14f5f9f809429a84cbeecbdf4f3fcb0f417c660ec1be1989b", func := "loop.example/g00655/laws.FnExactWheelSet", spec := "fnExactWheelSet", unfollowed := true, recurses := true, apart := false }
def FnExactWheelSetSaid : Prop := fnExactWheelSetRow.holds Try.pinned (OpenSpec.ofChange fnExactWheelSetSpec)

/-- ITS FALSE NEIGHBOUR: 'it returns false'. Refute it at one input. -/
def fnExactWheelSetWrong : ChangeSpec := { name := "fnExactWheelSet", fn := fun _ => fun
  | [d1, d2, d3] => { results := [.lit (.bool false)], args := [d1, d2, d3] }
  | _ => none }
def FnExactWheelSetWrongFalsely : Prop := fnExactWheelSetRow.holds Try.pinned (OpenSpec.ofChange fnExactWheelSetWrong)

/- THE SECOND FORM. 'bulk': how many values and letters a reading holds, each counted each time it is reached (what is shared counts as often as it is met; a slice's spare places count too). A statement '..UptoSaid' is the law's where the arguments, and the package variables that the reading takes, are together of bulk at most 1048576: NARROWER than '..Said'. Prove '..Said' where nothing that the law and all that it calls make is longer than what came in: it says more and counts as full. Else prove '..UptoSaid'. A law counts once. -/
mutual
def uptoBulk {H : Type} : DataW H → Nat
  | .lit (.string bytes) => bytes.length + 1
  | .lit _ => 1
  | .nil => 1
  | .ptr d => uptoBulk d + 1
  | .slice elems spare => uptoBulkAll elems + uptoBulkAll spare + 1
  | .agg parts => uptoBulkAll parts + 1
  | .iface _ d => uptoBulk d + 1
  | .map entries => uptoBulkEntries entries + 1
  | .held _ => 1
def uptoBulkAll {H : Type} : List (DataW H) → Nat
  | [] => 0
  | d :: r => uptoBulk d + uptoBulkAll r
def uptoBulkEntries {H : Type} : List (Lit × DataW H) → Nat
  | [] => 0
  | x :: r => uptoBulkEntry x + uptoBulkEntries r
def uptoBulkEntry {H : Type} : Lit × DataW H → Nat
  | (.string bytes, d) => bytes.length + uptoBulk d + 1
  | (_, d) => uptoBulk d + 1
 end
def uptoSmall : (H : Type) → List (DataW H) → Bool := fun _ ds => decide (uptoBulkAll ds ≤ 1048576)
def OpenSpec.upto (s : _root_.Go.ChangeSpec) : _root_.Go.OpenSpec := { _root_.Go.OpenSpec.ofChange s with cond := some uptoSmall }

/-- 'laws.FnExactWheelNew', WHERE WHAT IT READS IS OF BULK AT MOST 1048576: true; the input reads as it did. -/
def fnExactWheelNewUptoRow : OpenClaim := { program := "ytbfbfaoolkbodaa", sum := "73b71e0b710fb2f14f5f9f809429a84cbeecbdf4f3fcb0f417c660ec1be1989b", func := "loop.example/g00655/laws.FnExactWheelNew", spec := "fnExactWheelNew", apart := false, narrowed := true }
def FnExactWheelNewUptoSaid : Prop := fnExactWheelNewUptoRow.holds Try.pinned (OpenSpec.upto fnExactWheelNewSpec)

/-- 'laws.FnExactWheelOk', WHERE WHAT IT READS IS OF BULK AT MOST 1048576: true; the input reads as it did. -/
def fnExactWheelOkUptoRow : OpenClaim := { program := "ytbfbfaoolkbodaa", sum := "73b71e0b710fb2f14f5f9f809429a84cbeecbdf4f3fcb0f417c660ec1be1989b", func := "loop.example/g00655/laws.FnExactWheelOk", spec := "fnExactWheelOk", apart := false, narrowed := true }
def FnExactWheelOkUptoSaid : Prop := fnExactWheelOkUptoRow.holds Try.pinned (OpenSpec.upto fnExactWheelOkSpec)

/-- 'laws.FnExactWheelNext', WHERE WHAT IT READS IS OF BULK AT MOST 1048576: true; the input reads as it did. -/
def fnExactWheelNextUptoRow : OpenClaim := { program := "ytbfbfaoolkbodaa", sum := "73b71e0b710fb2f14f5f9f809429a84cbeecbdf4f3fcb0f417c660ec1be1989b", func := "loop.example/g00655/laws.FnExactWheelNext", spec := "fnExactWheelNext", apart := false, narrowed := true }
def FnExactWheelNextUptoSaid : Prop := fnExactWheelNextUptoRow.holds Try.pinned (OpenSpec.upto fnExactWheelNextSpec)

/-- 'laws.FnExactWheelDrop', WHERE WHAT IT READS IS OF BULK AT MOST 1048576: true; the input reads as it did. -/
def fnExactWheelDropUptoRow : OpenClaim := { program := "ytbfbfaoolkbodaa", sum := "73b71e0b710fb2f14f5f9f809429a84cbeecbdf4f3fcb0f417c660ec1be1989b", func := "loop.example/g00655/laws.FnExactWheelDrop", spec := "fnExactWheelDrop", unfollowed := true, recurses := true, apart := false, narrowed := true }
def FnExactWheelDropUptoSaid : Prop := fnExactWheelDropUptoRow.holds Try.pinned (OpenSpec.upto fnExactWheelDropSpec)

/-- 'laws.FnExactWheelSet', WHERE WHAT IT READS IS OF BULK AT MOST 1048576: true; the input reads as it did. -/
def fnExactWheelSetUptoRow : OpenClaim := { program := "ytbfbfaoolkbodaa", sum := "73b71e0b710fb2f14f5f9f809429a84cbeecbdf4f3fcb0f417c660ec1be1989b", func := "loop.example/g00655/laws.FnExactWheelSet", spec := "fnExactWheelSet", unfollowed := true, recurses := true, apart := false, narrowed := true }
def FnExactWheelSetUptoSaid : Prop := fnExactWheelSetUptoRow.holds Try.pinned (OpenSpec.upto fnExactWheelSetSpec)

end Rows
end Go.Proofs.Ytbfbfaoolkbodaa
