/-
  No cell of these rows narrows 'for every input' (looked for: loops, veiled, ifaces, maps, wideKeys, modest, calm, conditions, laid).
  DERIVED. THE GIVEN ROWS OF THIS SEAT. 5 by the template 'for every input the law returns true; each argument reads behind the call as it read before'; 0 by the template 'total and deterministic' (their statements: YtbpkmdghloapjaaTotals.lean).
  GIVEN WITH THE SEED: the statements are not yours to turn. If you find one false, say at which input.
  Laid BY PROGRAM, IN A SANDBOX (cutbox-rows.mjs): the forced cells as the released guide's own fill.sh prints them over the translation 8cb898d540b7f8f3… (all of the seat's roots in one cut). By AI agents, Wed Nov 11 2026. No macro, syntax, notation, axiom, sorry.
-/
import Derived.Test.YtbpkmdghloapjaaChecked
import GoSem.Claim
import GoSem.ClaimJoined
import GoSem.ClaimMapViews
import Derived.JoinedTies
import Derived.KernelRfl
namespace Go.Proofs.Ytbpkmdghloapjaa
/- THE CELL 'sum', in the pinned program and in every row, IS THE sha256 OF THE DUMP (.gsa) THAT YtbpkmdghloapjaaProg.lean LOADS. Nothing in Lean hashes anything: it is a label: what it is worth is what the hold of that sum in a sandbox is worth. -/
noncomputable def Try.pinned : Pinned := { name := "ytbpkmdghloapjaa", sum := "8cb898d540b7f8f3f2ad5871f5d5d2e26a1a2d2e767f403054e1a26a9dcbf6d1", checked := Try.checked }
namespace Rows
def none {H : Type} : Left H := { results := [], args := [] }

/-- 'laws.FnExactNatAddr': WHATEVER THE INPUT: true; the input reads as it did. -/
def fnExactNatAddrSpec : ChangeSpec := { name := "fnExactNatAddr", fn := fun _ => fun
  | [d1, d2, d3] => { results := [.lit (.bool true)], args := [d1, d2, d3] }
  | _ => none }
def fnExactNatAddrRow : OpenClaim := { program := "ytbpkmdghloapjaa", sum := "8cb898d540b7f8f3f2ad5871f5d5d2e26a1a2d2e767f403054e1a26a9dcbf6d1", func := "loop.example/g00655/laws.FnExactNatAddr", spec := "fnExactNatAddr", apart := false }
def FnExactNatAddrSaid : Prop := fnExactNatAddrRow.holds Try.pinned (OpenSpec.ofChange fnExactNatAddrSpec)

/-- ITS FALSE NEIGHBOUR: 'it returns false'. Refute it at one input. -/
def fnExactNatAddrWrong : ChangeSpec := { name := "fnExactNatAddr", fn := fun _ => fun
  | [d1, d2, d3] => { results := [.lit (.bool false)], args := [d1, d2, d3] }
  | _ => none }
def FnExactNatAddrWrongFalsely : Prop := fnExactNatAddrRow.holds Try.pinned (OpenSpec.ofChange fnExactNatAddrWrong)

/-- 'laws.FnExactModuleOk': WHATEVER THE INPUT: true; the input reads as it did. -/
def fnExactModuleOkSpec : ChangeSpec := { name := "fnExactModuleOk", fn := fun _ => fun
  | [d] => { results := [.lit (.bool true)], args := [d] }
  | _ => none }
def fnExactModuleOkRow : OpenClaim := { program := "ytbpkmdghloapjaa", sum := "8cb898d540b7f8f3f2ad5871f5d5d2e26a1a2d2e767f403054e1a26a9dcbf6d1", func := "loop.example/g00655/laws.FnExactModuleOk", spec := "fnExactModuleOk", apart := false }
def FnExactModuleOkSaid : Prop := fnExactModuleOkRow.holds Try.pinned (OpenSpec.ofChange fnExactModuleOkSpec)

/-- ITS FALSE NEIGHBOUR: 'it returns false'. Refute it at one input. -/
def fnExactModuleOkWrong : ChangeSpec := { name := "fnExactModuleOk", fn := fun _ => fun
  | [d] => { results := [.lit (.bool false)], args := [d] }
  | _ => none }
def FnExactModuleOkWrongFalsely : Prop := fnExactModuleOkRow.holds Try.pinned (OpenSpec.ofChange fnExactModuleOkWrong)

/-- 'laws.FnExactChainOk': WHATEVER THE INPUT: true; the input reads as it did. -/
def fnExactChainOkSpec : ChangeSpec := { name := "fnExactChainOk", fn := fun _ => fun
  | [d] => { results := [.lit (.bool true)], args := [d] }
  | _ => none }
def fnExactChainOkRow : OpenClaim := { program := "ytbpkmdghloapjaa", sum := "8cb898d540b7f8f3f2ad5871f5d5d2e26a1a2d2e767f403054e1a26a9dcbf6d1", func := "loop.example/g00655/laws.FnExactChainOk", spec := "fnExactChainOk", unfollowed := true, recurses := true, apart := false }
def FnExactChainOkSaid : Prop := fnExactChainOkRow.holds Try.pinned (OpenSpec.ofChange fnExactChainOkSpec)

/-- ITS FALSE NEIGHBOUR: 'it returns false'. Refute it at one input. -/
def fnExactChainOkWrong : ChangeSpec := { name := "fnExactChainOk", fn := fun _ => fun
  | [d] => { results := [.lit (.bool false)], args := [d] }
  | _ => none }
def FnExactChainOkWrongFalsely : Prop := fnExactChainOkRow.holds Try.pinned (OpenSpec.ofChange fnExactChainOkWrong)

/-- 'laws.FnExactChainCost': WHATEVER THE INPUT: true; the input reads as it did. -/
def fnExactChainCostSpec : ChangeSpec := { name := "fnExactChainCost", fn := fun _ => fun
  | [d1, d2, d3] => { results := [.lit (.bool true)], args := [d1, d2, d3] }
  | _ => none }
def fnExactChainCostRow : OpenClaim := { program := "ytbpkmdghloapjaa", sum := "8cb898d540b7f8f3f2ad5871f5d5d2e26a1a2d2e767f403054e1a26a9dcbf6d1", func := "loop.example/g00655/laws.FnExactChainCost", spec := "fnExactChainCost", unfollowed := true, recurses := true, apart := false }
def FnExactChainCostSaid : Prop := fnExactChainCostRow.holds Try.pinned (OpenSpec.ofChange fnExactChainCostSpec)

/-- ITS FALSE NEIGHBOUR: 'it returns false'. Refute it at one input. -/
def fnExactChainCostWrong : ChangeSpec := { name := "fnExactChainCost", fn := fun _ => fun
  | [d1, d2, d3] => { results := [.lit (.bool false)], args := [d1, d2, d3] }
  | _ => none }
def FnExactChainCostWrongFalsely : Prop := fnExactChainCostRow.holds Try.pinned (OpenSpec.ofChange fnExactChainCostWrong)

/-- 'laws.FnExactBackChain': WHATEVER THE INPUT: true; the input reads as it did. -/
def fnExactBackChainSpec : ChangeSpec := { name := "fnExactBackChain", fn := fun _ => fun
  | [d] => { results := [.lit (.bool true)], args := [d] }
  | _ => none }
def fnExactBackChainRow : OpenClaim := { program := "ytbpkmdghloapjaa", sum := "8cb898d540b7f8f3f2ad5871f5d5d2e26a1a2d2e767f403054e1a26a9dcbf6d1", func := "loop.example/g00655/laws.FnExactBackChain", spec := "fnExactBackChain", unfollowed := true, recurses := true, apart := false }
def FnExactBackChainSaid : Prop := fnExactBackChainRow.holds Try.pinned (OpenSpec.ofChange fnExactBackChainSpec)

/-- ITS FALSE NEIGHBOUR: 'it returns false'. Refute it at one input. -/
def fnExactBackChainWrong : ChangeSpec := { name := "fnExactBackChain", fn := fun _ => fun
  | [d] => { results := [.lit (.bool false)], args := [d] }
  | _ => none }
def FnExactBackChainWrongFalsely : Prop := fnExactBackChainRow.holds Try.pinned (OpenSpec.ofChange fnExactBackChainWrong)

/- THE SECOND FORM. 'bulk': how many values and letters a reading holds, each counted each time it is reached (what is shared counts as often as it is met; a slice's spare places count too). A statement '..UptoSaid' is the law's where the arguments, and the package variables that the reading takes, are together of bulk at most 1048576: NARROWER than '..Said'. Prove '..Said' where nothing that the law and all that it calls make is longer than what came in: it says more and counts as full. Else prove '..UptoSaid'. A law counts once. -/
mutual
def uptoBulk {H : Type} : DataW H → Nat
  | .lit (.string bytes) => bytes.length + 1
  | .lit _ => 1
  | .nil => 1
  | .ptr d => uptoBulk d + 1
  | .slice elems spare => uptoBulkAll elems + uptoBulkAll spare + 1
  | .agg parts => uptoBulkAll parts + 1
  | .iface _ d => uptoBulk d + 1
  | .map entries => uptoBulkEntries entries + 1
  | .held _ => 1
def uptoBulkAll {H : Type} : List (DataW H) → Nat
  | [] => 0
  | d :: r => uptoBulk d + uptoBulkAll r
def uptoBulkEntries {H : Type} : List (Lit × DataW H) → Nat
  | [] => 0
  | x :: r => uptoBulkEntry x + uptoBulkEntries r
def uptoBulkEntry {H : Type} : Lit × DataW H → Nat
  | (.string bytes, d) => bytes.length + uptoBulk d + 1
  | (_, d) => uptoBulk d + 1
 end
def uptoSmall : (H : Type) → List (DataW H) → Bool := fun _ ds => decide (uptoBulkAll ds ≤ 1048576)
def OpenSpec.upto (s : _root_.Go.ChangeSpec) : _root_.Go.OpenSpec := { _root_.Go.OpenSpec.ofChange s with cond := some uptoSmall }

/-- 'laws.FnExactNatAddr', WHERE WHAT IT READS IS OF BULK AT MOST 1048576: true; the input reads as it did. -/
def fnExactNatAddrUptoRow : OpenClaim := { program := "ytbpkmdghloapjaa", sum := "8cb898d540b7f8f3f2ad5871f5d5d2e26a1a2d2e767f403054e1a26a9dcbf6d1", func := "loop.example/g00655/laws.FnExactNatAddr", spec := "fnExactNatAddr", apart := false, narrowed := true }
def FnExactNatAddrUptoSaid : Prop := fnExactNatAddrUptoRow.holds Try.pinned (OpenSpec.upto fnExactNatAddrSpec)

/-- 'laws.FnExactModuleOk', WHERE WHAT IT READS IS OF BULK AT MOST 1048576: true; the input reads as it did. -/
def fnExactModuleOkUptoRow : OpenClaim := { program := "ytbpkmdghloapjaa", sum := "8cb898d540b7f8f3f2ad5871f5d5d2e26a1a2d2e767f403054e1a26a9dcbf6d1", func := "loop.example/g00655/laws.FnExactModuleOk", spec := "fnExactModuleOk", apart := false, narrowed := true }
def FnExactModuleOkUptoSaid : Prop := fnExactModuleOkUptoRow.holds Try.pinned (OpenSpec.upto fnExactModuleOkSpec)

/-- 'laws.FnExactChainOk', WHERE WHAT IT READS IS OF BULK AT MOST 1048576: true; the input reads as it did. -/
def fnExactChainOkUptoRow : OpenClaim := { program := "ytbpkmdghloapjaa", sum := "8cb898d540b7f8f3f2ad5871f5d5d2e26a1a2d2e767f403054e1a26a9dcbf6d1", func := "loop.example/g00655/laws.FnExactChainOk", spec := "fnExactChainOk", unfollowed := true, recurses := true, apart := false, narrowed := true }
def FnExactChainOkUptoSaid : Prop := fnExactChainOkUptoRow.holds Try.pinned (OpenSpec.upto fnExactChainOkSpec)

/-- 'laws.FnExactChainCost', WHERE WHAT IT READS IS OF BULK AT MOST 1048576: true; the input reads as it did. -/
def fnExactChainCostUptoRow : OpenClaim := { program := "ytbpkmdghloapjaa", sum := "8cb898d540b7f8f3f2ad5871f5d5d2e26a1a2d2e767f403054e1a26a9dcbf6d1", func := "loop.example/g00655/laws.FnExactChainCost", spec := "fnExactChainCost", unfollowed := true, recurses := true, apart := false, narrowed := true }
def FnExactChainCostUptoSaid : Prop := fnExactChainCostUptoRow.holds Try.pinned (OpenSpec.upto fnExactChainCostSpec)

/-- 'laws.FnExactBackChain', WHERE WHAT IT READS IS OF BULK AT MOST 1048576: true; the input reads as it did. -/
def fnExactBackChainUptoRow : OpenClaim := { program := "ytbpkmdghloapjaa", sum := "8cb898d540b7f8f3f2ad5871f5d5d2e26a1a2d2e767f403054e1a26a9dcbf6d1", func := "loop.example/g00655/laws.FnExactBackChain", spec := "fnExactBackChain", unfollowed := true, recurses := true, apart := false, narrowed := true }
def FnExactBackChainUptoSaid : Prop := fnExactBackChainUptoRow.holds Try.pinned (OpenSpec.upto fnExactBackChainSpec)

end Rows
end Go.Proofs.Ytbpkmdghloapjaa
