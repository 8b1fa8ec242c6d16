/-
  No cell of these rows narrows 'for every input' (looked for: loops, veiled, ifaces, maps, wideKeys, modest, calm, conditions, laid).
  DERIVED. THE GIVEN ROWS OF THIS SEAT. 10 by the template 'for every input the law returns true; each argument reads behind the call as it read before'; 0 by the template 'total and deterministic' (their statements: YtfnpodebjejhpaaTotals.lean).
  GIVEN WITH THE SEED: the statements are not yours to turn. If you find one false, say at which input.
  Laid BY PROGRAM, IN A SANDBOX (cutbox-rows.mjs): the forced cells as the released guide's own fill.sh prints them over the translation b98636c45f39bf32… (all of the seat's roots in one cut). By AI agents, Wed Nov 11 2026. No macro, syntax, notation, axiom, sorry.
-/
import Derived.Test.YtfnpodebjejhpaaChecked
import GoSem.Claim
import GoSem.ClaimJoined
import GoSem.ClaimMapViews
import Derived.JoinedTies
import Derived.KernelRfl
namespace Go.Proofs.Ytfnpodebjejhpaa
/- THE CELL 'sum', in the pinned program and in every row, IS THE sha256 OF THE DUMP (.gsa) THAT YtfnpodebjejhpaaProg.lean LOADS. Nothing in Lean hashes anything: it is a label: what it is worth is what the hold of that sum in a sandbox is worth. -/
noncomputable def Try.pinned : Pinned := { name := "ytfnpodebjejhpaa", sum := "b98636c45f39bf3246725d3d35ae40e41ab7d6f57b03857fc065bceddfb79312", checked := Try.checked }
namespace Rows
def none {H : Type} : Left H := { results := [], args := [] }

/-- 'laws.FnExactFlowKeyOk': WHATEVER THE INPUT: true; the input reads as it did. -/
def fnExactFlowKeyOkSpec : ChangeSpec := { name := "fnExactFlowKeyOk", fn := fun _ => fun
  | [d] => { results := [.lit (.bool true)], args := [d] }
  | _ => none }
def fnExactFlowKeyOkRow : OpenClaim := { program := "ytfnpodebjejhpaa", sum := "b98636c45f39bf3246725d3d35ae40e41ab7d6f57b03857fc065bceddfb79312", func := "loop.example/g00655/laws.FnExactFlowKeyOk", spec := "fnExactFlowKeyOk", apart := false }
def FnExactFlowKeyOkSaid : Prop := fnExactFlowKeyOkRow.holds Try.pinned (OpenSpec.ofChange fnExactFlowKeyOkSpec)

/-- ITS FALSE NEIGHBOUR: 'it returns false'. Refute it at one input. -/
def fnExactFlowKeyOkWrong : ChangeSpec := { name := "fnExactFlowKeyOk", fn := fun _ => fun
  | [d] => { results := [.lit (.bool false)], args := [d] }
  | _ => none }
def FnExactFlowKeyOkWrongFalsely : Prop := fnExactFlowKeyOkRow.holds Try.pinned (OpenSpec.ofChange fnExactFlowKeyOkWrong)

/-- 'laws.FnExactHashOf': WHATEVER THE INPUT: true; the input reads as it did. -/
def fnExactHashOfSpec : ChangeSpec := { name := "fnExactHashOf", fn := fun _ => fun
  | [d1, d2] => { results := [.lit (.bool true)], args := [d1, d2] }
  | _ => none }
def fnExactHashOfRow : OpenClaim := { program := "ytfnpodebjejhpaa", sum := "b98636c45f39bf3246725d3d35ae40e41ab7d6f57b03857fc065bceddfb79312", func := "loop.example/g00655/laws.FnExactHashOf", spec := "fnExactHashOf", apart := false }
def FnExactHashOfSaid : Prop := fnExactHashOfRow.holds Try.pinned (OpenSpec.ofChange fnExactHashOfSpec)

/-- ITS FALSE NEIGHBOUR: 'it returns false'. Refute it at one input. -/
def fnExactHashOfWrong : ChangeSpec := { name := "fnExactHashOf", fn := fun _ => fun
  | [d1, d2] => { results := [.lit (.bool false)], args := [d1, d2] }
  | _ => none }
def FnExactHashOfWrongFalsely : Prop := fnExactHashOfRow.holds Try.pinned (OpenSpec.ofChange fnExactHashOfWrong)

/-- 'laws.FnExactTableNew': WHATEVER THE INPUT: true; the input reads as it did. -/
def fnExactTableNewSpec : ChangeSpec := { name := "fnExactTableNew", fn := fun _ => fun
  | [d1, d2] => { results := [.lit (.bool true)], args := [d1, d2] }
  | _ => none }
def fnExactTableNewRow : OpenClaim := { program := "ytfnpodebjejhpaa", sum := "b98636c45f39bf3246725d3d35ae40e41ab7d6f57b03857fc065bceddfb79312", func := "loop.example/g00655/laws.FnExactTableNew", spec := "fnExactTableNew", apart := false }
def FnExactTableNewSaid : Prop := fnExactTableNewRow.holds Try.pinned (OpenSpec.ofChange fnExactTableNewSpec)

/-- ITS FALSE NEIGHBOUR: 'it returns false'. Refute it at one input. -/
def fnExactTableNewWrong : ChangeSpec := { name := "fnExactTableNew", fn := fun _ => fun
  | [d1, d2] => { results := [.lit (.bool false)], args := [d1, d2] }
  | _ => none }
def FnExactTableNewWrongFalsely : Prop := fnExactTableNewRow.holds Try.pinned (OpenSpec.ofChange fnExactTableNewWrong)

/-- 'laws.FnExactTableOk': WHATEVER THE INPUT: true; the input reads as it did. -/
def fnExactTableOkSpec : ChangeSpec := { name := "fnExactTableOk", fn := fun _ => fun
  | [d] => { results := [.lit (.bool true)], args := [d] }
  | _ => none }
def fnExactTableOkRow : OpenClaim := { program := "ytfnpodebjejhpaa", sum := "b98636c45f39bf3246725d3d35ae40e41ab7d6f57b03857fc065bceddfb79312", func := "loop.example/g00655/laws.FnExactTableOk", spec := "fnExactTableOk", apart := false }
def FnExactTableOkSaid : Prop := fnExactTableOkRow.holds Try.pinned (OpenSpec.ofChange fnExactTableOkSpec)

/-- ITS FALSE NEIGHBOUR: 'it returns false'. Refute it at one input. -/
def fnExactTableOkWrong : ChangeSpec := { name := "fnExactTableOk", fn := fun _ => fun
  | [d] => { results := [.lit (.bool false)], args := [d] }
  | _ => none }
def FnExactTableOkWrongFalsely : Prop := fnExactTableOkRow.holds Try.pinned (OpenSpec.ofChange fnExactTableOkWrong)

/-- 'laws.FnExactTableUsed': WHATEVER THE INPUT: true; the input reads as it did. -/
def fnExactTableUsedSpec : ChangeSpec := { name := "fnExactTableUsed", fn := fun _ => fun
  | [d] => { results := [.lit (.bool true)], args := [d] }
  | _ => none }
def fnExactTableUsedRow : OpenClaim := { program := "ytfnpodebjejhpaa", sum := "b98636c45f39bf3246725d3d35ae40e41ab7d6f57b03857fc065bceddfb79312", func := "loop.example/g00655/laws.FnExactTableUsed", spec := "fnExactTableUsed", apart := false }
def FnExactTableUsedSaid : Prop := fnExactTableUsedRow.holds Try.pinned (OpenSpec.ofChange fnExactTableUsedSpec)

/-- ITS FALSE NEIGHBOUR: 'it returns false'. Refute it at one input. -/
def fnExactTableUsedWrong : ChangeSpec := { name := "fnExactTableUsed", fn := fun _ => fun
  | [d] => { results := [.lit (.bool false)], args := [d] }
  | _ => none }
def FnExactTableUsedWrongFalsely : Prop := fnExactTableUsedRow.holds Try.pinned (OpenSpec.ofChange fnExactTableUsedWrong)

/-- 'laws.FnExactTableFind': WHATEVER THE INPUT: true; the input reads as it did. -/
def fnExactTableFindSpec : ChangeSpec := { name := "fnExactTableFind", fn := fun _ => fun
  | [d1, d2] => { results := [.lit (.bool true)], args := [d1, d2] }
  | _ => none }
def fnExactTableFindRow : OpenClaim := { program := "ytfnpodebjejhpaa", sum := "b98636c45f39bf3246725d3d35ae40e41ab7d6f57b03857fc065bceddfb79312", func := "loop.example/g00655/laws.FnExactTableFind", spec := "fnExactTableFind", apart := false }
def FnExactTableFindSaid : Prop := fnExactTableFindRow.holds Try.pinned (OpenSpec.ofChange fnExactTableFindSpec)

/-- ITS FALSE NEIGHBOUR: 'it returns false'. Refute it at one input. -/
def fnExactTableFindWrong : ChangeSpec := { name := "fnExactTableFind", fn := fun _ => fun
  | [d1, d2] => { results := [.lit (.bool false)], args := [d1, d2] }
  | _ => none }
def FnExactTableFindWrongFalsely : Prop := fnExactTableFindRow.holds Try.pinned (OpenSpec.ofChange fnExactTableFindWrong)

/-- 'laws.FnExactTableGrow': WHATEVER THE INPUT: true; the input reads as it did. -/
def fnExactTableGrowSpec : ChangeSpec := { name := "fnExactTableGrow", fn := fun _ => fun
  | [d] => { results := [.lit (.bool true)], args := [d] }
  | _ => none }
def fnExactTableGrowRow : OpenClaim := { program := "ytfnpodebjejhpaa", sum := "b98636c45f39bf3246725d3d35ae40e41ab7d6f57b03857fc065bceddfb79312", func := "loop.example/g00655/laws.FnExactTableGrow", spec := "fnExactTableGrow", apart := false }
def FnExactTableGrowSaid : Prop := fnExactTableGrowRow.holds Try.pinned (OpenSpec.ofChange fnExactTableGrowSpec)

/-- ITS FALSE NEIGHBOUR: 'it returns false'. Refute it at one input. -/
def fnExactTableGrowWrong : ChangeSpec := { name := "fnExactTableGrow", fn := fun _ => fun
  | [d] => { results := [.lit (.bool false)], args := [d] }
  | _ => none }
def FnExactTableGrowWrongFalsely : Prop := fnExactTableGrowRow.holds Try.pinned (OpenSpec.ofChange fnExactTableGrowWrong)

/-- 'laws.FnExactTableKeys': WHATEVER THE INPUT: true; the input reads as it did. -/
def fnExactTableKeysSpec : ChangeSpec := { name := "fnExactTableKeys", fn := fun _ => fun
  | [d] => { results := [.lit (.bool true)], args := [d] }
  | _ => none }
def fnExactTableKeysRow : OpenClaim := { program := "ytfnpodebjejhpaa", sum := "b98636c45f39bf3246725d3d35ae40e41ab7d6f57b03857fc065bceddfb79312", func := "loop.example/g00655/laws.FnExactTableKeys", spec := "fnExactTableKeys", apart := false }
def FnExactTableKeysSaid : Prop := fnExactTableKeysRow.holds Try.pinned (OpenSpec.ofChange fnExactTableKeysSpec)

/-- ITS FALSE NEIGHBOUR: 'it returns false'. Refute it at one input. -/
def fnExactTableKeysWrong : ChangeSpec := { name := "fnExactTableKeys", fn := fun _ => fun
  | [d] => { results := [.lit (.bool false)], args := [d] }
  | _ => none }
def FnExactTableKeysWrongFalsely : Prop := fnExactTableKeysRow.holds Try.pinned (OpenSpec.ofChange fnExactTableKeysWrong)

/-- 'laws.FnExactTablePut': WHATEVER THE INPUT: true; the input reads as it did. -/
def fnExactTablePutSpec : ChangeSpec := { name := "fnExactTablePut", fn := fun _ => fun
  | [d1, d2, d3] => { results := [.lit (.bool true)], args := [d1, d2, d3] }
  | _ => none }
def fnExactTablePutRow : OpenClaim := { program := "ytfnpodebjejhpaa", sum := "b98636c45f39bf3246725d3d35ae40e41ab7d6f57b03857fc065bceddfb79312", func := "loop.example/g00655/laws.FnExactTablePut", spec := "fnExactTablePut", apart := false }
def FnExactTablePutSaid : Prop := fnExactTablePutRow.holds Try.pinned (OpenSpec.ofChange fnExactTablePutSpec)

/-- ITS FALSE NEIGHBOUR: 'it returns false'. Refute it at one input. -/
def fnExactTablePutWrong : ChangeSpec := { name := "fnExactTablePut", fn := fun _ => fun
  | [d1, d2, d3] => { results := [.lit (.bool false)], args := [d1, d2, d3] }
  | _ => none }
def FnExactTablePutWrongFalsely : Prop := fnExactTablePutRow.holds Try.pinned (OpenSpec.ofChange fnExactTablePutWrong)

/-- 'laws.FnExactTableDrop': WHATEVER THE INPUT: true; the input reads as it did. -/
def fnExactTableDropSpec : ChangeSpec := { name := "fnExactTableDrop", fn := fun _ => fun
  | [d1, d2] => { results := [.lit (.bool true)], args := [d1, d2] }
  | _ => none }
def fnExactTableDropRow : OpenClaim := { program := "ytfnpodebjejhpaa", sum := "b98636c45f39bf3246725d3d35ae40e41ab7d6f57b03857fc065bceddfb79312", func := "loop.example/g00655/laws.FnExactTableDrop", spec := "fnExactTableDrop", apart := false }
def FnExactTableDropSaid : Prop := fnExactTableDropRow.holds Try.pinned (OpenSpec.ofChange fnExactTableDropSpec)

/-- ITS FALSE NEIGHBOUR: 'it returns false'. Refute it at one input. -/
def fnExactTableDropWrong : ChangeSpec := { name := "fnExactTableDrop", fn := fun _ => fun
  | [d1, d2] => { results := [.lit (.bool false)], args := [d1, d2] }
  | _ => none }
def FnExactTableDropWrongFalsely : Prop := fnExactTableDropRow.holds Try.pinned (OpenSpec.ofChange fnExactTableDropWrong)

/- THE SECOND FORM. 'bulk': how many values and letters a reading holds, each counted each time it is reached (what is shared counts as often as it is met; a slice's spare places count too). A statement '..UptoSaid' is the law's where the arguments, and the package variables that the reading takes, are together of bulk at most 1048576: NARROWER than '..Said'. Prove '..Said' where nothing that the law and all that it calls make is longer than what came in: it says more and counts as full. Else prove '..UptoSaid'. A law counts once. -/
mutual
def uptoBulk {H : Type} : DataW H → Nat
  | .lit (.string bytes) => bytes.length + 1
  | .lit _ => 1
  | .nil => 1
  | .ptr d => uptoBulk d + 1
  | .slice elems spare => uptoBulkAll elems + uptoBulkAll spare + 1
  | .agg parts => uptoBulkAll parts + 1
  | .iface _ d => uptoBulk d + 1
  | .map entries => uptoBulkEntries entries + 1
  | .held _ => 1
def uptoBulkAll {H : Type} : List (DataW H) → Nat
  | [] => 0
  | d :: r => uptoBulk d + uptoBulkAll r
def uptoBulkEntries {H : Type} : List (Lit × DataW H) → Nat
  | [] => 0
  | x :: r => uptoBulkEntry x + uptoBulkEntries r
def uptoBulkEntry {H : Type} : Lit × DataW H → Nat
  | (.string bytes, d) => bytes.length + uptoBulk d + 1
  | (_, d) => uptoBulk d + 1
 end
def uptoSmall : (H : Type) → List (DataW H) → Bool := fun _ ds => decide (uptoBulkAll ds ≤ 1048576)
def OpenSpec.upto (s : _root_.Go.ChangeSpec) : _root_.Go.OpenSpec := { _root_.Go.OpenSpec.ofChange s with cond := some uptoSmall }

/-- 'laws.FnExactFlowKeyOk', WHERE WHAT IT READS IS OF BULK AT MOST 1048576: true; the input reads as it did. -/
def fnExactFlowKeyOkUptoRow : OpenClaim := { program := "ytfnpodebjejhpaa", sum := "b98636c45f39bf3246725d3d35ae40e41ab7d6f57b03857fc065bceddfb79312", func := "loop.example/g00655/laws.FnExactFlowKeyOk", spec := "fnExactFlowKeyOk", apart := false, narrowed := true }
def FnExactFlowKeyOkUptoSaid : Prop := fnExactFlowKeyOkUptoRow.holds Try.pinned (OpenSpec.upto fnExactFlowKeyOkSpec)

/-- 'laws.FnExactHashOf', WHERE WHAT IT READS IS OF BULK AT MOST 1048576: true; the input reads as it did. -/
def fnExactHashOfUptoRow : OpenClaim := { program := "ytfnpodebjejhpaa", sum := "b98636c45f39bf3246725d3d35ae40e41ab7d6f57b03857fc065bceddfb79312", func := "loop.example/g00655/laws.FnExactHashOf", spec := "fnExactHashOf", apart := false, narrowed := true }
def FnExactHashOfUptoSaid : Prop := fnExactHashOfUptoRow.holds Try.pinned (OpenSpec.upto fnExactHashOfSpec)

/-- 'laws.FnExactTableNew', WHERE WHAT IT READS IS OF BULK AT MOST 1048576: true; the input reads as it did. -/
def fnExactTableNewUptoRow : OpenClaim := { program := "ytfnpodebjejhpaa", sum := "b98636c45f39bf3246725d3d35ae40e41ab7d6f57b03857fc065bceddfb79312", func := "loop.example/g00655/laws.FnExactTableNew", spec := "fnExactTableNew", apart := false, narrowed := true }
def FnExactTableNewUptoSaid : Prop := fnExactTableNewUptoRow.holds Try.pinned (OpenSpec.upto fnExactTableNewSpec)

/-- 'laws.FnExactTableOk', WHERE WHAT IT READS IS OF BULK AT MOST 1048576: true; the input reads as it did. -/
def fnExactTableOkUptoRow : OpenClaim := { program := "ytfnpodebjejhpaa", sum := "b98636c45f39bf3246725d3d35ae40e41ab7d6f57b03857fc065bceddfb79312", func := "loop.example/g00655/laws.FnExactTableOk", spec := "fnExactTableOk", apart := false, narrowed := true }
def FnExactTableOkUptoSaid : Prop := fnExactTableOkUptoRow.holds Try.pinned (OpenSpec.upto fnExactTableOkSpec)

/-- 'laws.FnExactTableUsed', WHERE WHAT IT READS IS OF BULK AT MOST 1048576: true; the input reads as it did. -/
def fnExactTableUsedUptoRow : OpenClaim := { program := "ytfnpodebjejhpaa", sum := "b98636c45f39bf3246725d3d35ae40e41ab7d6f57b03857fc065bceddfb79312", func := "loop.example/g00655/laws.FnExactTableUsed", spec := "fnExactTableUsed", apart := false, narrowed := true }
def FnExactTableUsedUptoSaid : Prop := fnExactTableUsedUptoRow.holds Try.pinned (OpenSpec.upto fnExactTableUsedSpec)

/-- 'laws.FnExactTableFind', WHERE WHAT IT READS IS OF BULK AT MOST 1048576: true; the input reads as it did. -/
def fnExactTableFindUptoRow : OpenClaim := { program := "ytfnpodebjejhpaa", sum := "b98636c45f39bf3246725d3d35ae40e41ab7d6f57b03857fc065bceddfb79312", func := "loop.example/g00655/laws.FnExactTableFind", spec := "fnExactTableFind", apart := false, narrowed := true }
def FnExactTableFindUptoSaid : Prop := fnExactTableFindUptoRow.holds Try.pinned (OpenSpec.upto fnExactTableFindSpec)

/-- 'laws.FnExactTableGrow', WHERE WHAT IT READS IS OF BULK AT MOST 1048576: true; the input reads as it did. -/
def fnExactTableGrowUptoRow : OpenClaim := { program := "ytfnpodebjejhpaa", sum := "b98636c45f39bf3246725d3d35ae40e41ab7d6f57b03857fc065bceddfb79312", func := "loop.example/g00655/laws.FnExactTableGrow", spec := "fnExactTableGrow", apart := false, narrowed := true }
def FnExactTableGrowUptoSaid : Prop := fnExactTableGrowUptoRow.holds Try.pinned (OpenSpec.upto fnExactTableGrowSpec)

/-- 'laws.FnExactTableKeys', WHERE WHAT IT READS IS OF BULK AT MOST 1048576: true; the input reads as it did. -/
def fnExactTableKeysUptoRow : OpenClaim := { program := "ytfnpodebjejhpaa", sum := "b98636c45f39bf3246725d3d35ae40e41ab7d6f57b03857fc065bceddfb79312", func := "loop.example/g00655/laws.FnExactTableKeys", spec := "fnExactTableKeys", apart := false, narrowed := true }
def FnExactTableKeysUptoSaid : Prop := fnExactTableKeysUptoRow.holds Try.pinned (OpenSpec.upto fnExactTableKeysSpec)

/-- 'laws.FnExactTablePut', WHERE WHAT IT READS IS OF BULK AT MOST 1048576: true; the input reads as it did. -/
def fnExactTablePutUptoRow : OpenClaim := { program := "ytfnpodebjejhpaa", sum := "b98636c45f39bf3246725d3d35ae40e41ab7d6f57b03857fc065bceddfb79312", func := "loop.example/g00655/laws.FnExactTablePut", spec := "fnExactTablePut", apart := false, narrowed := true }
def FnExactTablePutUptoSaid : Prop := fnExactTablePutUptoRow.holds Try.pinned (OpenSpec.upto fnExactTablePutSpec)

/-- 'laws.FnExactTableDrop', WHERE WHAT IT READS IS OF BULK AT MOST 1048576: true; the input reads as it did. -/
def fnExactTableDropUptoRow : OpenClaim := { program := "ytfnpodebjejhpaa", sum := "b98636c45f39bf3246725d3d35ae40e41ab7d6f57b03857fc065bceddfb79312", func := "loop.example/g00655/laws.FnExactTableDrop", spec := "fnExactTableDrop", apart := false, narrowed := true }
def FnExactTableDropUptoSaid : Prop := fnExactTableDropUptoRow.holds Try.pinned (OpenSpec.upto fnExactTableDropSpec)

end Rows
end Go.Proofs.Ytfnpodebjejhpaa
