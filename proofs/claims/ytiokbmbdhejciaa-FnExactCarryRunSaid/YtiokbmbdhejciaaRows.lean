/-
  No cell of these rows narrows 'for every input' (looked for: loops, veiled, ifaces, maps, wideKeys, modest, calm, conditions, laid).
  DERIVED. THE GIVEN ROWS OF THIS SEAT. 8 by the template 'for every input the law returns true; each argument reads behind the call as it read before'; 0 by the template 'total and deterministic' (their statements: YtiokbmbdhejciaaTotals.lean).
  GIVEN WITH THE SEED: the statements are not yours to turn. If you find one false, say at which input.
  Laid BY PROGRAM, IN A SANDBOX (cutbox-rows.mjs): the forced cells as the released guide's own fill.sh prints them over the translation e71428aae435b778… (all of the seat's roots in one cut). By AI agents, Wed Nov 11 2026. No macro, syntax, notation, axiom, sorry.
-/
import Derived.Test.YtiokbmbdhejciaaChecked
import GoSem.Claim
import GoSem.ClaimJoined
import GoSem.ClaimMapViews
import Derived.JoinedTies
import Derived.KernelRfl
namespace Go.Proofs.Ytiokbmbdhejciaa
/- THE CELL 'sum', in the pinned program and in every row, IS THE sha256 OF THE DUMP (.gsa) THAT YtiokbmbdhejciaaProg.lean LOADS. Nothing in Lean hashes anything: it is a label: what it is worth is what the hold of that sum in a sandbox is worth. -/
noncomputable def Try.pinned : Pinned := { name := "ytiokbmbdhejciaa", sum := "e71428aae435b778504e6b5a43af438f7a83112d3fb30c70e718aa6900ddd8d0", checked := Try.checked }
namespace Rows
def none {H : Type} : Left H := { results := [], args := [] }

/-- 'laws.FnExactProfCost': WHATEVER THE INPUT: true; the input reads as it did. -/
def fnExactProfCostSpec : ChangeSpec := { name := "fnExactProfCost", fn := fun _ => fun
  | [d1, d2] => { results := [.lit (.bool true)], args := [d1, d2] }
  | _ => none }
def fnExactProfCostRow : OpenClaim := { program := "ytiokbmbdhejciaa", sum := "e71428aae435b778504e6b5a43af438f7a83112d3fb30c70e718aa6900ddd8d0", func := "loop.example/g00655/laws.FnExactProfCost", spec := "fnExactProfCost", unfollowed := true, recurses := true, apart := false }
def FnExactProfCostSaid : Prop := fnExactProfCostRow.holds Try.pinned (OpenSpec.ofChange fnExactProfCostSpec)

/-- ITS FALSE NEIGHBOUR: 'it returns false'. Refute it at one input. -/
def fnExactProfCostWrong : ChangeSpec := { name := "fnExactProfCost", fn := fun _ => fun
  | [d1, d2] => { results := [.lit (.bool false)], args := [d1, d2] }
  | _ => none }
def FnExactProfCostWrongFalsely : Prop := fnExactProfCostRow.holds Try.pinned (OpenSpec.ofChange fnExactProfCostWrong)

/-- 'laws.FnExactDovetail': WHATEVER THE INPUT: true; the input reads as it did. -/
def fnExactDovetailSpec : ChangeSpec := { name := "fnExactDovetail", fn := fun _ => fun
  | [d1, d2] => { results := [.lit (.bool true)], args := [d1, d2] }
  | _ => none }
def fnExactDovetailRow : OpenClaim := { program := "ytiokbmbdhejciaa", sum := "e71428aae435b778504e6b5a43af438f7a83112d3fb30c70e718aa6900ddd8d0", func := "loop.example/g00655/laws.FnExactDovetail", spec := "fnExactDovetail", unfollowed := true, recurses := true, apart := false }
def FnExactDovetailSaid : Prop := fnExactDovetailRow.holds Try.pinned (OpenSpec.ofChange fnExactDovetailSpec)

/-- ITS FALSE NEIGHBOUR: 'it returns false'. Refute it at one input. -/
def fnExactDovetailWrong : ChangeSpec := { name := "fnExactDovetail", fn := fun _ => fun
  | [d1, d2] => { results := [.lit (.bool false)], args := [d1, d2] }
  | _ => none }
def FnExactDovetailWrongFalsely : Prop := fnExactDovetailRow.holds Try.pinned (OpenSpec.ofChange fnExactDovetailWrong)

/-- 'laws.FnExactSettle': WHATEVER THE INPUT: true; the input reads as it did. -/
def fnExactSettleSpec : ChangeSpec := { name := "fnExactSettle", fn := fun _ => fun
  | [d1, d2, d3] => { results := [.lit (.bool true)], args := [d1, d2, d3] }
  | _ => none }
def fnExactSettleRow : OpenClaim := { program := "ytiokbmbdhejciaa", sum := "e71428aae435b778504e6b5a43af438f7a83112d3fb30c70e718aa6900ddd8d0", func := "loop.example/g00655/laws.FnExactSettle", spec := "fnExactSettle", unfollowed := true, recurses := true, apart := false }
def FnExactSettleSaid : Prop := fnExactSettleRow.holds Try.pinned (OpenSpec.ofChange fnExactSettleSpec)

/-- ITS FALSE NEIGHBOUR: 'it returns false'. Refute it at one input. -/
def fnExactSettleWrong : ChangeSpec := { name := "fnExactSettle", fn := fun _ => fun
  | [d1, d2, d3] => { results := [.lit (.bool false)], args := [d1, d2, d3] }
  | _ => none }
def FnExactSettleWrongFalsely : Prop := fnExactSettleRow.holds Try.pinned (OpenSpec.ofChange fnExactSettleWrong)

/-- 'laws.FnExactEstTell': WHATEVER THE INPUT: true; the input reads as it did. -/
def fnExactEstTellSpec : ChangeSpec := { name := "fnExactEstTell", fn := fun _ => fun
  | [d1, d2] => { results := [.lit (.bool true)], args := [d1, d2] }
  | _ => none }
def fnExactEstTellRow : OpenClaim := { program := "ytiokbmbdhejciaa", sum := "e71428aae435b778504e6b5a43af438f7a83112d3fb30c70e718aa6900ddd8d0", func := "loop.example/g00655/laws.FnExactEstTell", spec := "fnExactEstTell", unfollowed := true, recurses := true, apart := false }
def FnExactEstTellSaid : Prop := fnExactEstTellRow.holds Try.pinned (OpenSpec.ofChange fnExactEstTellSpec)

/-- ITS FALSE NEIGHBOUR: 'it returns false'. Refute it at one input. -/
def fnExactEstTellWrong : ChangeSpec := { name := "fnExactEstTell", fn := fun _ => fun
  | [d1, d2] => { results := [.lit (.bool false)], args := [d1, d2] }
  | _ => none }
def FnExactEstTellWrongFalsely : Prop := fnExactEstTellRow.holds Try.pinned (OpenSpec.ofChange fnExactEstTellWrong)

/-- 'laws.FnExactFinish': WHATEVER THE INPUT: true; the input reads as it did. -/
def fnExactFinishSpec : ChangeSpec := { name := "fnExactFinish", fn := fun _ => fun
  | [d1, d2, d3] => { results := [.lit (.bool true)], args := [d1, d2, d3] }
  | _ => none }
def fnExactFinishRow : OpenClaim := { program := "ytiokbmbdhejciaa", sum := "e71428aae435b778504e6b5a43af438f7a83112d3fb30c70e718aa6900ddd8d0", func := "loop.example/g00655/laws.FnExactFinish", spec := "fnExactFinish", unfollowed := true, recurses := true, apart := false }
def FnExactFinishSaid : Prop := fnExactFinishRow.holds Try.pinned (OpenSpec.ofChange fnExactFinishSpec)

/-- ITS FALSE NEIGHBOUR: 'it returns false'. Refute it at one input. -/
def fnExactFinishWrong : ChangeSpec := { name := "fnExactFinish", fn := fun _ => fun
  | [d1, d2, d3] => { results := [.lit (.bool false)], args := [d1, d2, d3] }
  | _ => none }
def FnExactFinishWrongFalsely : Prop := fnExactFinishRow.holds Try.pinned (OpenSpec.ofChange fnExactFinishWrong)

/-- 'laws.FnExactCharge': WHATEVER THE INPUT: true; the input reads as it did. -/
def fnExactChargeSpec : ChangeSpec := { name := "fnExactCharge", fn := fun _ => fun
  | [d1, d2] => { results := [.lit (.bool true)], args := [d1, d2] }
  | _ => none }
def fnExactChargeRow : OpenClaim := { program := "ytiokbmbdhejciaa", sum := "e71428aae435b778504e6b5a43af438f7a83112d3fb30c70e718aa6900ddd8d0", func := "loop.example/g00655/laws.FnExactCharge", spec := "fnExactCharge", unfollowed := true, recurses := true, apart := false }
def FnExactChargeSaid : Prop := fnExactChargeRow.holds Try.pinned (OpenSpec.ofChange fnExactChargeSpec)

/-- ITS FALSE NEIGHBOUR: 'it returns false'. Refute it at one input. -/
def fnExactChargeWrong : ChangeSpec := { name := "fnExactCharge", fn := fun _ => fun
  | [d1, d2] => { results := [.lit (.bool false)], args := [d1, d2] }
  | _ => none }
def FnExactChargeWrongFalsely : Prop := fnExactChargeRow.holds Try.pinned (OpenSpec.ofChange fnExactChargeWrong)

/-- 'laws.FnExactEstLearn': WHATEVER THE INPUT: true; the input reads as it did. -/
def fnExactEstLearnSpec : ChangeSpec := { name := "fnExactEstLearn", fn := fun _ => fun
  | [d1, d2] => { results := [.lit (.bool true)], args := [d1, d2] }
  | _ => none }
def fnExactEstLearnRow : OpenClaim := { program := "ytiokbmbdhejciaa", sum := "e71428aae435b778504e6b5a43af438f7a83112d3fb30c70e718aa6900ddd8d0", func := "loop.example/g00655/laws.FnExactEstLearn", spec := "fnExactEstLearn", unfollowed := true, recurses := true, apart := false }
def FnExactEstLearnSaid : Prop := fnExactEstLearnRow.holds Try.pinned (OpenSpec.ofChange fnExactEstLearnSpec)

/-- ITS FALSE NEIGHBOUR: 'it returns false'. Refute it at one input. -/
def fnExactEstLearnWrong : ChangeSpec := { name := "fnExactEstLearn", fn := fun _ => fun
  | [d1, d2] => { results := [.lit (.bool false)], args := [d1, d2] }
  | _ => none }
def FnExactEstLearnWrongFalsely : Prop := fnExactEstLearnRow.holds Try.pinned (OpenSpec.ofChange fnExactEstLearnWrong)

/-- 'laws.FnExactCarryRun': WHATEVER THE INPUT: true; the input reads as it did. -/
def fnExactCarryRunSpec : ChangeSpec := { name := "fnExactCarryRun", fn := fun _ => fun
  | [d] => { results := [.lit (.bool true)], args := [d] }
  | _ => none }
def fnExactCarryRunRow : OpenClaim := { program := "ytiokbmbdhejciaa", sum := "e71428aae435b778504e6b5a43af438f7a83112d3fb30c70e718aa6900ddd8d0", func := "loop.example/g00655/laws.FnExactCarryRun", spec := "fnExactCarryRun", unfollowed := true, recurses := true, apart := false }
def FnExactCarryRunSaid : Prop := fnExactCarryRunRow.holds Try.pinned (OpenSpec.ofChange fnExactCarryRunSpec)

/-- ITS FALSE NEIGHBOUR: 'it returns false'. Refute it at one input. -/
def fnExactCarryRunWrong : ChangeSpec := { name := "fnExactCarryRun", fn := fun _ => fun
  | [d] => { results := [.lit (.bool false)], args := [d] }
  | _ => none }
def FnExactCarryRunWrongFalsely : Prop := fnExactCarryRunRow.holds Try.pinned (OpenSpec.ofChange fnExactCarryRunWrong)

/- THE SECOND FORM. 'bulk': how many values and letters a reading holds, each counted each time it is reached (what is shared counts as often as it is met; a slice's spare places count too). A statement '..UptoSaid' is the law's where the arguments, and the package variables that the reading takes, are together of bulk at most 1048576: NARROWER than '..Said'. Prove '..Said' where nothing that the law and all that it calls make is longer than what came in: it says more and counts as full. Else prove '..UptoSaid'. A law counts once. -/
mutual
def uptoBulk {H : Type} : DataW H → Nat
  | .lit (.string bytes) => bytes.length + 1
  | .lit _ => 1
  | .nil => 1
  | .ptr d => uptoBulk d + 1
  | .slice elems spare => uptoBulkAll elems + uptoBulkAll spare + 1
  | .agg parts => uptoBulkAll parts + 1
  | .iface _ d => uptoBulk d + 1
  | .map entries => uptoBulkEntries entries + 1
  | .held _ => 1
def uptoBulkAll {H : Type} : List (DataW H) → Nat
  | [] => 0
  | d :: r => uptoBulk d + uptoBulkAll r
def uptoBulkEntries {H : Type} : List (Lit × DataW H) → Nat
  | [] => 0
  | x :: r => uptoBulkEntry x + uptoBulkEntries r
def uptoBulkEntry {H : Type} : Lit × DataW H → Nat
  | (.string bytes, d) => bytes.length + uptoBulk d + 1
  | (_, d) => uptoBulk d + 1
 end
def uptoSmall : (H : Type) → List (DataW H) → Bool := fun _ ds => decide (uptoBulkAll ds ≤ 1048576)
def OpenSpec.upto (s : _root_.Go.ChangeSpec) : _root_.Go.OpenSpec := { _root_.Go.OpenSpec.ofChange s with cond := some uptoSmall }

/-- 'laws.FnExactProfCost', WHERE WHAT IT READS IS OF BULK AT MOST 1048576: true; the input reads as it did. -/
def fnExactProfCostUptoRow : OpenClaim := { program := "ytiokbmbdhejciaa", sum := "e71428aae435b778504e6b5a43af438f7a83112d3fb30c70e718aa6900ddd8d0", func := "loop.example/g00655/laws.FnExactProfCost", spec := "fnExactProfCost", unfollowed := true, recurses := true, apart := false, narrowed := true }
def FnExactProfCostUptoSaid : Prop := fnExactProfCostUptoRow.holds Try.pinned (OpenSpec.upto fnExactProfCostSpec)

/-- 'laws.FnExactDovetail', WHERE WHAT IT READS IS OF BULK AT MOST 1048576: true; the input reads as it did. -/
def fnExactDovetailUptoRow : OpenClaim := { program := "ytiokbmbdhejciaa", sum := "e71428aae435b778504e6b5a43af438f7a83112d3fb30c70e718aa6900ddd8d0", func := "loop.example/g00655/laws.FnExactDovetail", spec := "fnExactDovetail", unfollowed := true, recurses := true, apart := false, narrowed := true }
def FnExactDovetailUptoSaid : Prop := fnExactDovetailUptoRow.holds Try.pinned (OpenSpec.upto fnExactDovetailSpec)

/-- 'laws.FnExactSettle', WHERE WHAT IT READS IS OF BULK AT MOST 1048576: true; the input reads as it did. -/
def fnExactSettleUptoRow : OpenClaim := { program := "ytiokbmbdhejciaa", sum := "e71428aae435b778504e6b5a43af438f7a83112d3fb30c70e718aa6900ddd8d0", func := "loop.example/g00655/laws.FnExactSettle", spec := "fnExactSettle", unfollowed := true, recurses := true, apart := false, narrowed := true }
def FnExactSettleUptoSaid : Prop := fnExactSettleUptoRow.holds Try.pinned (OpenSpec.upto fnExactSettleSpec)

/-- 'laws.FnExactEstTell', WHERE WHAT IT READS IS OF BULK AT MOST 1048576: true; the input reads as it did. -/
def fnExactEstTellUptoRow : OpenClaim := { program := "ytiokbmbdhejciaa", sum := "e71428aae435b778504e6b5a43af438f7a83112d3fb30c70e718aa6900ddd8d0", func := "loop.example/g00655/laws.FnExactEstTell", spec := "fnExactEstTell", unfollowed := true, recurses := true, apart := false, narrowed := true }
def FnExactEstTellUptoSaid : Prop := fnExactEstTellUptoRow.holds Try.pinned (OpenSpec.upto fnExactEstTellSpec)

/-- 'laws.FnExactFinish', WHERE WHAT IT READS IS OF BULK AT MOST 1048576: true; the input reads as it did. -/
def fnExactFinishUptoRow : OpenClaim := { program := "ytiokbmbdhejciaa", sum := "e71428aae435b778504e6b5a43af438f7a83112d3fb30c70e718aa6900ddd8d0", func := "loop.example/g00655/laws.FnExactFinish", spec := "fnExactFinish", unfollowed := true, recurses := true, apart := false, narrowed := true }
def FnExactFinishUptoSaid : Prop := fnExactFinishUptoRow.holds Try.pinned (OpenSpec.upto fnExactFinishSpec)

/-- 'laws.FnExactCharge', WHERE WHAT IT READS IS OF BULK AT MOST 1048576: true; the input reads as it did. -/
def fnExactChargeUptoRow : OpenClaim := { program := "ytiokbmbdhejciaa", sum := "e71428aae435b778504e6b5a43af438f7a83112d3fb30c70e718aa6900ddd8d0", func := "loop.example/g00655/laws.FnExactCharge", spec := "fnExactCharge", unfollowed := true, recurses := true, apart := false, narrowed := true }
def FnExactChargeUptoSaid : Prop := fnExactChargeUptoRow.holds Try.pinned (OpenSpec.upto fnExactChargeSpec)

/-- 'laws.FnExactEstLearn', WHERE WHAT IT READS IS OF BULK AT MOST 1048576: true; the input reads as it did. -/
def fnExactEstLearnUptoRow : OpenClaim := { program := "ytiokbmbdhejciaa", sum := "e71428aae435b778504e6b5a43af438f7a83112d3fb30c70e718aa6900ddd8d0", func := "loop.example/g00655/laws.FnExactEstLearn", spec := "fnExactEstLearn", unfollowed := true, recurses := true, apart := false, narrowed := true }
def FnExactEstLearnUptoSaid : Prop := fnExactEstLearnUptoRow.holds Try.pinned (OpenSpec.upto fnExactEstLearnSpec)

/-- 'laws.FnExactCarryRun', WHERE WHAT IT READS IS OF BULK AT MOST 1048576: true; the input reads as it did. -/
def fnExactCarryRunUptoRow : OpenClaim := { program := "ytiokbmbdhejciaa", sum := "e71428aae435b778504e6b5a43af438f7a83112d3fb30c70e718aa6900ddd8d0", func := "loop.example/g00655/laws.FnExactCarryRun", spec := "fnExactCarryRun", unfollowed := true, recurses := true, apart := false, narrowed := true }
def FnExactCarryRunUptoSaid : Prop := fnExactCarryRunUptoRow.holds Try.pinned (OpenSpec.upto fnExactCarryRunSpec)

end Rows
end Go.Proofs.Ytiokbmbdhejciaa
