/-
  No cell of these rows narrows 'for every input' (looked for: loops, veiled, ifaces, maps, wideKeys, modest, calm, conditions, laid).
  DERIVED. THE GIVEN ROWS OF THIS SEAT. 12 by the template 'for every input the law returns true; each argument reads behind the call as it read before'; 0 by the template 'total and deterministic' (their statements: YtkijolmifhlfoaaTotals.lean).
  GIVEN WITH THE SEED: the statements are not yours to turn. If you find one false, say at which input.
  Laid BY PROGRAM, IN A SANDBOX (cutbox-rows.mjs): the forced cells as the released guide's own fill.sh prints them over the translation 8a8d2f52d9b99ad3… (all of the seat's roots in one cut). By AI agents, Wed Nov 11 2026. No macro, syntax, notation, axiom, sorry.
-/
import Derived.Test.YtkijolmifhlfoaaChecked
import GoSem.Claim
import GoSem.ClaimJoined
import GoSem.ClaimMapViews
import Derived.JoinedTies
import Derived.KernelRfl
namespace Go.Proofs.Ytkijolmifhlfoaa
/- THE CELL 'sum', in the pinned program and in every row, IS THE sha256 OF THE DUMP (.gsa) THAT YtkijolmifhlfoaaProg.lean LOADS. Nothing in Lean hashes anything: it is a label: what it is worth is what the hold of that sum in a sandbox is worth. -/
noncomputable def Try.pinned : Pinned := { name := "ytkijolmifhlfoaa", sum := "8a8d2f52d9b99ad3a52f880e6329fc350647191ea08387325308eed3c15e6f51", checked := Try.checked }
namespace Rows
def none {H : Type} : Left H := { results := [], args := [] }

/-- 'laws.FnExactVecTop': WHATEVER THE INPUT: true; the input reads as it did. -/
def fnExactVecTopSpec : ChangeSpec := { name := "fnExactVecTop", fn := fun _ => fun
  | [d] => { results := [.lit (.bool true)], args := [d] }
  | _ => none }
def fnExactVecTopRow : OpenClaim := { program := "ytkijolmifhlfoaa", sum := "8a8d2f52d9b99ad3a52f880e6329fc350647191ea08387325308eed3c15e6f51", func := "loop.example/g00655/laws.FnExactVecTop", spec := "fnExactVecTop", apart := false }
def FnExactVecTopSaid : Prop := fnExactVecTopRow.holds Try.pinned (OpenSpec.ofChange fnExactVecTopSpec)

/-- ITS FALSE NEIGHBOUR: 'it returns false'. Refute it at one input. -/
def fnExactVecTopWrong : ChangeSpec := { name := "fnExactVecTop", fn := fun _ => fun
  | [d] => { results := [.lit (.bool false)], args := [d] }
  | _ => none }
def FnExactVecTopWrongFalsely : Prop := fnExactVecTopRow.holds Try.pinned (OpenSpec.ofChange fnExactVecTopWrong)

/-- 'laws.FnExactStride': WHATEVER THE INPUT: true; the input reads as it did. -/
def fnExactStrideSpec : ChangeSpec := { name := "fnExactStride", fn := fun _ => fun
  | [d] => { results := [.lit (.bool true)], args := [d] }
  | _ => none }
def fnExactStrideRow : OpenClaim := { program := "ytkijolmifhlfoaa", sum := "8a8d2f52d9b99ad3a52f880e6329fc350647191ea08387325308eed3c15e6f51", func := "loop.example/g00655/laws.FnExactStride", spec := "fnExactStride", apart := false }
def FnExactStrideSaid : Prop := fnExactStrideRow.holds Try.pinned (OpenSpec.ofChange fnExactStrideSpec)

/-- ITS FALSE NEIGHBOUR: 'it returns false'. Refute it at one input. -/
def fnExactStrideWrong : ChangeSpec := { name := "fnExactStride", fn := fun _ => fun
  | [d] => { results := [.lit (.bool false)], args := [d] }
  | _ => none }
def FnExactStrideWrongFalsely : Prop := fnExactStrideRow.holds Try.pinned (OpenSpec.ofChange fnExactStrideWrong)

/-- 'laws.FnExactCarryOk': WHATEVER THE INPUT: true; the input reads as it did. -/
def fnExactCarryOkSpec : ChangeSpec := { name := "fnExactCarryOk", fn := fun _ => fun
  | [d] => { results := [.lit (.bool true)], args := [d] }
  | _ => none }
def fnExactCarryOkRow : OpenClaim := { program := "ytkijolmifhlfoaa", sum := "8a8d2f52d9b99ad3a52f880e6329fc350647191ea08387325308eed3c15e6f51", func := "loop.example/g00655/laws.FnExactCarryOk", spec := "fnExactCarryOk", apart := false }
def FnExactCarryOkSaid : Prop := fnExactCarryOkRow.holds Try.pinned (OpenSpec.ofChange fnExactCarryOkSpec)

/-- ITS FALSE NEIGHBOUR: 'it returns false'. Refute it at one input. -/
def fnExactCarryOkWrong : ChangeSpec := { name := "fnExactCarryOk", fn := fun _ => fun
  | [d] => { results := [.lit (.bool false)], args := [d] }
  | _ => none }
def FnExactCarryOkWrongFalsely : Prop := fnExactCarryOkRow.holds Try.pinned (OpenSpec.ofChange fnExactCarryOkWrong)

/-- 'laws.FnExactChargeOk': WHATEVER THE INPUT: true; the input reads as it did. -/
def fnExactChargeOkSpec : ChangeSpec := { name := "fnExactChargeOk", fn := fun _ => fun
  | [d] => { results := [.lit (.bool true)], args := [d] }
  | _ => none }
def fnExactChargeOkRow : OpenClaim := { program := "ytkijolmifhlfoaa", sum := "8a8d2f52d9b99ad3a52f880e6329fc350647191ea08387325308eed3c15e6f51", func := "loop.example/g00655/laws.FnExactChargeOk", spec := "fnExactChargeOk", apart := false }
def FnExactChargeOkSaid : Prop := fnExactChargeOkRow.holds Try.pinned (OpenSpec.ofChange fnExactChargeOkSpec)

/-- ITS FALSE NEIGHBOUR: 'it returns false'. Refute it at one input. -/
def fnExactChargeOkWrong : ChangeSpec := { name := "fnExactChargeOk", fn := fun _ => fun
  | [d] => { results := [.lit (.bool false)], args := [d] }
  | _ => none }
def FnExactChargeOkWrongFalsely : Prop := fnExactChargeOkRow.holds Try.pinned (OpenSpec.ofChange fnExactChargeOkWrong)

/-- 'laws.FnExactCostOk': WHATEVER THE INPUT: true; the input reads as it did. -/
def fnExactCostOkSpec : ChangeSpec := { name := "fnExactCostOk", fn := fun _ => fun
  | [d] => { results := [.lit (.bool true)], args := [d] }
  | _ => none }
def fnExactCostOkRow : OpenClaim := { program := "ytkijolmifhlfoaa", sum := "8a8d2f52d9b99ad3a52f880e6329fc350647191ea08387325308eed3c15e6f51", func := "loop.example/g00655/laws.FnExactCostOk", spec := "fnExactCostOk", apart := false }
def FnExactCostOkSaid : Prop := fnExactCostOkRow.holds Try.pinned (OpenSpec.ofChange fnExactCostOkSpec)

/-- ITS FALSE NEIGHBOUR: 'it returns false'. Refute it at one input. -/
def fnExactCostOkWrong : ChangeSpec := { name := "fnExactCostOk", fn := fun _ => fun
  | [d] => { results := [.lit (.bool false)], args := [d] }
  | _ => none }
def FnExactCostOkWrongFalsely : Prop := fnExactCostOkRow.holds Try.pinned (OpenSpec.ofChange fnExactCostOkWrong)

/-- 'laws.FnExactTagOk': WHATEVER THE INPUT: true; the input reads as it did. -/
def fnExactTagOkSpec : ChangeSpec := { name := "fnExactTagOk", fn := fun _ => fun
  | [d] => { results := [.lit (.bool true)], args := [d] }
  | _ => none }
def fnExactTagOkRow : OpenClaim := { program := "ytkijolmifhlfoaa", sum := "8a8d2f52d9b99ad3a52f880e6329fc350647191ea08387325308eed3c15e6f51", func := "loop.example/g00655/laws.FnExactTagOk", spec := "fnExactTagOk", apart := false }
def FnExactTagOkSaid : Prop := fnExactTagOkRow.holds Try.pinned (OpenSpec.ofChange fnExactTagOkSpec)

/-- ITS FALSE NEIGHBOUR: 'it returns false'. Refute it at one input. -/
def fnExactTagOkWrong : ChangeSpec := { name := "fnExactTagOk", fn := fun _ => fun
  | [d] => { results := [.lit (.bool false)], args := [d] }
  | _ => none }
def FnExactTagOkWrongFalsely : Prop := fnExactTagOkRow.holds Try.pinned (OpenSpec.ofChange fnExactTagOkWrong)

/-- 'laws.FnExactVecMost': WHATEVER THE INPUT: true; the input reads as it did. -/
def fnExactVecMostSpec : ChangeSpec := { name := "fnExactVecMost", fn := fun _ => fun
  | [d1, d2] => { results := [.lit (.bool true)], args := [d1, d2] }
  | _ => none }
def fnExactVecMostRow : OpenClaim := { program := "ytkijolmifhlfoaa", sum := "8a8d2f52d9b99ad3a52f880e6329fc350647191ea08387325308eed3c15e6f51", func := "loop.example/g00655/laws.FnExactVecMost", spec := "fnExactVecMost", unfollowed := true, recurses := true, apart := false }
def FnExactVecMostSaid : Prop := fnExactVecMostRow.holds Try.pinned (OpenSpec.ofChange fnExactVecMostSpec)

/-- ITS FALSE NEIGHBOUR: 'it returns false'. Refute it at one input. -/
def fnExactVecMostWrong : ChangeSpec := { name := "fnExactVecMost", fn := fun _ => fun
  | [d1, d2] => { results := [.lit (.bool false)], args := [d1, d2] }
  | _ => none }
def FnExactVecMostWrongFalsely : Prop := fnExactVecMostRow.holds Try.pinned (OpenSpec.ofChange fnExactVecMostWrong)

/-- 'laws.FnExactProfOk': WHATEVER THE INPUT: true; the input reads as it did. -/
def fnExactProfOkSpec : ChangeSpec := { name := "fnExactProfOk", fn := fun _ => fun
  | [d] => { results := [.lit (.bool true)], args := [d] }
  | _ => none }
def fnExactProfOkRow : OpenClaim := { program := "ytkijolmifhlfoaa", sum := "8a8d2f52d9b99ad3a52f880e6329fc350647191ea08387325308eed3c15e6f51", func := "loop.example/g00655/laws.FnExactProfOk", spec := "fnExactProfOk", apart := false }
def FnExactProfOkSaid : Prop := fnExactProfOkRow.holds Try.pinned (OpenSpec.ofChange fnExactProfOkSpec)

/-- ITS FALSE NEIGHBOUR: 'it returns false'. Refute it at one input. -/
def fnExactProfOkWrong : ChangeSpec := { name := "fnExactProfOk", fn := fun _ => fun
  | [d] => { results := [.lit (.bool false)], args := [d] }
  | _ => none }
def FnExactProfOkWrongFalsely : Prop := fnExactProfOkRow.holds Try.pinned (OpenSpec.ofChange fnExactProfOkWrong)

/-- 'laws.FnExactNarrow': WHATEVER THE INPUT: true; the input reads as it did. -/
def fnExactNarrowSpec : ChangeSpec := { name := "fnExactNarrow", fn := fun _ => fun
  | [d1, d2] => { results := [.lit (.bool true)], args := [d1, d2] }
  | _ => none }
def fnExactNarrowRow : OpenClaim := { program := "ytkijolmifhlfoaa", sum := "8a8d2f52d9b99ad3a52f880e6329fc350647191ea08387325308eed3c15e6f51", func := "loop.example/g00655/laws.FnExactNarrow", spec := "fnExactNarrow", apart := false }
def FnExactNarrowSaid : Prop := fnExactNarrowRow.holds Try.pinned (OpenSpec.ofChange fnExactNarrowSpec)

/-- ITS FALSE NEIGHBOUR: 'it returns false'. Refute it at one input. -/
def fnExactNarrowWrong : ChangeSpec := { name := "fnExactNarrow", fn := fun _ => fun
  | [d1, d2] => { results := [.lit (.bool false)], args := [d1, d2] }
  | _ => none }
def FnExactNarrowWrongFalsely : Prop := fnExactNarrowRow.holds Try.pinned (OpenSpec.ofChange fnExactNarrowWrong)

/-- 'laws.FnExactEstOk': WHATEVER THE INPUT: true; the input reads as it did. -/
def fnExactEstOkSpec : ChangeSpec := { name := "fnExactEstOk", fn := fun _ => fun
  | [d] => { results := [.lit (.bool true)], args := [d] }
  | _ => none }
def fnExactEstOkRow : OpenClaim := { program := "ytkijolmifhlfoaa", sum := "8a8d2f52d9b99ad3a52f880e6329fc350647191ea08387325308eed3c15e6f51", func := "loop.example/g00655/laws.FnExactEstOk", spec := "fnExactEstOk", apart := false }
def FnExactEstOkSaid : Prop := fnExactEstOkRow.holds Try.pinned (OpenSpec.ofChange fnExactEstOkSpec)

/-- ITS FALSE NEIGHBOUR: 'it returns false'. Refute it at one input. -/
def fnExactEstOkWrong : ChangeSpec := { name := "fnExactEstOk", fn := fun _ => fun
  | [d] => { results := [.lit (.bool false)], args := [d] }
  | _ => none }
def FnExactEstOkWrongFalsely : Prop := fnExactEstOkRow.holds Try.pinned (OpenSpec.ofChange fnExactEstOkWrong)

/-- 'laws.FnExactBaseOf': WHATEVER THE INPUT: true; the input reads as it did. -/
def fnExactBaseOfSpec : ChangeSpec := { name := "fnExactBaseOf", fn := fun _ => fun
  | [d1, d2] => { results := [.lit (.bool true)], args := [d1, d2] }
  | _ => none }
def fnExactBaseOfRow : OpenClaim := { program := "ytkijolmifhlfoaa", sum := "8a8d2f52d9b99ad3a52f880e6329fc350647191ea08387325308eed3c15e6f51", func := "loop.example/g00655/laws.FnExactBaseOf", spec := "fnExactBaseOf", apart := false }
def FnExactBaseOfSaid : Prop := fnExactBaseOfRow.holds Try.pinned (OpenSpec.ofChange fnExactBaseOfSpec)

/-- ITS FALSE NEIGHBOUR: 'it returns false'. Refute it at one input. -/
def fnExactBaseOfWrong : ChangeSpec := { name := "fnExactBaseOf", fn := fun _ => fun
  | [d1, d2] => { results := [.lit (.bool false)], args := [d1, d2] }
  | _ => none }
def FnExactBaseOfWrongFalsely : Prop := fnExactBaseOfRow.holds Try.pinned (OpenSpec.ofChange fnExactBaseOfWrong)

/-- 'laws.FnExactLower': WHATEVER THE INPUT: true; the input reads as it did. -/
def fnExactLowerSpec : ChangeSpec := { name := "fnExactLower", fn := fun _ => fun
  | [d1, d2] => { results := [.lit (.bool true)], args := [d1, d2] }
  | _ => none }
def fnExactLowerRow : OpenClaim := { program := "ytkijolmifhlfoaa", sum := "8a8d2f52d9b99ad3a52f880e6329fc350647191ea08387325308eed3c15e6f51", func := "loop.example/g00655/laws.FnExactLower", spec := "fnExactLower", unfollowed := true, recurses := true, apart := false }
def FnExactLowerSaid : Prop := fnExactLowerRow.holds Try.pinned (OpenSpec.ofChange fnExactLowerSpec)

/-- ITS FALSE NEIGHBOUR: 'it returns false'. Refute it at one input. -/
def fnExactLowerWrong : ChangeSpec := { name := "fnExactLower", fn := fun _ => fun
  | [d1, d2] => { results := [.lit (.bool false)], args := [d1, d2] }
  | _ => none }
def FnExactLowerWrongFalsely : Prop := fnExactLowerRow.holds Try.pinned (OpenSpec.ofChange fnExactLowerWrong)

/- THE SECOND FORM. 'bulk': how many values and letters a reading holds, each counted each time it is reached (what is shared counts as often as it is met; a slice's spare places count too). A statement '..UptoSaid' is the law's where the arguments, and the package variables that the reading takes, are together of bulk at most 1048576: NARROWER than '..Said'. Prove '..Said' where nothing that the law and all that it calls make is longer than what came in: it says more and counts as full. Else prove '..UptoSaid'. A law counts once. -/
mutual
def uptoBulk {H : Type} : DataW H → Nat
  | .lit (.string bytes) => bytes.length + 1
  | .lit _ => 1
  | .nil => 1
  | .ptr d => uptoBulk d + 1
  | .slice elems spare => uptoBulkAll elems + uptoBulkAll spare + 1
  | .agg parts => uptoBulkAll parts + 1
  | .iface _ d => uptoBulk d + 1
  | .map entries => uptoBulkEntries entries + 1
  | .held _ => 1
def uptoBulkAll {H : Type} : List (DataW H) → Nat
  | [] => 0
  | d :: r => uptoBulk d + uptoBulkAll r
def uptoBulkEntries {H : Type} : List (Lit × DataW H) → Nat
  | [] => 0
  | x :: r => uptoBulkEntry x + uptoBulkEntries r
def uptoBulkEntry {H : Type} : Lit × DataW H → Nat
  | (.string bytes, d) => bytes.length + uptoBulk d + 1
  | (_, d) => uptoBulk d + 1
 end
def uptoSmall : (H : Type) → List (DataW H) → Bool := fun _ ds => decide (uptoBulkAll ds ≤ 1048576)
def OpenSpec.upto (s : _root_.Go.ChangeSpec) : _root_.Go.OpenSpec := { _root_.Go.OpenSpec.ofChange s with cond := some uptoSmall }

/-- 'laws.FnExactVecTop', WHERE WHAT IT READS IS OF BULK AT MOST 1048576: true; the input reads as it did. -/
def fnExactVecTopUptoRow : OpenClaim := { program := "ytkijolmifhlfoaa", sum := "8a8d2f52d9b99ad3a52f880e6329fc350647191ea08387325308eed3c15e6f51", func := "loop.example/g00655/laws.FnExactVecTop", spec := "fnExactVecTop", apart := false, narrowed := true }
def FnExactVecTopUptoSaid : Prop := fnExactVecTopUptoRow.holds Try.pinned (OpenSpec.upto fnExactVecTopSpec)

/-- 'laws.FnExactStride', WHERE WHAT IT READS IS OF BULK AT MOST 1048576: true; the input reads as it did. -/
def fnExactStrideUptoRow : OpenClaim := { program := "ytkijolmifhlfoaa", sum := "8a8d2f52d9b99ad3a52f880e6329fc350647191ea08387325308eed3c15e6f51", func := "loop.example/g00655/laws.FnExactStride", spec := "fnExactStride", apart := false, narrowed := true }
def FnExactStrideUptoSaid : Prop := fnExactStrideUptoRow.holds Try.pinned (OpenSpec.upto fnExactStrideSpec)

/-- 'laws.FnExactCarryOk', WHERE WHAT IT READS IS OF BULK AT MOST 1048576: true; the input reads as it did. -/
def fnExactCarryOkUptoRow : OpenClaim := { program := "ytkijolmifhlfoaa", sum := "8a8d2f52d9b99ad3a52f880e6329fc350647191ea08387325308eed3c15e6f51", func := "loop.example/g00655/laws.FnExactCarryOk", spec := "fnExactCarryOk", apart := false, narrowed := true }
def FnExactCarryOkUptoSaid : Prop := fnExactCarryOkUptoRow.holds Try.pinned (OpenSpec.upto fnExactCarryOkSpec)

/-- 'laws.FnExactChargeOk', WHERE WHAT IT READS IS OF BULK AT MOST 1048576: true; the input reads as it did. -/
def fnExactChargeOkUptoRow : OpenClaim := { program := "ytkijolmifhlfoaa", sum := "8a8d2f52d9b99ad3a52f880e6329fc350647191ea08387325308eed3c15e6f51", func := "loop.example/g00655/laws.FnExactChargeOk", spec := "fnExactChargeOk", apart := false, narrowed := true }
def FnExactChargeOkUptoSaid : Prop := fnExactChargeOkUptoRow.holds Try.pinned (OpenSpec.upto fnExactChargeOkSpec)

/-- 'laws.FnExactCostOk', WHERE WHAT IT READS IS OF BULK AT MOST 1048576: true; the input reads as it did. -/
def fnExactCostOkUptoRow : OpenClaim := { program := "ytkijolmifhlfoaa", sum := "8a8d2f52d9b99ad3a52f880e6329fc350647191ea08387325308eed3c15e6f51", func := "loop.example/g00655/laws.FnExactCostOk", spec := "fnExactCostOk", apart := false, narrowed := true }
def FnExactCostOkUptoSaid : Prop := fnExactCostOkUptoRow.holds Try.pinned (OpenSpec.upto fnExactCostOkSpec)

/-- 'laws.FnExactTagOk', WHERE WHAT IT READS IS OF BULK AT MOST 1048576: true; the input reads as it did. -/
def fnExactTagOkUptoRow : OpenClaim := { program := "ytkijolmifhlfoaa", sum := "8a8d2f52d9b99ad3a52f880e6329fc350647191ea08387325308eed3c15e6f51", func := "loop.example/g00655/laws.FnExactTagOk", spec := "fnExactTagOk", apart := false, narrowed := true }
def FnExactTagOkUptoSaid : Prop := fnExactTagOkUptoRow.holds Try.pinned (OpenSpec.upto fnExactTagOkSpec)

/-- 'laws.FnExactVecMost', WHERE WHAT IT READS IS OF BULK AT MOST 1048576: true; the input reads as it did. -/
def fnExactVecMostUptoRow : OpenClaim := { program := "ytkijolmifhlfoaa", sum := "8a8d2f52d9b99ad3a52f880e6329fc350647191ea08387325308eed3c15e6f51", func := "loop.example/g00655/laws.FnExactVecMost", spec := "fnExactVecMost", unfollowed := true, recurses := true, apart := false, narrowed := true }
def FnExactVecMostUptoSaid : Prop := fnExactVecMostUptoRow.holds Try.pinned (OpenSpec.upto fnExactVecMostSpec)

/-- 'laws.FnExactProfOk', WHERE WHAT IT READS IS OF BULK AT MOST 1048576: true; the input reads as it did. -/
def fnExactProfOkUptoRow : OpenClaim := { program := "ytkijolmifhlfoaa", sum := "8a8d2f52d9b99ad3a52f880e6329fc350647191ea08387325308eed3c15e6f51", func := "loop.example/g00655/laws.FnExactProfOk", spec := "fnExactProfOk", apart := false, narrowed := true }
def FnExactProfOkUptoSaid : Prop := fnExactProfOkUptoRow.holds Try.pinned (OpenSpec.upto fnExactProfOkSpec)

/-- 'laws.FnExactNarrow', WHERE WHAT IT READS IS OF BULK AT MOST 1048576: true; the input reads as it did. -/
def fnExactNarrowUptoRow : OpenClaim := { program := "ytkijolmifhlfoaa", sum := "8a8d2f52d9b99ad3a52f880e6329fc350647191ea08387325308eed3c15e6f51", func := "loop.example/g00655/laws.FnExactNarrow", spec := "fnExactNarrow", apart := false, narrowed := true }
def FnExactNarrowUptoSaid : Prop := fnExactNarrowUptoRow.holds Try.pinned (OpenSpec.upto fnExactNarrowSpec)

/-- 'laws.FnExactEstOk', WHERE WHAT IT READS IS OF BULK AT MOST 1048576: true; the input reads as it did. -/
def fnExactEstOkUptoRow : OpenClaim := { program := "ytkijolmifhlfoaa", sum := "8a8d2f52d9b99ad3a52f880e6329fc350647191ea08387325308eed3c15e6f51", func := "loop.example/g00655/laws.FnExactEstOk", spec := "fnExactEstOk", apart := false, narrowed := true }
def FnExactEstOkUptoSaid : Prop := fnExactEstOkUptoRow.holds Try.pinned (OpenSpec.upto fnExactEstOkSpec)

/-- 'laws.FnExactBaseOf', WHERE WHAT IT READS IS OF BULK AT MOST 1048576: true; the input reads as it did. -/
def fnExactBaseOfUptoRow : OpenClaim := { program := "ytkijolmifhlfoaa", sum := "8a8d2f52d9b99ad3a52f880e6329fc350647191ea08387325308eed3c15e6f51", func := "loop.example/g00655/laws.FnExactBaseOf", spec := "fnExactBaseOf", apart := false, narrowed := true }
def FnExactBaseOfUptoSaid : Prop := fnExactBaseOfUptoRow.holds Try.pinned (OpenSpec.upto fnExactBaseOfSpec)

/-- 'laws.FnExactLower', WHERE WHAT IT READS IS OF BULK AT MOST 1048576: true; the input reads as it did. -/
def fnExactLowerUptoRow : OpenClaim := { program := "ytkijolmifhlfoaa", sum := "8a8d2f52d9b99ad3a52f880e6329fc350647191ea08387325308eed3c15e6f51", func := "loop.example/g00655/laws.FnExactLower", spec := "fnExactLower", unfollowed := true, recurses := true, apart := false, narrowed := true }
def FnExactLowerUptoSaid : Prop := fnExactLowerUptoRow.holds Try.pinned (OpenSpec.upto fnExactLowerSpec)

end Rows
end Go.Proofs.Ytkijolmifhlfoaa
