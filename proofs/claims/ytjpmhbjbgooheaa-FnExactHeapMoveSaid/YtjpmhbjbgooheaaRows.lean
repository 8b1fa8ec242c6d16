/-
  No cell of these rows narrows 'for every input' (looked for: loops, veiled, ifaces, maps, wideKeys, modest, calm, conditions, laid).
  DERIVED. THE GIVEN ROWS OF THIS SEAT. 7 by the template 'for every input the law returns true; each argument reads behind the call as it read before'; 0 by the template 'total and deterministic' (their statements: YtjpmhbjbgooheaaTotals.lean).
  GIVEN WITH THE SEED: the statements are not yours to turn. If you find one false, say at which input.
  Laid BY PROGRAM, IN A SANDBOX (cutbox-rows.mjs): the forced cells as the released guide's own fill.sh prints them over the translation 1fbd31316d16bc0b… (all of the seat's roots in one cut). By AI agents, Wed Nov 11 2026. No macro, syntax, notation, axiom, sorry.
-/
import Derived.Test.YtjpmhbjbgooheaaChecked
import GoSem.Claim
import GoSem.ClaimJoined
import GoSem.ClaimMapViews
import Derived.JoinedTies
import Derived.KernelRfl
namespace Go.Proofs.Ytjpmhbjbgooheaa
/- THE CELL 'sum', in the pinned program and in every row, IS THE sha256 OF THE DUMP (.gsa) THAT YtjpmhbjbgooheaaProg.lean LOADS. Nothing in Lean hashes anything: it is a label: what it is worth is what the hold of that sum in a sandbox is worth. -/
noncomputable def Try.pinned : Pinned := { name := "ytjpmhbjbgooheaa", sum := "1fbd31316d16bc0b19d8e656ebfa9408586cccf3d9eb4fef5f85214c98c6db09", checked := Try.checked }
namespace Rows
def none {H : Type} : Left H := { results := [], args := [] }

/-- 'laws.FnExactAhead': WHATEVER THE INPUT: true; the input reads as it did. -/
def fnExactAheadSpec : ChangeSpec := { name := "fnExactAhead", fn := fun _ => fun
  | [d1, d2] => { results := [.lit (.bool true)], args := [d1, d2] }
  | _ => none }
def fnExactAheadRow : OpenClaim := { program := "ytjpmhbjbgooheaa", sum := "1fbd31316d16bc0b19d8e656ebfa9408586cccf3d9eb4fef5f85214c98c6db09", func := "loop.example/g00655/laws.FnExactAhead", spec := "fnExactAhead", apart := false }
def FnExactAheadSaid : Prop := fnExactAheadRow.holds Try.pinned (OpenSpec.ofChange fnExactAheadSpec)

/-- ITS FALSE NEIGHBOUR: 'it returns false'. Refute it at one input. -/
def fnExactAheadWrong : ChangeSpec := { name := "fnExactAhead", fn := fun _ => fun
  | [d1, d2] => { results := [.lit (.bool false)], args := [d1, d2] }
  | _ => none }
def FnExactAheadWrongFalsely : Prop := fnExactAheadRow.holds Try.pinned (OpenSpec.ofChange fnExactAheadWrong)

/-- 'laws.FnExactItemOk': WHATEVER THE INPUT: true; the input reads as it did. -/
def fnExactItemOkSpec : ChangeSpec := { name := "fnExactItemOk", fn := fun _ => fun
  | [d] => { results := [.lit (.bool true)], args := [d] }
  | _ => none }
def fnExactItemOkRow : OpenClaim := { program := "ytjpmhbjbgooheaa", sum := "1fbd31316d16bc0b19d8e656ebfa9408586cccf3d9eb4fef5f85214c98c6db09", func := "loop.example/g00655/laws.FnExactItemOk", spec := "fnExactItemOk", apart := false }
def FnExactItemOkSaid : Prop := fnExactItemOkRow.holds Try.pinned (OpenSpec.ofChange fnExactItemOkSpec)

/-- ITS FALSE NEIGHBOUR: 'it returns false'. Refute it at one input. -/
def fnExactItemOkWrong : ChangeSpec := { name := "fnExactItemOk", fn := fun _ => fun
  | [d] => { results := [.lit (.bool false)], args := [d] }
  | _ => none }
def FnExactItemOkWrongFalsely : Prop := fnExactItemOkRow.holds Try.pinned (OpenSpec.ofChange fnExactItemOkWrong)

/-- 'laws.FnExactHeapOk': WHATEVER THE INPUT: true; the input reads as it did. -/
def fnExactHeapOkSpec : ChangeSpec := { name := "fnExactHeapOk", fn := fun _ => fun
  | [d] => { results := [.lit (.bool true)], args := [d] }
  | _ => none }
def fnExactHeapOkRow : OpenClaim := { program := "ytjpmhbjbgooheaa", sum := "1fbd31316d16bc0b19d8e656ebfa9408586cccf3d9eb4fef5f85214c98c6db09", func := "loop.example/g00655/laws.FnExactHeapOk", spec := "fnExactHeapOk", unfollowed := true, recurses := true, apart := false }
def FnExactHeapOkSaid : Prop := fnExactHeapOkRow.holds Try.pinned (OpenSpec.ofChange fnExactHeapOkSpec)

/-- ITS FALSE NEIGHBOUR: 'it returns false'. Refute it at one input. -/
def fnExactHeapOkWrong : ChangeSpec := { name := "fnExactHeapOk", fn := fun _ => fun
  | [d] => { results := [.lit (.bool false)], args := [d] }
  | _ => none }
def FnExactHeapOkWrongFalsely : Prop := fnExactHeapOkRow.holds Try.pinned (OpenSpec.ofChange fnExactHeapOkWrong)

/-- 'laws.FnExactHeapPlace': WHATEVER THE INPUT: true; the input reads as it did. -/
def fnExactHeapPlaceSpec : ChangeSpec := { name := "fnExactHeapPlace", fn := fun _ => fun
  | [d1, d2] => { results := [.lit (.bool true)], args := [d1, d2] }
  | _ => none }
def fnExactHeapPlaceRow : OpenClaim := { program := "ytjpmhbjbgooheaa", sum := "1fbd31316d16bc0b19d8e656ebfa9408586cccf3d9eb4fef5f85214c98c6db09", func := "loop.example/g00655/laws.FnExactHeapPlace", spec := "fnExactHeapPlace", unfollowed := true, recurses := true, apart := false }
def FnExactHeapPlaceSaid : Prop := fnExactHeapPlaceRow.holds Try.pinned (OpenSpec.ofChange fnExactHeapPlaceSpec)

/-- ITS FALSE NEIGHBOUR: 'it returns false'. Refute it at one input. -/
def fnExactHeapPlaceWrong : ChangeSpec := { name := "fnExactHeapPlace", fn := fun _ => fun
  | [d1, d2] => { results := [.lit (.bool false)], args := [d1, d2] }
  | _ => none }
def FnExactHeapPlaceWrongFalsely : Prop := fnExactHeapPlaceRow.holds Try.pinned (OpenSpec.ofChange fnExactHeapPlaceWrong)

/-- 'laws.FnExactHeapPush': WHATEVER THE INPUT: true; the input reads as it did. -/
def fnExactHeapPushSpec : ChangeSpec := { name := "fnExactHeapPush", fn := fun _ => fun
  | [d1, d2] => { results := [.lit (.bool true)], args := [d1, d2] }
  | _ => none }
def fnExactHeapPushRow : OpenClaim := { program := "ytjpmhbjbgooheaa", sum := "1fbd31316d16bc0b19d8e656ebfa9408586cccf3d9eb4fef5f85214c98c6db09", func := "loop.example/g00655/laws.FnExactHeapPush", spec := "fnExactHeapPush", unfollowed := true, recurses := true, apart := false }
def FnExactHeapPushSaid : Prop := fnExactHeapPushRow.holds Try.pinned (OpenSpec.ofChange fnExactHeapPushSpec)

/-- ITS FALSE NEIGHBOUR: 'it returns false'. Refute it at one input. -/
def fnExactHeapPushWrong : ChangeSpec := { name := "fnExactHeapPush", fn := fun _ => fun
  | [d1, d2] => { results := [.lit (.bool false)], args := [d1, d2] }
  | _ => none }
def FnExactHeapPushWrongFalsely : Prop := fnExactHeapPushRow.holds Try.pinned (OpenSpec.ofChange fnExactHeapPushWrong)

/-- 'laws.FnExactHeapMove': WHATEVER THE INPUT: true; the input reads as it did. -/
def fnExactHeapMoveSpec : ChangeSpec := { name := "fnExactHeapMove", fn := fun _ => fun
  | [d1, d2] => { results := [.lit (.bool true)], args := [d1, d2] }
  | _ => none }
def fnExactHeapMoveRow : OpenClaim := { program := "ytjpmhbjbgooheaa", sum := "1fbd31316d16bc0b19d8e656ebfa9408586cccf3d9eb4fef5f85214c98c6db09", func := "loop.example/g00655/laws.FnExactHeapMove", spec := "fnExactHeapMove", unfollowed := true, recurses := true, apart := false }
def FnExactHeapMoveSaid : Prop := fnExactHeapMoveRow.holds Try.pinned (OpenSpec.ofChange fnExactHeapMoveSpec)

/-- ITS FALSE NEIGHBOUR: 'it returns false'. Refute it at one input. -/
def fnExactHeapMoveWrong : ChangeSpec := { name := "fnExactHeapMove", fn := fun _ => fun
  | [d1, d2] => { results := [.lit (.bool false)], args := [d1, d2] }
  | _ => none }
def FnExactHeapMoveWrongFalsely : Prop := fnExactHeapMoveRow.holds Try.pinned (OpenSpec.ofChange fnExactHeapMoveWrong)

/-- 'laws.FnExactHeapPop': WHATEVER THE INPUT: true; the input reads as it did. -/
def fnExactHeapPopSpec : ChangeSpec := { name := "fnExactHeapPop", fn := fun _ => fun
  | [d] => { results := [.lit (.bool true)], args := [d] }
  | _ => none }
def fnExactHeapPopRow : OpenClaim := { program := "ytjpmhbjbgooheaa", sum := "1fbd31316d16bc0b19d8e656ebfa9408586cccf3d9eb4fef5f85214c98c6db09", func := "loop.example/g00655/laws.FnExactHeapPop", spec := "fnExactHeapPop", unfollowed := true, recurses := true, apart := false }
def FnExactHeapPopSaid : Prop := fnExactHeapPopRow.holds Try.pinned (OpenSpec.ofChange fnExactHeapPopSpec)

/-- ITS FALSE NEIGHBOUR: 'it returns false'. Refute it at one input. -/
def fnExactHeapPopWrong : ChangeSpec := { name := "fnExactHeapPop", fn := fun _ => fun
  | [d] => { results := [.lit (.bool false)], args := [d] }
  | _ => none }
def FnExactHeapPopWrongFalsely : Prop := fnExactHeapPopRow.holds Try.pinned (OpenSpec.ofChange fnExactHeapPopWrong)

/- THE SECOND FORM. 'bulk': how many values and letters a reading holds, each counted each time it is reached (what is shared counts as often as it is met; a slice's spare places count too). A statement '..UptoSaid' is the law's where the arguments, and the package variables that the reading takes, are together of bulk at most 1048576: NARROWER than '..Said'. Prove '..Said' where nothing that the law and all that it calls make is longer than what came in: it says more and counts as full. Else prove '..UptoSaid'. A law counts once. -/
mutual
def uptoBulk {H : Type} : DataW H → Nat
  | .lit (.string bytes) => bytes.length + 1
  | .lit _ => 1
  | .nil => 1
  | .ptr d => uptoBulk d + 1
  | .slice elems spare => uptoBulkAll elems + uptoBulkAll spare + 1
  | .agg parts => uptoBulkAll parts + 1
  | .iface _ d => uptoBulk d + 1
  | .map entries => uptoBulkEntries entries + 1
  | .held _ => 1
def uptoBulkAll {H : Type} : List (DataW H) → Nat
  | [] => 0
  | d :: r => uptoBulk d + uptoBulkAll r
def uptoBulkEntries {H : Type} : List (Lit × DataW H) → Nat
  | [] => 0
  | x :: r => uptoBulkEntry x + uptoBulkEntries r
def uptoBulkEntry {H : Type} : Lit × DataW H → Nat
  | (.string bytes, d) => bytes.length + uptoBulk d + 1
  | (_, d) => uptoBulk d + 1
 end
def uptoSmall : (H : Type) → List (DataW H) → Bool := fun _ ds => decide (uptoBulkAll ds ≤ 1048576)
def OpenSpec.upto (s : _root_.Go.ChangeSpec) : _root_.Go.OpenSpec := { _root_.Go.OpenSpec.ofChange s with cond := some uptoSmall }

/-- 'laws.FnExactAhead', WHERE WHAT IT READS IS OF BULK AT MOST 1048576: true; the input reads as it did. -/
def fnExactAheadUptoRow : OpenClaim := { program := "ytjpmhbjbgooheaa", sum := "1fbd31316d16bc0b19d8e656ebfa9408586cccf3d9eb4fef5f85214c98c6db09", func := "loop.example/g00655/laws.FnExactAhead", spec := "fnExactAhead", apart := false, narrowed := true }
def FnExactAheadUptoSaid : Prop := fnExactAheadUptoRow.holds Try.pinned (OpenSpec.upto fnExactAheadSpec)

/-- 'laws.FnExactItemOk', WHERE WHAT IT READS IS OF BULK AT MOST 1048576: true; the input reads as it did. -/
def fnExactItemOkUptoRow : OpenClaim := { program := "ytjpmhbjbgooheaa", sum := "1fbd31316d16bc0b19d8e656ebfa9408586cccf3d9eb4fef5f85214c98c6db09", func := "loop.example/g00655/laws.FnExactItemOk", spec := "fnExactItemOk", apart := false, narrowed := true }
def FnExactItemOkUptoSaid : Prop := fnExactItemOkUptoRow.holds Try.pinned (OpenSpec.upto fnExactItemOkSpec)

/-- 'laws.FnExactHeapOk', WHERE WHAT IT READS IS OF BULK AT MOST 1048576: true; the input reads as it did. -/
def fnExactHeapOkUptoRow : OpenClaim := { program := "ytjpmhbjbgooheaa", sum := "1fbd31316d16bc0b19d8e656ebfa9408586cccf3d9eb4fef5f85214c98c6db09", func := "loop.example/g00655/laws.FnExactHeapOk", spec := "fnExactHeapOk", unfollowed := true, recurses := true, apart := false, narrowed := true }
def FnExactHeapOkUptoSaid : Prop := fnExactHeapOkUptoRow.holds Try.pinned (OpenSpec.upto fnExactHeapOkSpec)

/-- 'laws.FnExactHeapPlace', WHERE WHAT IT READS IS OF BULK AT MOST 1048576: true; the input reads as it did. -/
def fnExactHeapPlaceUptoRow : OpenClaim := { program := "ytjpmhbjbgooheaa", sum := "1fbd31316d16bc0b19d8e656ebfa9408586cccf3d9eb4fef5f85214c98c6db09", func := "loop.example/g00655/laws.FnExactHeapPlace", spec := "fnExactHeapPlace", unfollowed := true, recurses := true, apart := false, narrowed := true }
def FnExactHeapPlaceUptoSaid : Prop := fnExactHeapPlaceUptoRow.holds Try.pinned (OpenSpec.upto fnExactHeapPlaceSpec)

/-- 'laws.FnExactHeapPush', WHERE WHAT IT READS IS OF BULK AT MOST 1048576: true; the input reads as it did. -/
def fnExactHeapPushUptoRow : OpenClaim := { program := "ytjpmhbjbgooheaa", sum := "1fbd31316d16bc0b19d8e656ebfa9408586cccf3d9eb4fef5f85214c98c6db09", func := "loop.example/g00655/laws.FnExactHeapPush", spec := "fnExactHeapPush", unfollowed := true, recurses := true, apart := false, narrowed := true }
def FnExactHeapPushUptoSaid : Prop := fnExactHeapPushUptoRow.holds Try.pinned (OpenSpec.upto fnExactHeapPushSpec)

/-- 'laws.FnExactHeapMove', WHERE WHAT IT READS IS OF BULK AT MOST 1048576: true; the input reads as it did. -/
def fnExactHeapMoveUptoRow : OpenClaim := { program := "ytjpmhbjbgooheaa", sum := "1fbd31316d16bc0b19d8e656ebfa9408586cccf3d9eb4fef5f85214c98c6db09", func := "loop.example/g00655/laws.FnExactHeapMove", spec := "fnExactHeapMove", unfollowed := true, recurses := true, apart := false, narrowed := true }
def FnExactHeapMoveUptoSaid : Prop := fnExactHeapMoveUptoRow.holds Try.pinned (OpenSpec.upto fnExactHeapMoveSpec)

/-- 'laws.FnExactHeapPop', WHERE WHAT IT READS IS OF BULK AT MOST 1048576: true; the input reads as it did. -/
def fnExactHeapPopUptoRow : OpenClaim := { program := "ytjpmhbjbgooheaa", sum := "1fbd31316d16bc0b19d8e656ebfa9408586cccf3d9eb4fef5f85214c98c6db09", func := "loop.example/g00655/laws.FnExactHeapPop", spec := "fnExactHeapPop", unfollowed := true, recurses := true, apart := false, narrowed := true }
def FnExactHeapPopUptoSaid : Prop := fnExactHeapPopUptoRow.holds Try.pinned (OpenSpec.upto fnExactHeapPopSpec)

end Rows
end Go.Proofs.Ytjpmhbjbgooheaa
