/-
  DERIVED. GIVEN WITH THE SEED: THE CARDS: each row of YtiokbmbdhejciaaDoorRows.lean that lists a variable, with what it lists TIED to the program's text (the seventh form; the later family's looks); each row that meets fmt, with fmt's text TOLD by the authors' own Lean function (tested against real Go, not proved from fmt's source: count such statements apart). THE CARD IS WHAT COUNTS. Prove the row's statement (the work); the ties are given (YtiokbmbdhejciaaDoorTie.lean); close each card by the builder's one call (the guide's Derived/Test/ToyasCard.lean, 'card_holds'). Laid BY PROGRAM, IN A SANDBOX (cutbox-door.mjs). By AI agents, Wed Nov 11 2026. No macro, syntax, notation, axiom, sorry.
-/
import Derived.Test.YtiokbmbdhejciaaDoorRows
import GoSem.ClaimSeven
namespace Go.Proofs.YtiokbmbdhejciaaDoor
namespace Rows

/-- THE TIED CARD OF 'laws.FnExactVecText'. -/
def fnExactVecTextCard : Claim7 := { stood := { row := fnExactVecTextRow, standIns := [], harness := (true, "70b2cc6e1ec1f6e0b1722bfa7c29f5c8060f0183e8af1f323928db63ec3f037d"), looks := true }, kinds := [], alts := [], laidByText := true, laidKinds := [.data, .data, .data], laidTests := true, laidLooks := .later }
def FnExactVecTextCardSaid : Prop := Claim7.holds Tryd.pinned (.plain (OpenSpec.ofChange fnExactVecTextSpec)) fnExactVecTextCard

/-- THE TIED CARD OF 'laws.FnExactVecRead'. -/
def fnExactVecReadCard : Claim7 := { stood := { row := fnExactVecReadRow, standIns := [], harness := (true, "70b2cc6e1ec1f6e0b1722bfa7c29f5c8060f0183e8af1f323928db63ec3f037d"), looks := true }, kinds := [], alts := [], laidByText := true, laidKinds := [.data, .data, .data, .data, .sentinel, .sentinel, .pinned], laidTests := true, laidLooks := .later }
def FnExactVecReadCardSaid : Prop := Claim7.holds Tryd.pinned (.plain (OpenSpec.ofChange fnExactVecReadSpec)) fnExactVecReadCard

/-- THE SECOND FORM's CARD OF 'laws.FnExactVecText'. -/
def fnExactVecTextUptoCard : Claim7 := { stood := { row := fnExactVecTextUptoRow, standIns := [], harness := (true, "70b2cc6e1ec1f6e0b1722bfa7c29f5c8060f0183e8af1f323928db63ec3f037d"), looks := true }, kinds := [], alts := [], laidByText := true, laidKinds := [.data, .data, .data], laidTests := true, laidLooks := .later }
def FnExactVecTextUptoCardSaid : Prop := Claim7.holds Tryd.pinned (.plain (OpenSpec.upto fnExactVecTextSpec)) fnExactVecTextUptoCard

/-- THE SECOND FORM's CARD OF 'laws.FnExactVecRead'. -/
def fnExactVecReadUptoCard : Claim7 := { stood := { row := fnExactVecReadUptoRow, standIns := [], harness := (true, "70b2cc6e1ec1f6e0b1722bfa7c29f5c8060f0183e8af1f323928db63ec3f037d"), looks := true }, kinds := [], alts := [], laidByText := true, laidKinds := [.data, .data, .data, .data, .sentinel, .sentinel, .pinned], laidTests := true, laidLooks := .later }
def FnExactVecReadUptoCardSaid : Prop := Claim7.holds Tryd.pinned (.plain (OpenSpec.upto fnExactVecReadSpec)) fnExactVecReadUptoCard
end Rows
end Go.Proofs.YtiokbmbdhejciaaDoor
