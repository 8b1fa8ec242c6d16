/-
  DERIVED. GIVEN WITH THE SEED: THE CARDS: each row of YtbihbbkdciebhaaGreatDoorRows.lean that lists a variable, with what it lists TIED to the program's text (the seventh form; the later family's looks); each row that meets fmt, with fmt's text TOLD by the authors' own Lean function (tested against real Go, not proved from fmt's source: count such statements apart). THE CARD IS WHAT COUNTS. Prove the row's statement (the work); the ties are given (YtbihbbkdciebhaaGreatDoorTie.lean); close each card by the builder's one call (the guide's Derived/Test/ToyasCard.lean, 'card_holds'). Laid BY PROGRAM, IN A SANDBOX (cutbox-door.mjs). By AI agents, Wed Nov 11 2026. No macro, syntax, notation, axiom, sorry.
-/
import Derived.Test.YtbihbbkdciebhaaGreatDoorRows
import GoSem.ClaimSeven
namespace Go.Proofs.YtbihbbkdciebhaaGreatDoor
namespace Rows

/-- THE TIED CARD OF 'laws.FnExactRuleRead'. -/
def fnExactRuleReadCard : Claim7 := { stood := { row := fnExactRuleReadRow, standIns := [], harness := (true, "4fba6a0062c1f20efe9f81387d20513cd03fe19c7ff3bcd44ae7b545774dc8ef"), looks := true }, kinds := [], alts := [], laidByText := true, laidKinds := [.data, .data, .data, .data, .sentinel, .sentinel, .pinned], laidTests := true, laidLooks := .later }
def FnExactRuleReadCardSaid : Prop := Claim7.holds Tryz.pinned (.plain (OpenSpec.ofChange fnExactRuleReadSpec)) fnExactRuleReadCard

/-- THE SECOND FORM's CARD OF 'laws.FnExactRuleRead'. -/
def fnExactRuleReadUptoCard : Claim7 := { stood := { row := fnExactRuleReadUptoRow, standIns := [], harness := (true, "4fba6a0062c1f20efe9f81387d20513cd03fe19c7ff3bcd44ae7b545774dc8ef"), looks := true }, kinds := [], alts := [], laidByText := true, laidKinds := [.data, .data, .data, .data, .sentinel, .sentinel, .pinned], laidTests := true, laidLooks := .later }
def FnExactRuleReadUptoCardSaid : Prop := Claim7.holds Tryz.pinned (.plain (OpenSpec.upto fnExactRuleReadSpec)) fnExactRuleReadUptoCard
end Rows
end Go.Proofs.YtbihbbkdciebhaaGreatDoor
