/-
  DERIVED. GIVEN WITH THE SEED: THE CARDS: each row of YtojmcmghmnfjeaaGreatDoorRows.lean that lists a variable, with what it lists TIED to the program's text (the seventh form; the later family's looks); each row that meets fmt, with fmt's text TOLD by the authors' own Lean function (tested against real Go, not proved from fmt's source: count such statements apart). THE CARD IS WHAT COUNTS. Prove the row's statement (the work); the ties are given (YtojmcmghmnfjeaaGreatDoorTie.lean); close each card by the builder's one call (the guide's Derived/Test/ToyasCard.lean, 'card_holds'). Laid BY PROGRAM, IN A SANDBOX (cutbox-door.mjs). By AI agents, Wed Nov 11 2026. No macro, syntax, notation, axiom, sorry.
-/
import Derived.Test.YtojmcmghmnfjeaaGreatDoorRows
import GoSem.ClaimSeven
namespace Go.Proofs.YtojmcmghmnfjeaaGreatDoor
namespace Rows

/-- THE TIED CARD OF 'laws.FnExactBtCut'. -/
def fnExactBtCutCard : Claim7 := { stood := { row := fnExactBtCutRow, standIns := [], harness := (true, "7afb8481f0b0d6f56212e78adf9dc45455db093aad01604ba8eece4c442f204e"), looks := false }, kinds := [], alts := [], laidByText := true, laidKinds := [.data, .data, .data, .data, .pinned], laidTests := true, laidLooks := .later }
def FnExactBtCutCardSaid : Prop := Claim7.holds Tryz.pinned (.plain (OpenSpec.ofChange fnExactBtCutSpec)) fnExactBtCutCard

/-- THE SECOND FORM's CARD OF 'laws.FnExactBtCut'. -/
def fnExactBtCutUptoCard : Claim7 := { stood := { row := fnExactBtCutUptoRow, standIns := [], harness := (true, "7afb8481f0b0d6f56212e78adf9dc45455db093aad01604ba8eece4c442f204e"), looks := false }, kinds := [], alts := [], laidByText := true, laidKinds := [.data, .data, .data, .data, .pinned], laidTests := true, laidLooks := .later }
def FnExactBtCutUptoCardSaid : Prop := Claim7.holds Tryz.pinned (.plain (OpenSpec.upto fnExactBtCutSpec)) fnExactBtCutUptoCard
end Rows
end Go.Proofs.YtojmcmghmnfjeaaGreatDoor
