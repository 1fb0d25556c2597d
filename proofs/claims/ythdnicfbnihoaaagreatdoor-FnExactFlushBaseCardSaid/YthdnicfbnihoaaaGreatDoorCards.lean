/-
  DERIVED. GIVEN WITH THE SEED: THE CARDS: each row of YthdnicfbnihoaaaGreatDoorRows.lean that lists a variable, with what it lists TIED to the program's text (the seventh form; the later family's looks); each row that meets fmt, with fmt's text TOLD by the authors' own Lean function (tested against real Go, not proved from fmt's source: count such statements apart). THE CARD IS WHAT COUNTS. Prove the row's statement (the work); the ties are given (YthdnicfbnihoaaaGreatDoorTie.lean); close each card by the builder's one call (the guide's Derived/Test/ToyasCard.lean, 'card_holds'). Laid BY PROGRAM, IN A SANDBOX (cutbox-door.mjs). By AI agents, Wed Nov 11 2026. No macro, syntax, notation, axiom, sorry.
-/
import Derived.Test.YthdnicfbnihoaaaGreatDoorRows
import GoSem.ClaimSeven
namespace Go.Proofs.YthdnicfbnihoaaaGreatDoor
namespace Rows

/-- THE TIED CARD OF 'laws.FnExactFlushBase'. -/
def fnExactFlushBaseCard : Claim7 := { stood := { row := fnExactFlushBaseRow, standIns := [], harness := (true, "78127a86049999d951668f9755c99807e5887fd008ac57b47aa0dd7015f9a937"), looks := false }, kinds := [], alts := [], laidByText := true, laidKinds := [.data, .data, .data, .data, .pinned], laidTests := true, laidLooks := .later }
def FnExactFlushBaseCardSaid : Prop := Claim7.holds Tryz.pinned (.plain (OpenSpec.ofChange fnExactFlushBaseSpec)) fnExactFlushBaseCard

/-- THE SECOND FORM's CARD OF 'laws.FnExactFlushBase'. -/
def fnExactFlushBaseUptoCard : Claim7 := { stood := { row := fnExactFlushBaseUptoRow, standIns := [], harness := (true, "78127a86049999d951668f9755c99807e5887fd008ac57b47aa0dd7015f9a937"), looks := false }, kinds := [], alts := [], laidByText := true, laidKinds := [.data, .data, .data, .data, .pinned], laidTests := true, laidLooks := .later }
def FnExactFlushBaseUptoCardSaid : Prop := Claim7.holds Tryz.pinned (.plain (OpenSpec.upto fnExactFlushBaseSpec)) fnExactFlushBaseUptoCard
end Rows
end Go.Proofs.YthdnicfbnihoaaaGreatDoor
