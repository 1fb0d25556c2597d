/-
  DERIVED. GIVEN WITH THE SEED: THE CARDS: each row of YtehhgogmbpdpbaaGreatDoorRows.lean that lists a variable, with what it lists TIED to the program's text (the seventh form; the later family's looks); each row that meets fmt, with fmt's text TOLD by the authors' own Lean function (tested against real Go, not proved from fmt's source: count such statements apart). THE CARD IS WHAT COUNTS. Prove the row's statement (the work); the ties are given (YtehhgogmbpdpbaaGreatDoorTie.lean); close each card by the builder's one call (the guide's Derived/Test/ToyasCard.lean, 'card_holds'). Laid BY PROGRAM, IN A SANDBOX (cutbox-door.mjs). By AI agents, Wed Nov 11 2026. No macro, syntax, notation, axiom, sorry.
-/
import Derived.Test.YtehhgogmbpdpbaaGreatDoorRows
import GoSem.ClaimSeven
namespace Go.Proofs.YtehhgogmbpdpbaaGreatDoor
namespace Rows

/-- THE TIED CARD OF 'laws.FnExactImagesOf'. -/
def fnExactImagesOfCard : Claim7 := { stood := { row := fnExactImagesOfRow, standIns := [], harness := (true, "f9a731ad0e03b7f483024a90e42724f6b91c7ce624483bc1fddc0509785863e9"), looks := false }, kinds := [], alts := [], laidByText := true, laidKinds := [.data, .data, .data, .data, .pinned], laidTests := true, laidLooks := .later }
def FnExactImagesOfCardSaid : Prop := Claim7.holds Tryz.pinned (.plain (OpenSpec.ofChange fnExactImagesOfSpec)) fnExactImagesOfCard

/-- THE TIED CARD OF 'laws.FnExactSalvage'. -/
def fnExactSalvageCard : Claim7 := { stood := { row := fnExactSalvageRow, standIns := [], harness := (true, "f9a731ad0e03b7f483024a90e42724f6b91c7ce624483bc1fddc0509785863e9"), looks := false }, kinds := [], alts := [], laidByText := true, laidKinds := [.data, .data, .data, .data, .pinned], laidTests := true, laidLooks := .later }
def FnExactSalvageCardSaid : Prop := Claim7.holds Tryz.pinned (.plain (OpenSpec.ofChange fnExactSalvageSpec)) fnExactSalvageCard

/-- THE TIED CARD OF 'laws.FnExactBtCut'. -/
def fnExactBtCutCard : Claim7 := { stood := { row := fnExactBtCutRow, standIns := [], harness := (true, "f9a731ad0e03b7f483024a90e42724f6b91c7ce624483bc1fddc0509785863e9"), looks := false }, kinds := [], alts := [], laidByText := true, laidKinds := [.data, .data, .data, .data, .pinned], laidTests := true, laidLooks := .later }
def FnExactBtCutCardSaid : Prop := Claim7.holds Tryz.pinned (.plain (OpenSpec.ofChange fnExactBtCutSpec)) fnExactBtCutCard

/-- THE SECOND FORM's CARD OF 'laws.FnExactImagesOf'. -/
def fnExactImagesOfUptoCard : Claim7 := { stood := { row := fnExactImagesOfUptoRow, standIns := [], harness := (true, "f9a731ad0e03b7f483024a90e42724f6b91c7ce624483bc1fddc0509785863e9"), looks := false }, kinds := [], alts := [], laidByText := true, laidKinds := [.data, .data, .data, .data, .pinned], laidTests := true, laidLooks := .later }
def FnExactImagesOfUptoCardSaid : Prop := Claim7.holds Tryz.pinned (.plain (OpenSpec.upto fnExactImagesOfSpec)) fnExactImagesOfUptoCard

/-- THE SECOND FORM's CARD OF 'laws.FnExactSalvage'. -/
def fnExactSalvageUptoCard : Claim7 := { stood := { row := fnExactSalvageUptoRow, standIns := [], harness := (true, "f9a731ad0e03b7f483024a90e42724f6b91c7ce624483bc1fddc0509785863e9"), looks := false }, kinds := [], alts := [], laidByText := true, laidKinds := [.data, .data, .data, .data, .pinned], laidTests := true, laidLooks := .later }
def FnExactSalvageUptoCardSaid : Prop := Claim7.holds Tryz.pinned (.plain (OpenSpec.upto fnExactSalvageSpec)) fnExactSalvageUptoCard

/-- THE SECOND FORM's CARD OF 'laws.FnExactBtCut'. -/
def fnExactBtCutUptoCard : Claim7 := { stood := { row := fnExactBtCutUptoRow, standIns := [], harness := (true, "f9a731ad0e03b7f483024a90e42724f6b91c7ce624483bc1fddc0509785863e9"), looks := false }, kinds := [], alts := [], laidByText := true, laidKinds := [.data, .data, .data, .data, .pinned], laidTests := true, laidLooks := .later }
def FnExactBtCutUptoCardSaid : Prop := Claim7.holds Tryz.pinned (.plain (OpenSpec.upto fnExactBtCutSpec)) fnExactBtCutUptoCard
end Rows
end Go.Proofs.YtehhgogmbpdpbaaGreatDoor
