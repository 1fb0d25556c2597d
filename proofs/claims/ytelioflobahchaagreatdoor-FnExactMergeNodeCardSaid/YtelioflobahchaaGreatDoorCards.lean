/-
  DERIVED. GIVEN WITH THE SEED: THE CARDS: each row of YtelioflobahchaaGreatDoorRows.lean that lists a variable, with what it lists TIED to the program's text (the seventh form; the later family's looks); each row that meets fmt, with fmt's text TOLD by the authors' own Lean function (tested against real Go, not proved from fmt's source: count such statements apart). THE CARD IS WHAT COUNTS. Prove the row's statement (the work); the ties are given (YtelioflobahchaaGreatDoorTie.lean); close each card by the builder's one call (the guide's Derived/Test/ToyasCard.lean, 'card_holds'). Laid BY PROGRAM, IN A SANDBOX (cutbox-door.mjs). By AI agents, Wed Nov 11 2026. No macro, syntax, notation, axiom, sorry.
-/
import Derived.Test.YtelioflobahchaaGreatDoorRows
import GoSem.ClaimSeven
namespace Go.Proofs.YtelioflobahchaaGreatDoor
namespace Rows

/-- THE TIED CARD OF 'laws.FnExactRedo'. -/
def fnExactRedoCard : Claim7 := { stood := { row := fnExactRedoRow, standIns := [], harness := (true, "5dadac5b8b378ad987d7f845abc2193b69edb455b21296c1a611333c7b082f62"), looks := false }, kinds := [], alts := [], laidByText := true, laidKinds := [.data, .data, .data, .data, .pinned], laidTests := true, laidLooks := .later }
def FnExactRedoCardSaid : Prop := Claim7.holds Tryz.pinned (.plain (OpenSpec.ofChange fnExactRedoSpec)) fnExactRedoCard

/-- THE TIED CARD OF 'laws.FnExactUndo'. -/
def fnExactUndoCard : Claim7 := { stood := { row := fnExactUndoRow, standIns := [], harness := (true, "5dadac5b8b378ad987d7f845abc2193b69edb455b21296c1a611333c7b082f62"), looks := false }, kinds := [], alts := [], laidByText := true, laidKinds := [.data, .data, .data, .data, .pinned], laidTests := true, laidLooks := .later }
def FnExactUndoCardSaid : Prop := Claim7.holds Tryz.pinned (.plain (OpenSpec.ofChange fnExactUndoSpec)) fnExactUndoCard

/-- THE TIED CARD OF 'laws.FnExactMergeNode'. -/
def fnExactMergeNodeCard : Claim7 := { stood := { row := fnExactMergeNodeRow, standIns := [], harness := (true, "5dadac5b8b378ad987d7f845abc2193b69edb455b21296c1a611333c7b082f62"), looks := false }, kinds := [], alts := [], laidByText := true, laidKinds := [.data, .data, .data, .data, .pinned], laidTests := true, laidLooks := .later }
def FnExactMergeNodeCardSaid : Prop := Claim7.holds Tryz.pinned (.plain (OpenSpec.ofChange fnExactMergeNodeSpec)) fnExactMergeNodeCard

/-- THE TIED CARD OF 'laws.FnExactImagesOf'. -/
def fnExactImagesOfCard : Claim7 := { stood := { row := fnExactImagesOfRow, standIns := [], harness := (true, "5dadac5b8b378ad987d7f845abc2193b69edb455b21296c1a611333c7b082f62"), looks := false }, kinds := [], alts := [], laidByText := true, laidKinds := [.data, .data, .data, .data, .pinned], laidTests := true, laidLooks := .later }
def FnExactImagesOfCardSaid : Prop := Claim7.holds Tryz.pinned (.plain (OpenSpec.ofChange fnExactImagesOfSpec)) fnExactImagesOfCard

/-- THE SECOND FORM's CARD OF 'laws.FnExactRedo'. -/
def fnExactRedoUptoCard : Claim7 := { stood := { row := fnExactRedoUptoRow, standIns := [], harness := (true, "5dadac5b8b378ad987d7f845abc2193b69edb455b21296c1a611333c7b082f62"), looks := false }, kinds := [], alts := [], laidByText := true, laidKinds := [.data, .data, .data, .data, .pinned], laidTests := true, laidLooks := .later }
def FnExactRedoUptoCardSaid : Prop := Claim7.holds Tryz.pinned (.plain (OpenSpec.upto fnExactRedoSpec)) fnExactRedoUptoCard

/-- THE SECOND FORM's CARD OF 'laws.FnExactUndo'. -/
def fnExactUndoUptoCard : Claim7 := { stood := { row := fnExactUndoUptoRow, standIns := [], harness := (true, "5dadac5b8b378ad987d7f845abc2193b69edb455b21296c1a611333c7b082f62"), looks := false }, kinds := [], alts := [], laidByText := true, laidKinds := [.data, .data, .data, .data, .pinned], laidTests := true, laidLooks := .later }
def FnExactUndoUptoCardSaid : Prop := Claim7.holds Tryz.pinned (.plain (OpenSpec.upto fnExactUndoSpec)) fnExactUndoUptoCard

/-- THE SECOND FORM's CARD OF 'laws.FnExactMergeNode'. -/
def fnExactMergeNodeUptoCard : Claim7 := { stood := { row := fnExactMergeNodeUptoRow, standIns := [], harness := (true, "5dadac5b8b378ad987d7f845abc2193b69edb455b21296c1a611333c7b082f62"), looks := false }, kinds := [], alts := [], laidByText := true, laidKinds := [.data, .data, .data, .data, .pinned], laidTests := true, laidLooks := .later }
def FnExactMergeNodeUptoCardSaid : Prop := Claim7.holds Tryz.pinned (.plain (OpenSpec.upto fnExactMergeNodeSpec)) fnExactMergeNodeUptoCard

/-- THE SECOND FORM's CARD OF 'laws.FnExactImagesOf'. -/
def fnExactImagesOfUptoCard : Claim7 := { stood := { row := fnExactImagesOfUptoRow, standIns := [], harness := (true, "5dadac5b8b378ad987d7f845abc2193b69edb455b21296c1a611333c7b082f62"), looks := false }, kinds := [], alts := [], laidByText := true, laidKinds := [.data, .data, .data, .data, .pinned], laidTests := true, laidLooks := .later }
def FnExactImagesOfUptoCardSaid : Prop := Claim7.holds Tryz.pinned (.plain (OpenSpec.upto fnExactImagesOfSpec)) fnExactImagesOfUptoCard
end Rows
end Go.Proofs.YtelioflobahchaaGreatDoor
