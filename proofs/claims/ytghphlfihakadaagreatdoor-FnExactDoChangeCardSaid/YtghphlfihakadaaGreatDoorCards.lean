/-
  DERIVED. GIVEN WITH THE SEED: THE CARDS: each row of YtghphlfihakadaaGreatDoorRows.lean that lists a variable, with what it lists TIED to the program's text (the seventh form; the later family's looks); each row that meets fmt, with fmt's text TOLD by the authors' own Lean function (tested against real Go, not proved from fmt's source: count such statements apart). THE CARD IS WHAT COUNTS. Prove the row's statement (the work); the ties are given (YtghphlfihakadaaGreatDoorTie.lean); close each card by the builder's one call (the guide's Derived/Test/ToyasCard.lean, 'card_holds'). Laid BY PROGRAM, IN A SANDBOX (cutbox-door.mjs). By AI agents, Wed Nov 11 2026. No macro, syntax, notation, axiom, sorry.
-/
import Derived.Test.YtghphlfihakadaaGreatDoorRows
import GoSem.ClaimSeven
namespace Go.Proofs.YtghphlfihakadaaGreatDoor
namespace Rows

/-- THE TIED CARD OF 'laws.FnExactPutImages'. -/
def fnExactPutImagesCard : Claim7 := { stood := { row := fnExactPutImagesRow, standIns := [], harness := (true, "656f96fec4b65950fa82030444cfc337c20cd272964660418d6ca310f4e40b9d"), looks := false }, kinds := [], alts := [], laidByText := true, laidKinds := [.data, .data, .data, .data, .pinned], laidTests := true, laidLooks := .later }
def FnExactPutImagesCardSaid : Prop := Claim7.holds Tryz.pinned (.plain (OpenSpec.ofChange fnExactPutImagesSpec)) fnExactPutImagesCard

/-- THE TIED CARD OF 'laws.FnExactPackTree'. -/
def fnExactPackTreeCard : Claim7 := { stood := { row := fnExactPackTreeRow, standIns := [], harness := (true, "656f96fec4b65950fa82030444cfc337c20cd272964660418d6ca310f4e40b9d"), looks := false }, kinds := [], alts := [], laidByText := true, laidKinds := [.data, .data, .data, .data, .pinned], laidTests := true, laidLooks := .later }
def FnExactPackTreeCardSaid : Prop := Claim7.holds Tryz.pinned (.plain (OpenSpec.ofChange fnExactPackTreeSpec)) fnExactPackTreeCard

/-- THE TIED CARD OF 'laws.FnExactPutParcel'. -/
def fnExactPutParcelCard : Claim7 := { stood := { row := fnExactPutParcelRow, standIns := [], harness := (true, "656f96fec4b65950fa82030444cfc337c20cd272964660418d6ca310f4e40b9d"), looks := false }, kinds := [], alts := [], laidByText := true, laidKinds := [.data, .data, .data, .data, .pinned], laidTests := true, laidLooks := .later }
def FnExactPutParcelCardSaid : Prop := Claim7.holds Tryz.pinned (.plain (OpenSpec.ofChange fnExactPutParcelSpec)) fnExactPutParcelCard

/-- THE TIED CARD OF 'laws.FnExactPutNode'. -/
def fnExactPutNodeCard : Claim7 := { stood := { row := fnExactPutNodeRow, standIns := [], harness := (true, "656f96fec4b65950fa82030444cfc337c20cd272964660418d6ca310f4e40b9d"), looks := false }, kinds := [], alts := [], laidByText := true, laidKinds := [.data, .data, .data, .data, .pinned], laidTests := true, laidLooks := .later }
def FnExactPutNodeCardSaid : Prop := Claim7.holds Tryz.pinned (.plain (OpenSpec.ofChange fnExactPutNodeSpec)) fnExactPutNodeCard

/-- THE TIED CARD OF 'laws.FnExactMergeNode'. -/
def fnExactMergeNodeCard : Claim7 := { stood := { row := fnExactMergeNodeRow, standIns := [], harness := (true, "656f96fec4b65950fa82030444cfc337c20cd272964660418d6ca310f4e40b9d"), looks := false }, kinds := [], alts := [], laidByText := true, laidKinds := [.data, .data, .data, .data, .pinned], laidTests := true, laidLooks := .later }
def FnExactMergeNodeCardSaid : Prop := Claim7.holds Tryz.pinned (.plain (OpenSpec.ofChange fnExactMergeNodeSpec)) fnExactMergeNodeCard

/-- THE TIED CARD OF 'laws.FnExactDoChange'. -/
def fnExactDoChangeCard : Claim7 := { stood := { row := fnExactDoChangeRow, standIns := [], harness := (true, "656f96fec4b65950fa82030444cfc337c20cd272964660418d6ca310f4e40b9d"), looks := false }, kinds := [], alts := [], laidByText := true, laidKinds := [.data, .data, .data, .data, .pinned], laidTests := true, laidLooks := .later }
def FnExactDoChangeCardSaid : Prop := Claim7.holds Tryz.pinned (.plain (OpenSpec.ofChange fnExactDoChangeSpec)) fnExactDoChangeCard

/-- THE TIED CARD OF 'laws.FnExactDoChanges'. -/
def fnExactDoChangesCard : Claim7 := { stood := { row := fnExactDoChangesRow, standIns := [], harness := (true, "656f96fec4b65950fa82030444cfc337c20cd272964660418d6ca310f4e40b9d"), looks := false }, kinds := [], alts := [], laidByText := true, laidKinds := [.data, .data, .data, .data, .pinned], laidTests := true, laidLooks := .later }
def FnExactDoChangesCardSaid : Prop := Claim7.holds Tryz.pinned (.plain (OpenSpec.ofChange fnExactDoChangesSpec)) fnExactDoChangesCard

/-- THE TIED CARD OF 'laws.FnExactRedo'. -/
def fnExactRedoCard : Claim7 := { stood := { row := fnExactRedoRow, standIns := [], harness := (true, "656f96fec4b65950fa82030444cfc337c20cd272964660418d6ca310f4e40b9d"), looks := false }, kinds := [], alts := [], laidByText := true, laidKinds := [.data, .data, .data, .data, .pinned], laidTests := true, laidLooks := .later }
def FnExactRedoCardSaid : Prop := Claim7.holds Tryz.pinned (.plain (OpenSpec.ofChange fnExactRedoSpec)) fnExactRedoCard

/-- THE TIED CARD OF 'laws.FnExactUndo'. -/
def fnExactUndoCard : Claim7 := { stood := { row := fnExactUndoRow, standIns := [], harness := (true, "656f96fec4b65950fa82030444cfc337c20cd272964660418d6ca310f4e40b9d"), looks := false }, kinds := [], alts := [], laidByText := true, laidKinds := [.data, .data, .data, .data, .pinned], laidTests := true, laidLooks := .later }
def FnExactUndoCardSaid : Prop := Claim7.holds Tryz.pinned (.plain (OpenSpec.ofChange fnExactUndoSpec)) fnExactUndoCard

/-- THE TIED CARD OF 'laws.FnExactImagesOf'. -/
def fnExactImagesOfCard : Claim7 := { stood := { row := fnExactImagesOfRow, standIns := [], harness := (true, "656f96fec4b65950fa82030444cfc337c20cd272964660418d6ca310f4e40b9d"), looks := false }, kinds := [], alts := [], laidByText := true, laidKinds := [.data, .data, .data, .data, .pinned], laidTests := true, laidLooks := .later }
def FnExactImagesOfCardSaid : Prop := Claim7.holds Tryz.pinned (.plain (OpenSpec.ofChange fnExactImagesOfSpec)) fnExactImagesOfCard

/-- THE SECOND FORM's CARD OF 'laws.FnExactPutImages'. -/
def fnExactPutImagesUptoCard : Claim7 := { stood := { row := fnExactPutImagesUptoRow, standIns := [], harness := (true, "656f96fec4b65950fa82030444cfc337c20cd272964660418d6ca310f4e40b9d"), looks := false }, kinds := [], alts := [], laidByText := true, laidKinds := [.data, .data, .data, .data, .pinned], laidTests := true, laidLooks := .later }
def FnExactPutImagesUptoCardSaid : Prop := Claim7.holds Tryz.pinned (.plain (OpenSpec.upto fnExactPutImagesSpec)) fnExactPutImagesUptoCard

/-- THE SECOND FORM's CARD OF 'laws.FnExactPackTree'. -/
def fnExactPackTreeUptoCard : Claim7 := { stood := { row := fnExactPackTreeUptoRow, standIns := [], harness := (true, "656f96fec4b65950fa82030444cfc337c20cd272964660418d6ca310f4e40b9d"), looks := false }, kinds := [], alts := [], laidByText := true, laidKinds := [.data, .data, .data, .data, .pinned], laidTests := true, laidLooks := .later }
def FnExactPackTreeUptoCardSaid : Prop := Claim7.holds Tryz.pinned (.plain (OpenSpec.upto fnExactPackTreeSpec)) fnExactPackTreeUptoCard

/-- THE SECOND FORM's CARD OF 'laws.FnExactPutParcel'. -/
def fnExactPutParcelUptoCard : Claim7 := { stood := { row := fnExactPutParcelUptoRow, standIns := [], harness := (true, "656f96fec4b65950fa82030444cfc337c20cd272964660418d6ca310f4e40b9d"), looks := false }, kinds := [], alts := [], laidByText := true, laidKinds := [.data, .data, .data, .data, .pinned], laidTests := true, laidLooks := .later }
def FnExactPutParcelUptoCardSaid : Prop := Claim7.holds Tryz.pinned (.plain (OpenSpec.upto fnExactPutParcelSpec)) fnExactPutParcelUptoCard

/-- THE SECOND FORM's CARD OF 'laws.FnExactPutNode'. -/
def fnExactPutNodeUptoCard : Claim7 := { stood := { row := fnExactPutNodeUptoRow, standIns := [], harness := (true, "656f96fec4b65950fa82030444cfc337c20cd272964660418d6ca310f4e40b9d"), looks := false }, kinds := [], alts := [], laidByText := true, laidKinds := [.data, .data, .data, .data, .pinned], laidTests := true, laidLooks := .later }
def FnExactPutNodeUptoCardSaid : Prop := Claim7.holds Tryz.pinned (.plain (OpenSpec.upto fnExactPutNodeSpec)) fnExactPutNodeUptoCard

/-- THE SECOND FORM's CARD OF 'laws.FnExactMergeNode'. -/
def fnExactMergeNodeUptoCard : Claim7 := { stood := { row := fnExactMergeNodeUptoRow, standIns := [], harness := (true, "656f96fec4b65950fa82030444cfc337c20cd272964660418d6ca310f4e40b9d"), looks := false }, kinds := [], alts := [], laidByText := true, laidKinds := [.data, .data, .data, .data, .pinned], laidTests := true, laidLooks := .later }
def FnExactMergeNodeUptoCardSaid : Prop := Claim7.holds Tryz.pinned (.plain (OpenSpec.upto fnExactMergeNodeSpec)) fnExactMergeNodeUptoCard

/-- THE SECOND FORM's CARD OF 'laws.FnExactDoChange'. -/
def fnExactDoChangeUptoCard : Claim7 := { stood := { row := fnExactDoChangeUptoRow, standIns := [], harness := (true, "656f96fec4b65950fa82030444cfc337c20cd272964660418d6ca310f4e40b9d"), looks := false }, kinds := [], alts := [], laidByText := true, laidKinds := [.data, .data, .data, .data, .pinned], laidTests := true, laidLooks := .later }
def FnExactDoChangeUptoCardSaid : Prop := Claim7.holds Tryz.pinned (.plain (OpenSpec.upto fnExactDoChangeSpec)) fnExactDoChangeUptoCard

/-- THE SECOND FORM's CARD OF 'laws.FnExactDoChanges'. -/
def fnExactDoChangesUptoCard : Claim7 := { stood := { row := fnExactDoChangesUptoRow, standIns := [], harness := (true, "656f96fec4b65950fa82030444cfc337c20cd272964660418d6ca310f4e40b9d"), looks := false }, kinds := [], alts := [], laidByText := true, laidKinds := [.data, .data, .data, .data, .pinned], laidTests := true, laidLooks := .later }
def FnExactDoChangesUptoCardSaid : Prop := Claim7.holds Tryz.pinned (.plain (OpenSpec.upto fnExactDoChangesSpec)) fnExactDoChangesUptoCard

/-- THE SECOND FORM's CARD OF 'laws.FnExactRedo'. -/
def fnExactRedoUptoCard : Claim7 := { stood := { row := fnExactRedoUptoRow, standIns := [], harness := (true, "656f96fec4b65950fa82030444cfc337c20cd272964660418d6ca310f4e40b9d"), looks := false }, kinds := [], alts := [], laidByText := true, laidKinds := [.data, .data, .data, .data, .pinned], laidTests := true, laidLooks := .later }
def FnExactRedoUptoCardSaid : Prop := Claim7.holds Tryz.pinned (.plain (OpenSpec.upto fnExactRedoSpec)) fnExactRedoUptoCard

/-- THE SECOND FORM's CARD OF 'laws.FnExactUndo'. -/
def fnExactUndoUptoCard : Claim7 := { stood := { row := fnExactUndoUptoRow, standIns := [], harness := (true, "656f96fec4b65950fa82030444cfc337c20cd272964660418d6ca310f4e40b9d"), looks := false }, kinds := [], alts := [], laidByText := true, laidKinds := [.data, .data, .data, .data, .pinned], laidTests := true, laidLooks := .later }
def FnExactUndoUptoCardSaid : Prop := Claim7.holds Tryz.pinned (.plain (OpenSpec.upto fnExactUndoSpec)) fnExactUndoUptoCard

/-- THE SECOND FORM's CARD OF 'laws.FnExactImagesOf'. -/
def fnExactImagesOfUptoCard : Claim7 := { stood := { row := fnExactImagesOfUptoRow, standIns := [], harness := (true, "656f96fec4b65950fa82030444cfc337c20cd272964660418d6ca310f4e40b9d"), looks := false }, kinds := [], alts := [], laidByText := true, laidKinds := [.data, .data, .data, .data, .pinned], laidTests := true, laidLooks := .later }
def FnExactImagesOfUptoCardSaid : Prop := Claim7.holds Tryz.pinned (.plain (OpenSpec.upto fnExactImagesOfSpec)) fnExactImagesOfUptoCard
end Rows
end Go.Proofs.YtghphlfihakadaaGreatDoor
