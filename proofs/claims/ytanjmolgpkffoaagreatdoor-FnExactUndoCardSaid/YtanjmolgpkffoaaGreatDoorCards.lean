/-
  DERIVED. GIVEN WITH THE SEED: THE CARDS: each row of YtanjmolgpkffoaaGreatDoorRows.lean that lists a variable, with what it lists TIED to the program's text (the seventh form; the later family's looks); each row that meets fmt, with fmt's text TOLD by the authors' own Lean function (tested against real Go, not proved from fmt's source: count such statements apart). THE CARD IS WHAT COUNTS. Prove the row's statement (the work); the ties are given (YtanjmolgpkffoaaGreatDoorTie.lean); close each card by the builder's one call (the guide's Derived/Test/ToyasCard.lean, 'card_holds'). Laid BY PROGRAM, IN A SANDBOX (cutbox-door.mjs). By AI agents, Wed Nov 11 2026. No macro, syntax, notation, axiom, sorry.
-/
import Derived.Test.YtanjmolgpkffoaaGreatDoorRows
import GoSem.ClaimSeven
namespace Go.Proofs.YtanjmolgpkffoaaGreatDoor
namespace Rows

/-- THE TIED CARD OF 'laws.FnExactGetNode'. -/
def fnExactGetNodeCard : Claim7 := { stood := { row := fnExactGetNodeRow, standIns := [], harness := (true, "d472b65b4bac326e2a6884771a7d79a0fc99ddac9757d3b7a5db1bbdd3a36863"), looks := false }, kinds := [], alts := [], laidByText := true, laidKinds := [.data, .data, .data, .data, .pinned], laidTests := true, laidLooks := .later }
def FnExactGetNodeCardSaid : Prop := Claim7.holds Tryz.pinned (.plain (OpenSpec.ofChange fnExactGetNodeSpec)) fnExactGetNodeCard

/-- THE TIED CARD OF 'laws.FnExactImagesOk'. -/
def fnExactImagesOkCard : Claim7 := { stood := { row := fnExactImagesOkRow, standIns := [], harness := (true, "d472b65b4bac326e2a6884771a7d79a0fc99ddac9757d3b7a5db1bbdd3a36863"), looks := false }, kinds := [], alts := [], laidByText := true, laidKinds := [.data, .data, .data, .data, .pinned], laidTests := true, laidLooks := .later }
def FnExactImagesOkCardSaid : Prop := Claim7.holds Tryz.pinned (.plain (OpenSpec.ofChange fnExactImagesOkSpec)) fnExactImagesOkCard

/-- THE TIED CARD OF 'laws.FnExactParcelOk'. -/
def fnExactParcelOkCard : Claim7 := { stood := { row := fnExactParcelOkRow, standIns := [], harness := (true, "d472b65b4bac326e2a6884771a7d79a0fc99ddac9757d3b7a5db1bbdd3a36863"), looks := false }, kinds := [], alts := [], laidByText := true, laidKinds := [.data, .data, .data, .data, .pinned], laidTests := true, laidLooks := .later }
def FnExactParcelOkCardSaid : Prop := Claim7.holds Tryz.pinned (.plain (OpenSpec.ofChange fnExactParcelOkSpec)) fnExactParcelOkCard

/-- THE TIED CARD OF 'laws.FnExactReplicaOk'. -/
def fnExactReplicaOkCard : Claim7 := { stood := { row := fnExactReplicaOkRow, standIns := [], harness := (true, "d472b65b4bac326e2a6884771a7d79a0fc99ddac9757d3b7a5db1bbdd3a36863"), looks := false }, kinds := [], alts := [], laidByText := true, laidKinds := [.data, .data, .data, .data, .pinned], laidTests := true, laidLooks := .later }
def FnExactReplicaOkCardSaid : Prop := Claim7.holds Tryz.pinned (.plain (OpenSpec.ofChange fnExactReplicaOkSpec)) fnExactReplicaOkCard

/-- THE TIED CARD OF 'laws.FnExactMergeNode'. -/
def fnExactMergeNodeCard : Claim7 := { stood := { row := fnExactMergeNodeRow, standIns := [], harness := (true, "d472b65b4bac326e2a6884771a7d79a0fc99ddac9757d3b7a5db1bbdd3a36863"), looks := false }, kinds := [], alts := [], laidByText := true, laidKinds := [.data, .data, .data, .data, .pinned], laidTests := true, laidLooks := .later }
def FnExactMergeNodeCardSaid : Prop := Claim7.holds Tryz.pinned (.plain (OpenSpec.ofChange fnExactMergeNodeSpec)) fnExactMergeNodeCard

/-- THE TIED CARD OF 'laws.FnExactRedo'. -/
def fnExactRedoCard : Claim7 := { stood := { row := fnExactRedoRow, standIns := [], harness := (true, "d472b65b4bac326e2a6884771a7d79a0fc99ddac9757d3b7a5db1bbdd3a36863"), looks := false }, kinds := [], alts := [], laidByText := true, laidKinds := [.data, .data, .data, .data, .pinned], laidTests := true, laidLooks := .later }
def FnExactRedoCardSaid : Prop := Claim7.holds Tryz.pinned (.plain (OpenSpec.ofChange fnExactRedoSpec)) fnExactRedoCard

/-- THE TIED CARD OF 'laws.FnExactUndo'. -/
def fnExactUndoCard : Claim7 := { stood := { row := fnExactUndoRow, standIns := [], harness := (true, "d472b65b4bac326e2a6884771a7d79a0fc99ddac9757d3b7a5db1bbdd3a36863"), looks := false }, kinds := [], alts := [], laidByText := true, laidKinds := [.data, .data, .data, .data, .pinned], laidTests := true, laidLooks := .later }
def FnExactUndoCardSaid : Prop := Claim7.holds Tryz.pinned (.plain (OpenSpec.ofChange fnExactUndoSpec)) fnExactUndoCard

/-- THE TIED CARD OF 'laws.FnExactBtCut'. -/
def fnExactBtCutCard : Claim7 := { stood := { row := fnExactBtCutRow, standIns := [], harness := (true, "d472b65b4bac326e2a6884771a7d79a0fc99ddac9757d3b7a5db1bbdd3a36863"), looks := false }, kinds := [], alts := [], laidByText := true, laidKinds := [.data, .data, .data, .data, .pinned], laidTests := true, laidLooks := .later }
def FnExactBtCutCardSaid : Prop := Claim7.holds Tryz.pinned (.plain (OpenSpec.ofChange fnExactBtCutSpec)) fnExactBtCutCard

/-- THE SECOND FORM's CARD OF 'laws.FnExactGetNode'. -/
def fnExactGetNodeUptoCard : Claim7 := { stood := { row := fnExactGetNodeUptoRow, standIns := [], harness := (true, "d472b65b4bac326e2a6884771a7d79a0fc99ddac9757d3b7a5db1bbdd3a36863"), looks := false }, kinds := [], alts := [], laidByText := true, laidKinds := [.data, .data, .data, .data, .pinned], laidTests := true, laidLooks := .later }
def FnExactGetNodeUptoCardSaid : Prop := Claim7.holds Tryz.pinned (.plain (OpenSpec.upto fnExactGetNodeSpec)) fnExactGetNodeUptoCard

/-- THE SECOND FORM's CARD OF 'laws.FnExactImagesOk'. -/
def fnExactImagesOkUptoCard : Claim7 := { stood := { row := fnExactImagesOkUptoRow, standIns := [], harness := (true, "d472b65b4bac326e2a6884771a7d79a0fc99ddac9757d3b7a5db1bbdd3a36863"), looks := false }, kinds := [], alts := [], laidByText := true, laidKinds := [.data, .data, .data, .data, .pinned], laidTests := true, laidLooks := .later }
def FnExactImagesOkUptoCardSaid : Prop := Claim7.holds Tryz.pinned (.plain (OpenSpec.upto fnExactImagesOkSpec)) fnExactImagesOkUptoCard

/-- THE SECOND FORM's CARD OF 'laws.FnExactParcelOk'. -/
def fnExactParcelOkUptoCard : Claim7 := { stood := { row := fnExactParcelOkUptoRow, standIns := [], harness := (true, "d472b65b4bac326e2a6884771a7d79a0fc99ddac9757d3b7a5db1bbdd3a36863"), looks := false }, kinds := [], alts := [], laidByText := true, laidKinds := [.data, .data, .data, .data, .pinned], laidTests := true, laidLooks := .later }
def FnExactParcelOkUptoCardSaid : Prop := Claim7.holds Tryz.pinned (.plain (OpenSpec.upto fnExactParcelOkSpec)) fnExactParcelOkUptoCard

/-- THE SECOND FORM's CARD OF 'laws.FnExactReplicaOk'. -/
def fnExactReplicaOkUptoCard : Claim7 := { stood := { row := fnExactReplicaOkUptoRow, standIns := [], harness := (true, "d472b65b4bac326e2a6884771a7d79a0fc99ddac9757d3b7a5db1bbdd3a36863"), looks := false }, kinds := [], alts := [], laidByText := true, laidKinds := [.data, .data, .data, .data, .pinned], laidTests := true, laidLooks := .later }
def FnExactReplicaOkUptoCardSaid : Prop := Claim7.holds Tryz.pinned (.plain (OpenSpec.upto fnExactReplicaOkSpec)) fnExactReplicaOkUptoCard

/-- THE SECOND FORM's CARD OF 'laws.FnExactMergeNode'. -/
def fnExactMergeNodeUptoCard : Claim7 := { stood := { row := fnExactMergeNodeUptoRow, standIns := [], harness := (true, "d472b65b4bac326e2a6884771a7d79a0fc99ddac9757d3b7a5db1bbdd3a36863"), looks := false }, kinds := [], alts := [], laidByText := true, laidKinds := [.data, .data, .data, .data, .pinned], laidTests := true, laidLooks := .later }
def FnExactMergeNodeUptoCardSaid : Prop := Claim7.holds Tryz.pinned (.plain (OpenSpec.upto fnExactMergeNodeSpec)) fnExactMergeNodeUptoCard

/-- THE SECOND FORM's CARD OF 'laws.FnExactRedo'. -/
def fnExactRedoUptoCard : Claim7 := { stood := { row := fnExactRedoUptoRow, standIns := [], harness := (true, "d472b65b4bac326e2a6884771a7d79a0fc99ddac9757d3b7a5db1bbdd3a36863"), looks := false }, kinds := [], alts := [], laidByText := true, laidKinds := [.data, .data, .data, .data, .pinned], laidTests := true, laidLooks := .later }
def FnExactRedoUptoCardSaid : Prop := Claim7.holds Tryz.pinned (.plain (OpenSpec.upto fnExactRedoSpec)) fnExactRedoUptoCard

/-- THE SECOND FORM's CARD OF 'laws.FnExactUndo'. -/
def fnExactUndoUptoCard : Claim7 := { stood := { row := fnExactUndoUptoRow, standIns := [], harness := (true, "d472b65b4bac326e2a6884771a7d79a0fc99ddac9757d3b7a5db1bbdd3a36863"), looks := false }, kinds := [], alts := [], laidByText := true, laidKinds := [.data, .data, .data, .data, .pinned], laidTests := true, laidLooks := .later }
def FnExactUndoUptoCardSaid : Prop := Claim7.holds Tryz.pinned (.plain (OpenSpec.upto fnExactUndoSpec)) fnExactUndoUptoCard

/-- THE SECOND FORM's CARD OF 'laws.FnExactBtCut'. -/
def fnExactBtCutUptoCard : Claim7 := { stood := { row := fnExactBtCutUptoRow, standIns := [], harness := (true, "d472b65b4bac326e2a6884771a7d79a0fc99ddac9757d3b7a5db1bbdd3a36863"), looks := false }, kinds := [], alts := [], laidByText := true, laidKinds := [.data, .data, .data, .data, .pinned], laidTests := true, laidLooks := .later }
def FnExactBtCutUptoCardSaid : Prop := Claim7.holds Tryz.pinned (.plain (OpenSpec.upto fnExactBtCutSpec)) fnExactBtCutUptoCard
end Rows
end Go.Proofs.YtanjmolgpkffoaaGreatDoor
