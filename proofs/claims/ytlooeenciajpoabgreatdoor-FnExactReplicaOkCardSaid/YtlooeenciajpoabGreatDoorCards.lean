/-
  DERIVED. GIVEN WITH THE SEED: THE CARDS: each row of YtlooeenciajpoabGreatDoorRows.lean that lists a variable, with what it lists TIED to the program's text (the seventh form; the later family's looks); each row that meets fmt, with fmt's text TOLD by the authors' own Lean function (tested against real Go, not proved from fmt's source: count such statements apart). THE CARD IS WHAT COUNTS. Prove the row's statement (the work); the ties are given (YtlooeenciajpoabGreatDoorTie.lean); close each card by the builder's one call (the guide's Derived/Test/ToyasCard.lean, 'card_holds'). Laid BY PROGRAM, IN A SANDBOX (cutbox-door.mjs). By AI agents, Wed Nov 11 2026. No macro, syntax, notation, axiom, sorry.
-/
import Derived.Test.YtlooeenciajpoabGreatDoorRows
import GoSem.ClaimSeven
namespace Go.Proofs.YtlooeenciajpoabGreatDoor
namespace Rows

/-- THE TIED CARD OF 'laws.FnExactPutParcel'. -/
def fnExactPutParcelCard : Claim7 := { stood := { row := fnExactPutParcelRow, standIns := [], harness := (true, "93764bc7d8e393faaf260ac9d66dc494df6da5e1343b2d2f8300b400b8067fdf"), looks := false }, kinds := [], alts := [], laidByText := true, laidKinds := [.data, .data, .data, .data, .pinned], laidTests := true, laidLooks := .later }
def FnExactPutParcelCardSaid : Prop := Claim7.holds Tryz.pinned (.plain (OpenSpec.ofChange fnExactPutParcelSpec)) fnExactPutParcelCard

/-- THE TIED CARD OF 'laws.FnExactPutPage'. -/
def fnExactPutPageCard : Claim7 := { stood := { row := fnExactPutPageRow, standIns := [], harness := (true, "93764bc7d8e393faaf260ac9d66dc494df6da5e1343b2d2f8300b400b8067fdf"), looks := false }, kinds := [], alts := [], laidByText := true, laidKinds := [.data, .data, .data, .data, .pinned], laidTests := true, laidLooks := .later }
def FnExactPutPageCardSaid : Prop := Claim7.holds Tryz.pinned (.plain (OpenSpec.ofChange fnExactPutPageSpec)) fnExactPutPageCard

/-- THE TIED CARD OF 'laws.FnExactPackTree'. -/
def fnExactPackTreeCard : Claim7 := { stood := { row := fnExactPackTreeRow, standIns := [], harness := (true, "93764bc7d8e393faaf260ac9d66dc494df6da5e1343b2d2f8300b400b8067fdf"), looks := false }, kinds := [], alts := [], laidByText := true, laidKinds := [.data, .data, .data, .data, .pinned], laidTests := true, laidLooks := .later }
def FnExactPackTreeCardSaid : Prop := Claim7.holds Tryz.pinned (.plain (OpenSpec.ofChange fnExactPackTreeSpec)) fnExactPackTreeCard

/-- THE TIED CARD OF 'laws.FnExactReplicaOk'. -/
def fnExactReplicaOkCard : Claim7 := { stood := { row := fnExactReplicaOkRow, standIns := [], harness := (true, "93764bc7d8e393faaf260ac9d66dc494df6da5e1343b2d2f8300b400b8067fdf"), looks := false }, kinds := [], alts := [], laidByText := true, laidKinds := [.data, .data, .data, .data, .pinned], laidTests := true, laidLooks := .later }
def FnExactReplicaOkCardSaid : Prop := Claim7.holds Tryz.pinned (.plain (OpenSpec.ofChange fnExactReplicaOkSpec)) fnExactReplicaOkCard

/-- THE TIED CARD OF 'laws.FnExactSlotsOk'. -/
def fnExactSlotsOkCard : Claim7 := { stood := { row := fnExactSlotsOkRow, standIns := [], harness := (true, "93764bc7d8e393faaf260ac9d66dc494df6da5e1343b2d2f8300b400b8067fdf"), looks := false }, kinds := [], alts := [], laidByText := true, laidKinds := [.data, .data, .data, .data, .pinned], laidTests := true, laidLooks := .later }
def FnExactSlotsOkCardSaid : Prop := Claim7.holds Tryz.pinned (.plain (OpenSpec.ofChange fnExactSlotsOkSpec)) fnExactSlotsOkCard

/-- THE SECOND FORM's CARD OF 'laws.FnExactPutParcel'. -/
def fnExactPutParcelUptoCard : Claim7 := { stood := { row := fnExactPutParcelUptoRow, standIns := [], harness := (true, "93764bc7d8e393faaf260ac9d66dc494df6da5e1343b2d2f8300b400b8067fdf"), looks := false }, kinds := [], alts := [], laidByText := true, laidKinds := [.data, .data, .data, .data, .pinned], laidTests := true, laidLooks := .later }
def FnExactPutParcelUptoCardSaid : Prop := Claim7.holds Tryz.pinned (.plain (OpenSpec.upto fnExactPutParcelSpec)) fnExactPutParcelUptoCard

/-- THE SECOND FORM's CARD OF 'laws.FnExactPutPage'. -/
def fnExactPutPageUptoCard : Claim7 := { stood := { row := fnExactPutPageUptoRow, standIns := [], harness := (true, "93764bc7d8e393faaf260ac9d66dc494df6da5e1343b2d2f8300b400b8067fdf"), looks := false }, kinds := [], alts := [], laidByText := true, laidKinds := [.data, .data, .data, .data, .pinned], laidTests := true, laidLooks := .later }
def FnExactPutPageUptoCardSaid : Prop := Claim7.holds Tryz.pinned (.plain (OpenSpec.upto fnExactPutPageSpec)) fnExactPutPageUptoCard

/-- THE SECOND FORM's CARD OF 'laws.FnExactPackTree'. -/
def fnExactPackTreeUptoCard : Claim7 := { stood := { row := fnExactPackTreeUptoRow, standIns := [], harness := (true, "93764bc7d8e393faaf260ac9d66dc494df6da5e1343b2d2f8300b400b8067fdf"), looks := false }, kinds := [], alts := [], laidByText := true, laidKinds := [.data, .data, .data, .data, .pinned], laidTests := true, laidLooks := .later }
def FnExactPackTreeUptoCardSaid : Prop := Claim7.holds Tryz.pinned (.plain (OpenSpec.upto fnExactPackTreeSpec)) fnExactPackTreeUptoCard

/-- THE SECOND FORM's CARD OF 'laws.FnExactReplicaOk'. -/
def fnExactReplicaOkUptoCard : Claim7 := { stood := { row := fnExactReplicaOkUptoRow, standIns := [], harness := (true, "93764bc7d8e393faaf260ac9d66dc494df6da5e1343b2d2f8300b400b8067fdf"), looks := false }, kinds := [], alts := [], laidByText := true, laidKinds := [.data, .data, .data, .data, .pinned], laidTests := true, laidLooks := .later }
def FnExactReplicaOkUptoCardSaid : Prop := Claim7.holds Tryz.pinned (.plain (OpenSpec.upto fnExactReplicaOkSpec)) fnExactReplicaOkUptoCard

/-- THE SECOND FORM's CARD OF 'laws.FnExactSlotsOk'. -/
def fnExactSlotsOkUptoCard : Claim7 := { stood := { row := fnExactSlotsOkUptoRow, standIns := [], harness := (true, "93764bc7d8e393faaf260ac9d66dc494df6da5e1343b2d2f8300b400b8067fdf"), looks := false }, kinds := [], alts := [], laidByText := true, laidKinds := [.data, .data, .data, .data, .pinned], laidTests := true, laidLooks := .later }
def FnExactSlotsOkUptoCardSaid : Prop := Claim7.holds Tryz.pinned (.plain (OpenSpec.upto fnExactSlotsOkSpec)) fnExactSlotsOkUptoCard
end Rows
end Go.Proofs.YtlooeenciajpoabGreatDoor
