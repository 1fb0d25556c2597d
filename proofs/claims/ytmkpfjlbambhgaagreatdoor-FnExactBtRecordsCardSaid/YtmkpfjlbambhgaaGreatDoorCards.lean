/-
  DERIVED. GIVEN WITH THE SEED: THE CARDS: each row of YtmkpfjlbambhgaaGreatDoorRows.lean that lists a variable, with what it lists TIED to the program's text (the seventh form; the later family's looks); each row that meets fmt, with fmt's text TOLD by the authors' own Lean function (tested against real Go, not proved from fmt's source: count such statements apart). THE CARD IS WHAT COUNTS. Prove the row's statement (the work); the ties are given (YtmkpfjlbambhgaaGreatDoorTie.lean); close each card by the builder's one call (the guide's Derived/Test/ToyasCard.lean, 'card_holds'). Laid BY PROGRAM, IN A SANDBOX (cutbox-door.mjs). By AI agents, Wed Nov 11 2026. No macro, syntax, notation, axiom, sorry.
-/
import Derived.Test.YtmkpfjlbambhgaaGreatDoorRows
import GoSem.ClaimSeven
namespace Go.Proofs.YtmkpfjlbambhgaaGreatDoor
namespace Rows

/-- THE TIED CARD OF 'laws.FnExactBtRecords'. -/
def fnExactBtRecordsCard : Claim7 := { stood := { row := fnExactBtRecordsRow, standIns := [], harness := (true, "8a51366bb963003e592825a11c73738b841661fea3ea2f0745f6c5c89ed233de"), looks := false }, kinds := [], alts := [], laidByText := true, laidKinds := [.data, .data, .data, .data, .pinned], laidTests := true, laidLooks := .later }
def FnExactBtRecordsCardSaid : Prop := Claim7.holds Tryz.pinned (.plain (OpenSpec.ofChange fnExactBtRecordsSpec)) fnExactBtRecordsCard

/-- THE TIED CARD OF 'laws.FnExactBtTree'. -/
def fnExactBtTreeCard : Claim7 := { stood := { row := fnExactBtTreeRow, standIns := [], harness := (true, "8a51366bb963003e592825a11c73738b841661fea3ea2f0745f6c5c89ed233de"), looks := false }, kinds := [], alts := [], laidByText := true, laidKinds := [.data, .data, .data, .data, .pinned], laidTests := true, laidLooks := .later }
def FnExactBtTreeCardSaid : Prop := Claim7.holds Tryz.pinned (.plain (OpenSpec.ofChange fnExactBtTreeSpec)) fnExactBtTreeCard

/-- THE TIED CARD OF 'laws.FnExactReached'. -/
def fnExactReachedCard : Claim7 := { stood := { row := fnExactReachedRow, standIns := [], harness := (true, "8a51366bb963003e592825a11c73738b841661fea3ea2f0745f6c5c89ed233de"), looks := false }, kinds := [], alts := [], laidByText := true, laidKinds := [.data, .data, .data, .data, .pinned], laidTests := true, laidLooks := .later }
def FnExactReachedCardSaid : Prop := Claim7.holds Tryz.pinned (.plain (OpenSpec.ofChange fnExactReachedSpec)) fnExactReachedCard

/-- THE TIED CARD OF 'laws.FnExactFaultsOf'. -/
def fnExactFaultsOfCard : Claim7 := { stood := { row := fnExactFaultsOfRow, standIns := [], harness := (true, "8a51366bb963003e592825a11c73738b841661fea3ea2f0745f6c5c89ed233de"), looks := false }, kinds := [], alts := [], laidByText := true, laidKinds := [.data, .data, .data, .data, .pinned], laidTests := true, laidLooks := .later }
def FnExactFaultsOfCardSaid : Prop := Claim7.holds Tryz.pinned (.plain (OpenSpec.ofChange fnExactFaultsOfSpec)) fnExactFaultsOfCard

/-- THE TIED CARD OF 'laws.FnExactSalvage'. -/
def fnExactSalvageCard : Claim7 := { stood := { row := fnExactSalvageRow, standIns := [], harness := (true, "8a51366bb963003e592825a11c73738b841661fea3ea2f0745f6c5c89ed233de"), looks := false }, kinds := [], alts := [], laidByText := true, laidKinds := [.data, .data, .data, .data, .pinned], laidTests := true, laidLooks := .later }
def FnExactSalvageCardSaid : Prop := Claim7.holds Tryz.pinned (.plain (OpenSpec.ofChange fnExactSalvageSpec)) fnExactSalvageCard

/-- THE TIED CARD OF 'laws.FnExactTreeIn'. -/
def fnExactTreeInCard : Claim7 := { stood := { row := fnExactTreeInRow, standIns := [], harness := (true, "8a51366bb963003e592825a11c73738b841661fea3ea2f0745f6c5c89ed233de"), looks := false }, kinds := [], alts := [], laidByText := true, laidKinds := [.data, .data, .data, .data, .pinned], laidTests := true, laidLooks := .later }
def FnExactTreeInCardSaid : Prop := Claim7.holds Tryz.pinned (.plain (OpenSpec.ofChange fnExactTreeInSpec)) fnExactTreeInCard

/-- THE TIED CARD OF 'laws.FnExactImagesOf'. -/
def fnExactImagesOfCard : Claim7 := { stood := { row := fnExactImagesOfRow, standIns := [], harness := (true, "8a51366bb963003e592825a11c73738b841661fea3ea2f0745f6c5c89ed233de"), looks := false }, kinds := [], alts := [], laidByText := true, laidKinds := [.data, .data, .data, .data, .pinned], laidTests := true, laidLooks := .later }
def FnExactImagesOfCardSaid : Prop := Claim7.holds Tryz.pinned (.plain (OpenSpec.ofChange fnExactImagesOfSpec)) fnExactImagesOfCard

/-- THE TIED CARD OF 'laws.FnExactFlushBase'. -/
def fnExactFlushBaseCard : Claim7 := { stood := { row := fnExactFlushBaseRow, standIns := [], harness := (true, "8a51366bb963003e592825a11c73738b841661fea3ea2f0745f6c5c89ed233de"), looks := false }, kinds := [], alts := [], laidByText := true, laidKinds := [.data, .data, .data, .data, .pinned], laidTests := true, laidLooks := .later }
def FnExactFlushBaseCardSaid : Prop := Claim7.holds Tryz.pinned (.plain (OpenSpec.ofChange fnExactFlushBaseSpec)) fnExactFlushBaseCard

/-- THE SECOND FORM's CARD OF 'laws.FnExactBtRecords'. -/
def fnExactBtRecordsUptoCard : Claim7 := { stood := { row := fnExactBtRecordsUptoRow, standIns := [], harness := (true, "8a51366bb963003e592825a11c73738b841661fea3ea2f0745f6c5c89ed233de"), looks := false }, kinds := [], alts := [], laidByText := true, laidKinds := [.data, .data, .data, .data, .pinned], laidTests := true, laidLooks := .later }
def FnExactBtRecordsUptoCardSaid : Prop := Claim7.holds Tryz.pinned (.plain (OpenSpec.upto fnExactBtRecordsSpec)) fnExactBtRecordsUptoCard

/-- THE SECOND FORM's CARD OF 'laws.FnExactBtTree'. -/
def fnExactBtTreeUptoCard : Claim7 := { stood := { row := fnExactBtTreeUptoRow, standIns := [], harness := (true, "8a51366bb963003e592825a11c73738b841661fea3ea2f0745f6c5c89ed233de"), looks := false }, kinds := [], alts := [], laidByText := true, laidKinds := [.data, .data, .data, .data, .pinned], laidTests := true, laidLooks := .later }
def FnExactBtTreeUptoCardSaid : Prop := Claim7.holds Tryz.pinned (.plain (OpenSpec.upto fnExactBtTreeSpec)) fnExactBtTreeUptoCard

/-- THE SECOND FORM's CARD OF 'laws.FnExactReached'. -/
def fnExactReachedUptoCard : Claim7 := { stood := { row := fnExactReachedUptoRow, standIns := [], harness := (true, "8a51366bb963003e592825a11c73738b841661fea3ea2f0745f6c5c89ed233de"), looks := false }, kinds := [], alts := [], laidByText := true, laidKinds := [.data, .data, .data, .data, .pinned], laidTests := true, laidLooks := .later }
def FnExactReachedUptoCardSaid : Prop := Claim7.holds Tryz.pinned (.plain (OpenSpec.upto fnExactReachedSpec)) fnExactReachedUptoCard

/-- THE SECOND FORM's CARD OF 'laws.FnExactFaultsOf'. -/
def fnExactFaultsOfUptoCard : Claim7 := { stood := { row := fnExactFaultsOfUptoRow, standIns := [], harness := (true, "8a51366bb963003e592825a11c73738b841661fea3ea2f0745f6c5c89ed233de"), looks := false }, kinds := [], alts := [], laidByText := true, laidKinds := [.data, .data, .data, .data, .pinned], laidTests := true, laidLooks := .later }
def FnExactFaultsOfUptoCardSaid : Prop := Claim7.holds Tryz.pinned (.plain (OpenSpec.upto fnExactFaultsOfSpec)) fnExactFaultsOfUptoCard

/-- THE SECOND FORM's CARD OF 'laws.FnExactSalvage'. -/
def fnExactSalvageUptoCard : Claim7 := { stood := { row := fnExactSalvageUptoRow, standIns := [], harness := (true, "8a51366bb963003e592825a11c73738b841661fea3ea2f0745f6c5c89ed233de"), looks := false }, kinds := [], alts := [], laidByText := true, laidKinds := [.data, .data, .data, .data, .pinned], laidTests := true, laidLooks := .later }
def FnExactSalvageUptoCardSaid : Prop := Claim7.holds Tryz.pinned (.plain (OpenSpec.upto fnExactSalvageSpec)) fnExactSalvageUptoCard

/-- THE SECOND FORM's CARD OF 'laws.FnExactTreeIn'. -/
def fnExactTreeInUptoCard : Claim7 := { stood := { row := fnExactTreeInUptoRow, standIns := [], harness := (true, "8a51366bb963003e592825a11c73738b841661fea3ea2f0745f6c5c89ed233de"), looks := false }, kinds := [], alts := [], laidByText := true, laidKinds := [.data, .data, .data, .data, .pinned], laidTests := true, laidLooks := .later }
def FnExactTreeInUptoCardSaid : Prop := Claim7.holds Tryz.pinned (.plain (OpenSpec.upto fnExactTreeInSpec)) fnExactTreeInUptoCard

/-- THE SECOND FORM's CARD OF 'laws.FnExactImagesOf'. -/
def fnExactImagesOfUptoCard : Claim7 := { stood := { row := fnExactImagesOfUptoRow, standIns := [], harness := (true, "8a51366bb963003e592825a11c73738b841661fea3ea2f0745f6c5c89ed233de"), looks := false }, kinds := [], alts := [], laidByText := true, laidKinds := [.data, .data, .data, .data, .pinned], laidTests := true, laidLooks := .later }
def FnExactImagesOfUptoCardSaid : Prop := Claim7.holds Tryz.pinned (.plain (OpenSpec.upto fnExactImagesOfSpec)) fnExactImagesOfUptoCard

/-- THE SECOND FORM's CARD OF 'laws.FnExactFlushBase'. -/
def fnExactFlushBaseUptoCard : Claim7 := { stood := { row := fnExactFlushBaseUptoRow, standIns := [], harness := (true, "8a51366bb963003e592825a11c73738b841661fea3ea2f0745f6c5c89ed233de"), looks := false }, kinds := [], alts := [], laidByText := true, laidKinds := [.data, .data, .data, .data, .pinned], laidTests := true, laidLooks := .later }
def FnExactFlushBaseUptoCardSaid : Prop := Claim7.holds Tryz.pinned (.plain (OpenSpec.upto fnExactFlushBaseSpec)) fnExactFlushBaseUptoCard
end Rows
end Go.Proofs.YtmkpfjlbambhgaaGreatDoor
