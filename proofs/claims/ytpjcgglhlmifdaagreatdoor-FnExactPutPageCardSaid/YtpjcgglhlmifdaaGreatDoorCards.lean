/-
  DERIVED. GIVEN WITH THE SEED: THE CARDS: each row of YtpjcgglhlmifdaaGreatDoorRows.lean that lists a variable, with what it lists TIED to the program's text (the seventh form; the later family's looks); each row that meets fmt, with fmt's text TOLD by the authors' own Lean function (tested against real Go, not proved from fmt's source: count such statements apart). THE CARD IS WHAT COUNTS. Prove the row's statement (the work); the ties are given (YtpjcgglhlmifdaaGreatDoorTie.lean); close each card by the builder's one call (the guide's Derived/Test/ToyasCard.lean, 'card_holds'). Laid BY PROGRAM, IN A SANDBOX (cutbox-door.mjs). By AI agents, Wed Nov 11 2026. No macro, syntax, notation, axiom, sorry.
-/
import Derived.Test.YtpjcgglhlmifdaaGreatDoorRows
import GoSem.ClaimSeven
namespace Go.Proofs.YtpjcgglhlmifdaaGreatDoor
namespace Rows

/-- THE TIED CARD OF 'laws.FnExactBtRecords'. -/
def fnExactBtRecordsCard : Claim7 := { stood := { row := fnExactBtRecordsRow, standIns := [], harness := (true, "ae14cf57e25c89494f2f36897d3e672aa6ae2244ff31ddb2b9f5f9cb182ef1da"), looks := false }, kinds := [], alts := [], laidByText := true, laidKinds := [.data, .data, .data, .data, .pinned], laidTests := true, laidLooks := .later }
def FnExactBtRecordsCardSaid : Prop := Claim7.holds Tryz.pinned (.plain (OpenSpec.ofChange fnExactBtRecordsSpec)) fnExactBtRecordsCard

/-- THE TIED CARD OF 'laws.FnExactBtTree'. -/
def fnExactBtTreeCard : Claim7 := { stood := { row := fnExactBtTreeRow, standIns := [], harness := (true, "ae14cf57e25c89494f2f36897d3e672aa6ae2244ff31ddb2b9f5f9cb182ef1da"), looks := false }, kinds := [], alts := [], laidByText := true, laidKinds := [.data, .data, .data, .data, .pinned], laidTests := true, laidLooks := .later }
def FnExactBtTreeCardSaid : Prop := Claim7.holds Tryz.pinned (.plain (OpenSpec.ofChange fnExactBtTreeSpec)) fnExactBtTreeCard

/-- THE TIED CARD OF 'laws.FnExactReached'. -/
def fnExactReachedCard : Claim7 := { stood := { row := fnExactReachedRow, standIns := [], harness := (true, "ae14cf57e25c89494f2f36897d3e672aa6ae2244ff31ddb2b9f5f9cb182ef1da"), looks := false }, kinds := [], alts := [], laidByText := true, laidKinds := [.data, .data, .data, .data, .pinned], laidTests := true, laidLooks := .later }
def FnExactReachedCardSaid : Prop := Claim7.holds Tryz.pinned (.plain (OpenSpec.ofChange fnExactReachedSpec)) fnExactReachedCard

/-- THE TIED CARD OF 'laws.FnExactFaultsOf'. -/
def fnExactFaultsOfCard : Claim7 := { stood := { row := fnExactFaultsOfRow, standIns := [], harness := (true, "ae14cf57e25c89494f2f36897d3e672aa6ae2244ff31ddb2b9f5f9cb182ef1da"), looks := false }, kinds := [], alts := [], laidByText := true, laidKinds := [.data, .data, .data, .data, .pinned], laidTests := true, laidLooks := .later }
def FnExactFaultsOfCardSaid : Prop := Claim7.holds Tryz.pinned (.plain (OpenSpec.ofChange fnExactFaultsOfSpec)) fnExactFaultsOfCard

/-- THE TIED CARD OF 'laws.FnExactTreeIn'. -/
def fnExactTreeInCard : Claim7 := { stood := { row := fnExactTreeInRow, standIns := [], harness := (true, "ae14cf57e25c89494f2f36897d3e672aa6ae2244ff31ddb2b9f5f9cb182ef1da"), looks := false }, kinds := [], alts := [], laidByText := true, laidKinds := [.data, .data, .data, .data, .pinned], laidTests := true, laidLooks := .later }
def FnExactTreeInCardSaid : Prop := Claim7.holds Tryz.pinned (.plain (OpenSpec.ofChange fnExactTreeInSpec)) fnExactTreeInCard

/-- THE TIED CARD OF 'laws.FnExactPutPage'. -/
def fnExactPutPageCard : Claim7 := { stood := { row := fnExactPutPageRow, standIns := [], harness := (true, "ae14cf57e25c89494f2f36897d3e672aa6ae2244ff31ddb2b9f5f9cb182ef1da"), looks := false }, kinds := [], alts := [], laidByText := true, laidKinds := [.data, .data, .data, .data, .pinned], laidTests := true, laidLooks := .later }
def FnExactPutPageCardSaid : Prop := Claim7.holds Tryz.pinned (.plain (OpenSpec.ofChange fnExactPutPageSpec)) fnExactPutPageCard

/-- THE TIED CARD OF 'laws.FnExactSlotsOk'. -/
def fnExactSlotsOkCard : Claim7 := { stood := { row := fnExactSlotsOkRow, standIns := [], harness := (true, "ae14cf57e25c89494f2f36897d3e672aa6ae2244ff31ddb2b9f5f9cb182ef1da"), looks := false }, kinds := [], alts := [], laidByText := true, laidKinds := [.data, .data, .data, .data, .pinned], laidTests := true, laidLooks := .later }
def FnExactSlotsOkCardSaid : Prop := Claim7.holds Tryz.pinned (.plain (OpenSpec.ofChange fnExactSlotsOkSpec)) fnExactSlotsOkCard

/-- THE SECOND FORM's CARD OF 'laws.FnExactBtRecords'. -/
def fnExactBtRecordsUptoCard : Claim7 := { stood := { row := fnExactBtRecordsUptoRow, standIns := [], harness := (true, "ae14cf57e25c89494f2f36897d3e672aa6ae2244ff31ddb2b9f5f9cb182ef1da"), looks := false }, kinds := [], alts := [], laidByText := true, laidKinds := [.data, .data, .data, .data, .pinned], laidTests := true, laidLooks := .later }
def FnExactBtRecordsUptoCardSaid : Prop := Claim7.holds Tryz.pinned (.plain (OpenSpec.upto fnExactBtRecordsSpec)) fnExactBtRecordsUptoCard

/-- THE SECOND FORM's CARD OF 'laws.FnExactBtTree'. -/
def fnExactBtTreeUptoCard : Claim7 := { stood := { row := fnExactBtTreeUptoRow, standIns := [], harness := (true, "ae14cf57e25c89494f2f36897d3e672aa6ae2244ff31ddb2b9f5f9cb182ef1da"), looks := false }, kinds := [], alts := [], laidByText := true, laidKinds := [.data, .data, .data, .data, .pinned], laidTests := true, laidLooks := .later }
def FnExactBtTreeUptoCardSaid : Prop := Claim7.holds Tryz.pinned (.plain (OpenSpec.upto fnExactBtTreeSpec)) fnExactBtTreeUptoCard

/-- THE SECOND FORM's CARD OF 'laws.FnExactReached'. -/
def fnExactReachedUptoCard : Claim7 := { stood := { row := fnExactReachedUptoRow, standIns := [], harness := (true, "ae14cf57e25c89494f2f36897d3e672aa6ae2244ff31ddb2b9f5f9cb182ef1da"), looks := false }, kinds := [], alts := [], laidByText := true, laidKinds := [.data, .data, .data, .data, .pinned], laidTests := true, laidLooks := .later }
def FnExactReachedUptoCardSaid : Prop := Claim7.holds Tryz.pinned (.plain (OpenSpec.upto fnExactReachedSpec)) fnExactReachedUptoCard

/-- THE SECOND FORM's CARD OF 'laws.FnExactFaultsOf'. -/
def fnExactFaultsOfUptoCard : Claim7 := { stood := { row := fnExactFaultsOfUptoRow, standIns := [], harness := (true, "ae14cf57e25c89494f2f36897d3e672aa6ae2244ff31ddb2b9f5f9cb182ef1da"), looks := false }, kinds := [], alts := [], laidByText := true, laidKinds := [.data, .data, .data, .data, .pinned], laidTests := true, laidLooks := .later }
def FnExactFaultsOfUptoCardSaid : Prop := Claim7.holds Tryz.pinned (.plain (OpenSpec.upto fnExactFaultsOfSpec)) fnExactFaultsOfUptoCard

/-- THE SECOND FORM's CARD OF 'laws.FnExactTreeIn'. -/
def fnExactTreeInUptoCard : Claim7 := { stood := { row := fnExactTreeInUptoRow, standIns := [], harness := (true, "ae14cf57e25c89494f2f36897d3e672aa6ae2244ff31ddb2b9f5f9cb182ef1da"), looks := false }, kinds := [], alts := [], laidByText := true, laidKinds := [.data, .data, .data, .data, .pinned], laidTests := true, laidLooks := .later }
def FnExactTreeInUptoCardSaid : Prop := Claim7.holds Tryz.pinned (.plain (OpenSpec.upto fnExactTreeInSpec)) fnExactTreeInUptoCard

/-- THE SECOND FORM's CARD OF 'laws.FnExactPutPage'. -/
def fnExactPutPageUptoCard : Claim7 := { stood := { row := fnExactPutPageUptoRow, standIns := [], harness := (true, "ae14cf57e25c89494f2f36897d3e672aa6ae2244ff31ddb2b9f5f9cb182ef1da"), looks := false }, kinds := [], alts := [], laidByText := true, laidKinds := [.data, .data, .data, .data, .pinned], laidTests := true, laidLooks := .later }
def FnExactPutPageUptoCardSaid : Prop := Claim7.holds Tryz.pinned (.plain (OpenSpec.upto fnExactPutPageSpec)) fnExactPutPageUptoCard

/-- THE SECOND FORM's CARD OF 'laws.FnExactSlotsOk'. -/
def fnExactSlotsOkUptoCard : Claim7 := { stood := { row := fnExactSlotsOkUptoRow, standIns := [], harness := (true, "ae14cf57e25c89494f2f36897d3e672aa6ae2244ff31ddb2b9f5f9cb182ef1da"), looks := false }, kinds := [], alts := [], laidByText := true, laidKinds := [.data, .data, .data, .data, .pinned], laidTests := true, laidLooks := .later }
def FnExactSlotsOkUptoCardSaid : Prop := Claim7.holds Tryz.pinned (.plain (OpenSpec.upto fnExactSlotsOkSpec)) fnExactSlotsOkUptoCard
end Rows
end Go.Proofs.YtpjcgglhlmifdaaGreatDoor
