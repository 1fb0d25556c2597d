/-
  DERIVED. GIVEN WITH THE SEED: THE CARDS: each row of YtfehlcbaalbajaaGreatDoorRows.lean that lists a variable, with what it lists TIED to the program's text (the seventh form; the later family's looks); each row that meets fmt, with fmt's text TOLD by the authors' own Lean function (tested against real Go, not proved from fmt's source: count such statements apart). THE CARD IS WHAT COUNTS. Prove the row's statement (the work); the ties are given (YtfehlcbaalbajaaGreatDoorTie.lean); close each card by the builder's one call (the guide's Derived/Test/ToyasCard.lean, 'card_holds'). Laid BY PROGRAM, IN A SANDBOX (cutbox-door.mjs). By AI agents, Wed Nov 11 2026. No macro, syntax, notation, axiom, sorry.
-/
import Derived.Test.YtfehlcbaalbajaaGreatDoorRows
import GoSem.ClaimSeven
namespace Go.Proofs.YtfehlcbaalbajaaGreatDoor
namespace Rows

/-- THE TIED CARD OF 'laws.FnExactImagesOf'. -/
def fnExactImagesOfCard : Claim7 := { stood := { row := fnExactImagesOfRow, standIns := [], harness := (true, "e1c2a46f9eaa1877b6bc5901044cc89eee3046c6b42eda43844dcfbf7b02f06d"), looks := false }, kinds := [], alts := [], laidByText := true, laidKinds := [.data, .data, .data, .data, .pinned], laidTests := true, laidLooks := .later }
def FnExactImagesOfCardSaid : Prop := Claim7.holds Tryz.pinned (.plain (OpenSpec.ofChange fnExactImagesOfSpec)) fnExactImagesOfCard

/-- THE TIED CARD OF 'laws.FnExactNewCache'. -/
def fnExactNewCacheCard : Claim7 := { stood := { row := fnExactNewCacheRow, standIns := [], harness := (true, "e1c2a46f9eaa1877b6bc5901044cc89eee3046c6b42eda43844dcfbf7b02f06d"), looks := false }, kinds := [], alts := [], laidByText := true, laidKinds := [.data, .data, .data, .data, .pinned], laidTests := true, laidLooks := .later }
def FnExactNewCacheCardSaid : Prop := Claim7.holds Tryz.pinned (.plain (OpenSpec.ofChange fnExactNewCacheSpec)) fnExactNewCacheCard

/-- THE TIED CARD OF 'laws.FnExactNewBase'. -/
def fnExactNewBaseCard : Claim7 := { stood := { row := fnExactNewBaseRow, standIns := [], harness := (true, "e1c2a46f9eaa1877b6bc5901044cc89eee3046c6b42eda43844dcfbf7b02f06d"), looks := false }, kinds := [], alts := [], laidByText := true, laidKinds := [.data, .data, .data, .data, .pinned], laidTests := true, laidLooks := .later }
def FnExactNewBaseCardSaid : Prop := Claim7.holds Tryz.pinned (.plain (OpenSpec.ofChange fnExactNewBaseSpec)) fnExactNewBaseCard

/-- THE TIED CARD OF 'laws.FnExactSlotsOk'. -/
def fnExactSlotsOkCard : Claim7 := { stood := { row := fnExactSlotsOkRow, standIns := [], harness := (true, "e1c2a46f9eaa1877b6bc5901044cc89eee3046c6b42eda43844dcfbf7b02f06d"), looks := false }, kinds := [], alts := [], laidByText := true, laidKinds := [.data, .data, .data, .data, .pinned], laidTests := true, laidLooks := .later }
def FnExactSlotsOkCardSaid : Prop := Claim7.holds Tryz.pinned (.plain (OpenSpec.ofChange fnExactSlotsOkSpec)) fnExactSlotsOkCard

/-- THE TIED CARD OF 'laws.FnExactPutPage'. -/
def fnExactPutPageCard : Claim7 := { stood := { row := fnExactPutPageRow, standIns := [], harness := (true, "e1c2a46f9eaa1877b6bc5901044cc89eee3046c6b42eda43844dcfbf7b02f06d"), looks := false }, kinds := [], alts := [], laidByText := true, laidKinds := [.data, .data, .data, .data, .pinned], laidTests := true, laidLooks := .later }
def FnExactPutPageCardSaid : Prop := Claim7.holds Tryz.pinned (.plain (OpenSpec.ofChange fnExactPutPageSpec)) fnExactPutPageCard

/-- THE TIED CARD OF 'laws.FnExactBtreeOk'. -/
def fnExactBtreeOkCard : Claim7 := { stood := { row := fnExactBtreeOkRow, standIns := [], harness := (true, "e1c2a46f9eaa1877b6bc5901044cc89eee3046c6b42eda43844dcfbf7b02f06d"), looks := false }, kinds := [], alts := [], laidByText := true, laidKinds := [.data, .data, .data, .data, .pinned], laidTests := true, laidLooks := .later }
def FnExactBtreeOkCardSaid : Prop := Claim7.holds Tryz.pinned (.plain (OpenSpec.ofChange fnExactBtreeOkSpec)) fnExactBtreeOkCard

/-- THE SECOND FORM's CARD OF 'laws.FnExactImagesOf'. -/
def fnExactImagesOfUptoCard : Claim7 := { stood := { row := fnExactImagesOfUptoRow, standIns := [], harness := (true, "e1c2a46f9eaa1877b6bc5901044cc89eee3046c6b42eda43844dcfbf7b02f06d"), looks := false }, kinds := [], alts := [], laidByText := true, laidKinds := [.data, .data, .data, .data, .pinned], laidTests := true, laidLooks := .later }
def FnExactImagesOfUptoCardSaid : Prop := Claim7.holds Tryz.pinned (.plain (OpenSpec.upto fnExactImagesOfSpec)) fnExactImagesOfUptoCard

/-- THE SECOND FORM's CARD OF 'laws.FnExactNewCache'. -/
def fnExactNewCacheUptoCard : Claim7 := { stood := { row := fnExactNewCacheUptoRow, standIns := [], harness := (true, "e1c2a46f9eaa1877b6bc5901044cc89eee3046c6b42eda43844dcfbf7b02f06d"), looks := false }, kinds := [], alts := [], laidByText := true, laidKinds := [.data, .data, .data, .data, .pinned], laidTests := true, laidLooks := .later }
def FnExactNewCacheUptoCardSaid : Prop := Claim7.holds Tryz.pinned (.plain (OpenSpec.upto fnExactNewCacheSpec)) fnExactNewCacheUptoCard

/-- THE SECOND FORM's CARD OF 'laws.FnExactNewBase'. -/
def fnExactNewBaseUptoCard : Claim7 := { stood := { row := fnExactNewBaseUptoRow, standIns := [], harness := (true, "e1c2a46f9eaa1877b6bc5901044cc89eee3046c6b42eda43844dcfbf7b02f06d"), looks := false }, kinds := [], alts := [], laidByText := true, laidKinds := [.data, .data, .data, .data, .pinned], laidTests := true, laidLooks := .later }
def FnExactNewBaseUptoCardSaid : Prop := Claim7.holds Tryz.pinned (.plain (OpenSpec.upto fnExactNewBaseSpec)) fnExactNewBaseUptoCard

/-- THE SECOND FORM's CARD OF 'laws.FnExactSlotsOk'. -/
def fnExactSlotsOkUptoCard : Claim7 := { stood := { row := fnExactSlotsOkUptoRow, standIns := [], harness := (true, "e1c2a46f9eaa1877b6bc5901044cc89eee3046c6b42eda43844dcfbf7b02f06d"), looks := false }, kinds := [], alts := [], laidByText := true, laidKinds := [.data, .data, .data, .data, .pinned], laidTests := true, laidLooks := .later }
def FnExactSlotsOkUptoCardSaid : Prop := Claim7.holds Tryz.pinned (.plain (OpenSpec.upto fnExactSlotsOkSpec)) fnExactSlotsOkUptoCard

/-- THE SECOND FORM's CARD OF 'laws.FnExactPutPage'. -/
def fnExactPutPageUptoCard : Claim7 := { stood := { row := fnExactPutPageUptoRow, standIns := [], harness := (true, "e1c2a46f9eaa1877b6bc5901044cc89eee3046c6b42eda43844dcfbf7b02f06d"), looks := false }, kinds := [], alts := [], laidByText := true, laidKinds := [.data, .data, .data, .data, .pinned], laidTests := true, laidLooks := .later }
def FnExactPutPageUptoCardSaid : Prop := Claim7.holds Tryz.pinned (.plain (OpenSpec.upto fnExactPutPageSpec)) fnExactPutPageUptoCard

/-- THE SECOND FORM's CARD OF 'laws.FnExactBtreeOk'. -/
def fnExactBtreeOkUptoCard : Claim7 := { stood := { row := fnExactBtreeOkUptoRow, standIns := [], harness := (true, "e1c2a46f9eaa1877b6bc5901044cc89eee3046c6b42eda43844dcfbf7b02f06d"), looks := false }, kinds := [], alts := [], laidByText := true, laidKinds := [.data, .data, .data, .data, .pinned], laidTests := true, laidLooks := .later }
def FnExactBtreeOkUptoCardSaid : Prop := Claim7.holds Tryz.pinned (.plain (OpenSpec.upto fnExactBtreeOkSpec)) fnExactBtreeOkUptoCard
end Rows
end Go.Proofs.YtfehlcbaalbajaaGreatDoor
