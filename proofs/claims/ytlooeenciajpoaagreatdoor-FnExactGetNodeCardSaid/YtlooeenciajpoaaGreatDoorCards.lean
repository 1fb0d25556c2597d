/-
  DERIVED. GIVEN WITH THE SEED: THE CARDS: each row of YtlooeenciajpoaaGreatDoorRows.lean that lists a variable, with what it lists TIED to the program's text (the seventh form; the later family's looks); each row that meets fmt, with fmt's text TOLD by the authors' own Lean function (tested against real Go, not proved from fmt's source: count such statements apart). THE CARD IS WHAT COUNTS. Prove the row's statement (the work); the ties are given (YtlooeenciajpoaaGreatDoorTie.lean); close each card by the builder's one call (the guide's Derived/Test/ToyasCard.lean, 'card_holds'). Laid BY PROGRAM, IN A SANDBOX (cutbox-door.mjs). By AI agents, Wed Nov 11 2026. No macro, syntax, notation, axiom, sorry.
-/
import Derived.Test.YtlooeenciajpoaaGreatDoorRows
import GoSem.ClaimSeven
namespace Go.Proofs.YtlooeenciajpoaaGreatDoor
namespace Rows

/-- THE TIED CARD OF 'laws.FnExactImagesOk'. -/
def fnExactImagesOkCard : Claim7 := { stood := { row := fnExactImagesOkRow, standIns := [], harness := (true, "7e16f269d0d106dfff3fcdaeff1bf236348a0653bb44ba036e764514df30162b"), looks := false }, kinds := [], alts := [], laidByText := true, laidKinds := [.data, .data, .data, .data, .pinned], laidTests := true, laidLooks := .later }
def FnExactImagesOkCardSaid : Prop := Claim7.holds Tryz.pinned (.plain (OpenSpec.ofChange fnExactImagesOkSpec)) fnExactImagesOkCard

/-- THE TIED CARD OF 'laws.FnExactParcelOk'. -/
def fnExactParcelOkCard : Claim7 := { stood := { row := fnExactParcelOkRow, standIns := [], harness := (true, "7e16f269d0d106dfff3fcdaeff1bf236348a0653bb44ba036e764514df30162b"), looks := false }, kinds := [], alts := [], laidByText := true, laidKinds := [.data, .data, .data, .data, .pinned], laidTests := true, laidLooks := .later }
def FnExactParcelOkCardSaid : Prop := Claim7.holds Tryz.pinned (.plain (OpenSpec.ofChange fnExactParcelOkSpec)) fnExactParcelOkCard

/-- THE TIED CARD OF 'laws.FnExactGetNode'. -/
def fnExactGetNodeCard : Claim7 := { stood := { row := fnExactGetNodeRow, standIns := [], harness := (true, "7e16f269d0d106dfff3fcdaeff1bf236348a0653bb44ba036e764514df30162b"), looks := false }, kinds := [], alts := [], laidByText := true, laidKinds := [.data, .data, .data, .data, .pinned], laidTests := true, laidLooks := .later }
def FnExactGetNodeCardSaid : Prop := Claim7.holds Tryz.pinned (.plain (OpenSpec.ofChange fnExactGetNodeSpec)) fnExactGetNodeCard

/-- THE TIED CARD OF 'laws.FnExactPutImages'. -/
def fnExactPutImagesCard : Claim7 := { stood := { row := fnExactPutImagesRow, standIns := [], harness := (true, "7e16f269d0d106dfff3fcdaeff1bf236348a0653bb44ba036e764514df30162b"), looks := false }, kinds := [], alts := [], laidByText := true, laidKinds := [.data, .data, .data, .data, .pinned], laidTests := true, laidLooks := .later }
def FnExactPutImagesCardSaid : Prop := Claim7.holds Tryz.pinned (.plain (OpenSpec.ofChange fnExactPutImagesSpec)) fnExactPutImagesCard

/-- THE SECOND FORM's CARD OF 'laws.FnExactImagesOk'. -/
def fnExactImagesOkUptoCard : Claim7 := { stood := { row := fnExactImagesOkUptoRow, standIns := [], harness := (true, "7e16f269d0d106dfff3fcdaeff1bf236348a0653bb44ba036e764514df30162b"), looks := false }, kinds := [], alts := [], laidByText := true, laidKinds := [.data, .data, .data, .data, .pinned], laidTests := true, laidLooks := .later }
def FnExactImagesOkUptoCardSaid : Prop := Claim7.holds Tryz.pinned (.plain (OpenSpec.upto fnExactImagesOkSpec)) fnExactImagesOkUptoCard

/-- THE SECOND FORM's CARD OF 'laws.FnExactParcelOk'. -/
def fnExactParcelOkUptoCard : Claim7 := { stood := { row := fnExactParcelOkUptoRow, standIns := [], harness := (true, "7e16f269d0d106dfff3fcdaeff1bf236348a0653bb44ba036e764514df30162b"), looks := false }, kinds := [], alts := [], laidByText := true, laidKinds := [.data, .data, .data, .data, .pinned], laidTests := true, laidLooks := .later }
def FnExactParcelOkUptoCardSaid : Prop := Claim7.holds Tryz.pinned (.plain (OpenSpec.upto fnExactParcelOkSpec)) fnExactParcelOkUptoCard

/-- THE SECOND FORM's CARD OF 'laws.FnExactGetNode'. -/
def fnExactGetNodeUptoCard : Claim7 := { stood := { row := fnExactGetNodeUptoRow, standIns := [], harness := (true, "7e16f269d0d106dfff3fcdaeff1bf236348a0653bb44ba036e764514df30162b"), looks := false }, kinds := [], alts := [], laidByText := true, laidKinds := [.data, .data, .data, .data, .pinned], laidTests := true, laidLooks := .later }
def FnExactGetNodeUptoCardSaid : Prop := Claim7.holds Tryz.pinned (.plain (OpenSpec.upto fnExactGetNodeSpec)) fnExactGetNodeUptoCard

/-- THE SECOND FORM's CARD OF 'laws.FnExactPutImages'. -/
def fnExactPutImagesUptoCard : Claim7 := { stood := { row := fnExactPutImagesUptoRow, standIns := [], harness := (true, "7e16f269d0d106dfff3fcdaeff1bf236348a0653bb44ba036e764514df30162b"), looks := false }, kinds := [], alts := [], laidByText := true, laidKinds := [.data, .data, .data, .data, .pinned], laidTests := true, laidLooks := .later }
def FnExactPutImagesUptoCardSaid : Prop := Claim7.holds Tryz.pinned (.plain (OpenSpec.upto fnExactPutImagesSpec)) fnExactPutImagesUptoCard
end Rows
end Go.Proofs.YtlooeenciajpoaaGreatDoor
