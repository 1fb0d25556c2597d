/-
  DERIVED. GIVEN WITH THE SEED: THE CARDS: each row of YtlifhbfomgbiaaaGreatDoorRows.lean that lists a variable, with what it lists TIED to the program's text (the seventh form; the later family's looks); each row that meets fmt, with fmt's text TOLD by the authors' own Lean function (tested against real Go, not proved from fmt's source: count such statements apart). THE CARD IS WHAT COUNTS. Prove the row's statement (the work); the ties are given (YtlifhbfomgbiaaaGreatDoorTie.lean); close each card by the builder's one call (the guide's Derived/Test/ToyasCard.lean, 'card_holds'). Laid BY PROGRAM, IN A SANDBOX (cutbox-door.mjs). By AI agents, Wed Nov 11 2026. No macro, syntax, notation, axiom, sorry.
-/
import Derived.Test.YtlifhbfomgbiaaaGreatDoorRows
import GoSem.ClaimSeven
namespace Go.Proofs.YtlifhbfomgbiaaaGreatDoor
namespace Rows

/-- THE TIED CARD OF 'laws.FnExactNewCache'. -/
def fnExactNewCacheCard : Claim7 := { stood := { row := fnExactNewCacheRow, standIns := [], harness := (true, "e774015b41c04918bd057cdcc5c3932105e9e36dcb469f7a1bfde6d807a46c43"), looks := false }, kinds := [], alts := [], laidByText := true, laidKinds := [.data, .data, .data, .data, .pinned], laidTests := true, laidLooks := .later }
def FnExactNewCacheCardSaid : Prop := Claim7.holds Tryz.pinned (.plain (OpenSpec.ofChange fnExactNewCacheSpec)) fnExactNewCacheCard

/-- THE TIED CARD OF 'laws.FnExactNewBase'. -/
def fnExactNewBaseCard : Claim7 := { stood := { row := fnExactNewBaseRow, standIns := [], harness := (true, "e774015b41c04918bd057cdcc5c3932105e9e36dcb469f7a1bfde6d807a46c43"), looks := false }, kinds := [], alts := [], laidByText := true, laidKinds := [.data, .data, .data, .data, .pinned], laidTests := true, laidLooks := .later }
def FnExactNewBaseCardSaid : Prop := Claim7.holds Tryz.pinned (.plain (OpenSpec.ofChange fnExactNewBaseSpec)) fnExactNewBaseCard

/-- THE TIED CARD OF 'laws.FnExactBtreeOk'. -/
def fnExactBtreeOkCard : Claim7 := { stood := { row := fnExactBtreeOkRow, standIns := [], harness := (true, "e774015b41c04918bd057cdcc5c3932105e9e36dcb469f7a1bfde6d807a46c43"), looks := false }, kinds := [], alts := [], laidByText := true, laidKinds := [.data, .data, .data, .data, .pinned], laidTests := true, laidLooks := .later }
def FnExactBtreeOkCardSaid : Prop := Claim7.holds Tryz.pinned (.plain (OpenSpec.ofChange fnExactBtreeOkSpec)) fnExactBtreeOkCard

/-- THE TIED CARD OF 'laws.FnExactBtDepth'. -/
def fnExactBtDepthCard : Claim7 := { stood := { row := fnExactBtDepthRow, standIns := [], harness := (true, "e774015b41c04918bd057cdcc5c3932105e9e36dcb469f7a1bfde6d807a46c43"), looks := false }, kinds := [], alts := [], laidByText := true, laidKinds := [.data, .data, .data, .data, .pinned], laidTests := true, laidLooks := .later }
def FnExactBtDepthCardSaid : Prop := Claim7.holds Tryz.pinned (.plain (OpenSpec.ofChange fnExactBtDepthSpec)) fnExactBtDepthCard

/-- THE TIED CARD OF 'laws.FnExactBtGet'. -/
def fnExactBtGetCard : Claim7 := { stood := { row := fnExactBtGetRow, standIns := [], harness := (true, "e774015b41c04918bd057cdcc5c3932105e9e36dcb469f7a1bfde6d807a46c43"), looks := false }, kinds := [], alts := [], laidByText := true, laidKinds := [.data, .data, .data, .data, .pinned], laidTests := true, laidLooks := .later }
def FnExactBtGetCardSaid : Prop := Claim7.holds Tryz.pinned (.plain (OpenSpec.ofChange fnExactBtGetSpec)) fnExactBtGetCard

/-- THE TIED CARD OF 'laws.FnExactBtAfter'. -/
def fnExactBtAfterCard : Claim7 := { stood := { row := fnExactBtAfterRow, standIns := [], harness := (true, "e774015b41c04918bd057cdcc5c3932105e9e36dcb469f7a1bfde6d807a46c43"), looks := false }, kinds := [], alts := [], laidByText := true, laidKinds := [.data, .data, .data, .data, .pinned], laidTests := true, laidLooks := .later }
def FnExactBtAfterCardSaid : Prop := Claim7.holds Tryz.pinned (.plain (OpenSpec.ofChange fnExactBtAfterSpec)) fnExactBtAfterCard

/-- THE TIED CARD OF 'laws.FnExactBaseOk'. -/
def fnExactBaseOkCard : Claim7 := { stood := { row := fnExactBaseOkRow, standIns := [], harness := (true, "e774015b41c04918bd057cdcc5c3932105e9e36dcb469f7a1bfde6d807a46c43"), looks := false }, kinds := [], alts := [], laidByText := true, laidKinds := [.data, .data, .data, .data, .pinned], laidTests := true, laidLooks := .later }
def FnExactBaseOkCardSaid : Prop := Claim7.holds Tryz.pinned (.plain (OpenSpec.ofChange fnExactBaseOkSpec)) fnExactBaseOkCard

/-- THE TIED CARD OF 'laws.FnExactCountOf'. -/
def fnExactCountOfCard : Claim7 := { stood := { row := fnExactCountOfRow, standIns := [], harness := (true, "e774015b41c04918bd057cdcc5c3932105e9e36dcb469f7a1bfde6d807a46c43"), looks := false }, kinds := [], alts := [], laidByText := true, laidKinds := [.data, .data, .data, .data, .pinned], laidTests := true, laidLooks := .later }
def FnExactCountOfCardSaid : Prop := Claim7.holds Tryz.pinned (.plain (OpenSpec.ofChange fnExactCountOfSpec)) fnExactCountOfCard

/-- THE SECOND FORM's CARD OF 'laws.FnExactNewCache'. -/
def fnExactNewCacheUptoCard : Claim7 := { stood := { row := fnExactNewCacheUptoRow, standIns := [], harness := (true, "e774015b41c04918bd057cdcc5c3932105e9e36dcb469f7a1bfde6d807a46c43"), looks := false }, kinds := [], alts := [], laidByText := true, laidKinds := [.data, .data, .data, .data, .pinned], laidTests := true, laidLooks := .later }
def FnExactNewCacheUptoCardSaid : Prop := Claim7.holds Tryz.pinned (.plain (OpenSpec.upto fnExactNewCacheSpec)) fnExactNewCacheUptoCard

/-- THE SECOND FORM's CARD OF 'laws.FnExactNewBase'. -/
def fnExactNewBaseUptoCard : Claim7 := { stood := { row := fnExactNewBaseUptoRow, standIns := [], harness := (true, "e774015b41c04918bd057cdcc5c3932105e9e36dcb469f7a1bfde6d807a46c43"), looks := false }, kinds := [], alts := [], laidByText := true, laidKinds := [.data, .data, .data, .data, .pinned], laidTests := true, laidLooks := .later }
def FnExactNewBaseUptoCardSaid : Prop := Claim7.holds Tryz.pinned (.plain (OpenSpec.upto fnExactNewBaseSpec)) fnExactNewBaseUptoCard

/-- THE SECOND FORM's CARD OF 'laws.FnExactBtreeOk'. -/
def fnExactBtreeOkUptoCard : Claim7 := { stood := { row := fnExactBtreeOkUptoRow, standIns := [], harness := (true, "e774015b41c04918bd057cdcc5c3932105e9e36dcb469f7a1bfde6d807a46c43"), looks := false }, kinds := [], alts := [], laidByText := true, laidKinds := [.data, .data, .data, .data, .pinned], laidTests := true, laidLooks := .later }
def FnExactBtreeOkUptoCardSaid : Prop := Claim7.holds Tryz.pinned (.plain (OpenSpec.upto fnExactBtreeOkSpec)) fnExactBtreeOkUptoCard

/-- THE SECOND FORM's CARD OF 'laws.FnExactBtDepth'. -/
def fnExactBtDepthUptoCard : Claim7 := { stood := { row := fnExactBtDepthUptoRow, standIns := [], harness := (true, "e774015b41c04918bd057cdcc5c3932105e9e36dcb469f7a1bfde6d807a46c43"), looks := false }, kinds := [], alts := [], laidByText := true, laidKinds := [.data, .data, .data, .data, .pinned], laidTests := true, laidLooks := .later }
def FnExactBtDepthUptoCardSaid : Prop := Claim7.holds Tryz.pinned (.plain (OpenSpec.upto fnExactBtDepthSpec)) fnExactBtDepthUptoCard

/-- THE SECOND FORM's CARD OF 'laws.FnExactBtGet'. -/
def fnExactBtGetUptoCard : Claim7 := { stood := { row := fnExactBtGetUptoRow, standIns := [], harness := (true, "e774015b41c04918bd057cdcc5c3932105e9e36dcb469f7a1bfde6d807a46c43"), looks := false }, kinds := [], alts := [], laidByText := true, laidKinds := [.data, .data, .data, .data, .pinned], laidTests := true, laidLooks := .later }
def FnExactBtGetUptoCardSaid : Prop := Claim7.holds Tryz.pinned (.plain (OpenSpec.upto fnExactBtGetSpec)) fnExactBtGetUptoCard

/-- THE SECOND FORM's CARD OF 'laws.FnExactBtAfter'. -/
def fnExactBtAfterUptoCard : Claim7 := { stood := { row := fnExactBtAfterUptoRow, standIns := [], harness := (true, "e774015b41c04918bd057cdcc5c3932105e9e36dcb469f7a1bfde6d807a46c43"), looks := false }, kinds := [], alts := [], laidByText := true, laidKinds := [.data, .data, .data, .data, .pinned], laidTests := true, laidLooks := .later }
def FnExactBtAfterUptoCardSaid : Prop := Claim7.holds Tryz.pinned (.plain (OpenSpec.upto fnExactBtAfterSpec)) fnExactBtAfterUptoCard

/-- THE SECOND FORM's CARD OF 'laws.FnExactBaseOk'. -/
def fnExactBaseOkUptoCard : Claim7 := { stood := { row := fnExactBaseOkUptoRow, standIns := [], harness := (true, "e774015b41c04918bd057cdcc5c3932105e9e36dcb469f7a1bfde6d807a46c43"), looks := false }, kinds := [], alts := [], laidByText := true, laidKinds := [.data, .data, .data, .data, .pinned], laidTests := true, laidLooks := .later }
def FnExactBaseOkUptoCardSaid : Prop := Claim7.holds Tryz.pinned (.plain (OpenSpec.upto fnExactBaseOkSpec)) fnExactBaseOkUptoCard

/-- THE SECOND FORM's CARD OF 'laws.FnExactCountOf'. -/
def fnExactCountOfUptoCard : Claim7 := { stood := { row := fnExactCountOfUptoRow, standIns := [], harness := (true, "e774015b41c04918bd057cdcc5c3932105e9e36dcb469f7a1bfde6d807a46c43"), looks := false }, kinds := [], alts := [], laidByText := true, laidKinds := [.data, .data, .data, .data, .pinned], laidTests := true, laidLooks := .later }
def FnExactCountOfUptoCardSaid : Prop := Claim7.holds Tryz.pinned (.plain (OpenSpec.upto fnExactCountOfSpec)) fnExactCountOfUptoCard
end Rows
end Go.Proofs.YtlifhbfomgbiaaaGreatDoor
