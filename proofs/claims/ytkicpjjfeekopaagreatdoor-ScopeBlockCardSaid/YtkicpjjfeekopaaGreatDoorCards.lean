/-
  DERIVED. GIVEN WITH THE SEED: THE CARDS: each row of YtkicpjjfeekopaaGreatDoorRows.lean that lists a variable, with what it lists TIED to the program's text (the seventh form; the later family's looks); each row that meets fmt, with fmt's text TOLD by the authors' own Lean function (tested against real Go, not proved from fmt's source: count such statements apart). THE CARD IS WHAT COUNTS. Prove the row's statement (the work); the ties are given (YtkicpjjfeekopaaGreatDoorTie.lean); close each card by the builder's one call (the guide's Derived/Test/ToyasCard.lean, 'card_holds'). Laid BY PROGRAM, IN A SANDBOX (cutbox-door.mjs). By AI agents, Wed Nov 11 2026. No macro, syntax, notation, axiom, sorry.
-/
import Derived.Test.YtkicpjjfeekopaaGreatDoorRows
import GoSem.ClaimSeven
namespace Go.Proofs.YtkicpjjfeekopaaGreatDoor
namespace Rows

/-- THE TIED CARD OF 'glossatorlaw20.ScopeBlock'. -/
def scopeBlockCard : Claim7 := { stood := { row := scopeBlockRow, standIns := [], harness := (true, "0f92bb384a41c1f40029ae77caad548a3b2bf8bcb4f43a159ccf4e305d785dd5"), looks := false }, kinds := [], alts := [], laidByText := true, laidKinds := [.data, .pinned], laidTests := true, laidLooks := .later }
def ScopeBlockCardSaid : Prop := Claim7.holds Tryz.pinned (.plain (OpenSpec.ofChange scopeBlockSpec)) scopeBlockCard

/-- THE TIED CARD OF 'glossatorlaw20.ScopeShows'. -/
def scopeShowsCard : Claim7 := { stood := { row := scopeShowsRow, standIns := [], harness := (true, "0f92bb384a41c1f40029ae77caad548a3b2bf8bcb4f43a159ccf4e305d785dd5"), looks := false }, kinds := [], alts := [], laidByText := true, laidKinds := [.data, .pinned], laidTests := true, laidLooks := .later }
def ScopeShowsCardSaid : Prop := Claim7.holds Tryz.pinned (.plain (OpenSpec.ofChange scopeShowsSpec)) scopeShowsCard

/-- THE TIED CARD OF 'glossatorlaw20.ScopeNames'. -/
def scopeNamesCard : Claim7 := { stood := { row := scopeNamesRow, standIns := [], harness := (true, "0f92bb384a41c1f40029ae77caad548a3b2bf8bcb4f43a159ccf4e305d785dd5"), looks := false }, kinds := [], alts := [], laidByText := true, laidKinds := [.data, .pinned], laidTests := true, laidLooks := .later }
def ScopeNamesCardSaid : Prop := Claim7.holds Tryz.pinned (.plain (OpenSpec.ofChange scopeNamesSpec)) scopeNamesCard

/-- THE TIED CARD OF 'glossatorlaw22.ClassifyAll'. -/
def classifyAllCard : Claim7 := { stood := { row := classifyAllRow, standIns := [], harness := (true, "0f92bb384a41c1f40029ae77caad548a3b2bf8bcb4f43a159ccf4e305d785dd5"), looks := false }, kinds := [], alts := [], laidByText := true, laidKinds := [.data, .data, .pinned], laidTests := true, laidLooks := .later }
def ClassifyAllCardSaid : Prop := Claim7.holds Tryz.pinned (.plain (OpenSpec.ofChange classifyAllSpec)) classifyAllCard

/-- THE TIED CARD OF 'glossatorlaw22.ClassifyTurned'. -/
def classifyTurnedCard : Claim7 := { stood := { row := classifyTurnedRow, standIns := [], harness := (true, "0f92bb384a41c1f40029ae77caad548a3b2bf8bcb4f43a159ccf4e305d785dd5"), looks := false }, kinds := [], alts := [], laidByText := true, laidKinds := [.data, .data, .pinned], laidTests := true, laidLooks := .later }
def ClassifyTurnedCardSaid : Prop := Claim7.holds Tryz.pinned (.plain (OpenSpec.ofChange classifyTurnedSpec)) classifyTurnedCard

/-- THE TIED CARD OF 'glossatorlaw21.AttrsAnew'. -/
def attrsAnewCard : Claim7 := { stood := { row := attrsAnewRow, standIns := [], harness := (true, "0f92bb384a41c1f40029ae77caad548a3b2bf8bcb4f43a159ccf4e305d785dd5"), looks := false }, kinds := [], alts := [], laidByText := true, laidKinds := [.data, .pinned], laidTests := true, laidLooks := .later }
def AttrsAnewCardSaid : Prop := Claim7.holds Tryz.pinned (.plain (OpenSpec.ofChange attrsAnewSpec)) attrsAnewCard

/-- THE TIED CARD OF 'glossatorlaw21.AttrsKeep'. -/
def attrsKeepCard : Claim7 := { stood := { row := attrsKeepRow, standIns := [], harness := (true, "0f92bb384a41c1f40029ae77caad548a3b2bf8bcb4f43a159ccf4e305d785dd5"), looks := false }, kinds := [], alts := [], laidByText := true, laidKinds := [.data, .pinned], laidTests := true, laidLooks := .later }
def AttrsKeepCardSaid : Prop := Claim7.holds Tryz.pinned (.plain (OpenSpec.ofChange attrsKeepSpec)) attrsKeepCard

/-- THE TIED CARD OF 'glossatorlaw26.FoldsRise'. -/
def foldsRiseCard : Claim7 := { stood := { row := foldsRiseRow, standIns := [], harness := (true, "0f92bb384a41c1f40029ae77caad548a3b2bf8bcb4f43a159ccf4e305d785dd5"), looks := false }, kinds := [], alts := [], laidByText := true, laidKinds := [.data, .pinned], laidTests := true, laidLooks := .later }
def FoldsRiseCardSaid : Prop := Claim7.holds Tryz.pinned (.plain (OpenSpec.ofChange foldsRiseSpec)) foldsRiseCard

/-- THE TIED CARD OF 'glossatorlaw27.ChainsRanges'. -/
def chainsRangesCard : Claim7 := { stood := { row := chainsRangesRow, standIns := [], harness := (true, "0f92bb384a41c1f40029ae77caad548a3b2bf8bcb4f43a159ccf4e305d785dd5"), looks := false }, kinds := [], alts := [], laidByText := true, laidKinds := [.data, .pinned], laidTests := true, laidLooks := .later }
def ChainsRangesCardSaid : Prop := Claim7.holds Tryz.pinned (.plain (OpenSpec.ofChange chainsRangesSpec)) chainsRangesCard

/-- THE TIED CARD OF 'glossatorlaw26.FoldsJust'. -/
def foldsJustCard : Claim7 := { stood := { row := foldsJustRow, standIns := [], harness := (true, "0f92bb384a41c1f40029ae77caad548a3b2bf8bcb4f43a159ccf4e305d785dd5"), looks := false }, kinds := [], alts := [], laidByText := true, laidKinds := [.data, .pinned], laidTests := true, laidLooks := .later }
def FoldsJustCardSaid : Prop := Claim7.holds Tryz.pinned (.plain (OpenSpec.ofChange foldsJustSpec)) foldsJustCard

/-- THE TIED CARD OF 'glossatorlaw27.ChainsLeaves'. -/
def chainsLeavesCard : Claim7 := { stood := { row := chainsLeavesRow, standIns := [], harness := (true, "0f92bb384a41c1f40029ae77caad548a3b2bf8bcb4f43a159ccf4e305d785dd5"), looks := false }, kinds := [], alts := [], laidByText := true, laidKinds := [.data, .pinned], laidTests := true, laidLooks := .later }
def ChainsLeavesCardSaid : Prop := Claim7.holds Tryz.pinned (.plain (OpenSpec.ofChange chainsLeavesSpec)) chainsLeavesCard

/-- THE TIED CARD OF 'glossatorlaw27.ChainsWithin'. -/
def chainsWithinCard : Claim7 := { stood := { row := chainsWithinRow, standIns := [], harness := (true, "0f92bb384a41c1f40029ae77caad548a3b2bf8bcb4f43a159ccf4e305d785dd5"), looks := false }, kinds := [], alts := [], laidByText := true, laidKinds := [.data, .pinned], laidTests := true, laidLooks := .later }
def ChainsWithinCardSaid : Prop := Claim7.holds Tryz.pinned (.plain (OpenSpec.ofChange chainsWithinSpec)) chainsWithinCard

/-- THE SECOND FORM's CARD OF 'glossatorlaw20.ScopeBlock'. -/
def scopeBlockUptoCard : Claim7 := { stood := { row := scopeBlockUptoRow, standIns := [], harness := (true, "0f92bb384a41c1f40029ae77caad548a3b2bf8bcb4f43a159ccf4e305d785dd5"), looks := false }, kinds := [], alts := [], laidByText := true, laidKinds := [.data, .pinned], laidTests := true, laidLooks := .later }
def ScopeBlockUptoCardSaid : Prop := Claim7.holds Tryz.pinned (.plain (OpenSpec.upto scopeBlockSpec)) scopeBlockUptoCard

/-- THE SECOND FORM's CARD OF 'glossatorlaw20.ScopeShows'. -/
def scopeShowsUptoCard : Claim7 := { stood := { row := scopeShowsUptoRow, standIns := [], harness := (true, "0f92bb384a41c1f40029ae77caad548a3b2bf8bcb4f43a159ccf4e305d785dd5"), looks := false }, kinds := [], alts := [], laidByText := true, laidKinds := [.data, .pinned], laidTests := true, laidLooks := .later }
def ScopeShowsUptoCardSaid : Prop := Claim7.holds Tryz.pinned (.plain (OpenSpec.upto scopeShowsSpec)) scopeShowsUptoCard

/-- THE SECOND FORM's CARD OF 'glossatorlaw20.ScopeNames'. -/
def scopeNamesUptoCard : Claim7 := { stood := { row := scopeNamesUptoRow, standIns := [], harness := (true, "0f92bb384a41c1f40029ae77caad548a3b2bf8bcb4f43a159ccf4e305d785dd5"), looks := false }, kinds := [], alts := [], laidByText := true, laidKinds := [.data, .pinned], laidTests := true, laidLooks := .later }
def ScopeNamesUptoCardSaid : Prop := Claim7.holds Tryz.pinned (.plain (OpenSpec.upto scopeNamesSpec)) scopeNamesUptoCard

/-- THE SECOND FORM's CARD OF 'glossatorlaw22.ClassifyAll'. -/
def classifyAllUptoCard : Claim7 := { stood := { row := classifyAllUptoRow, standIns := [], harness := (true, "0f92bb384a41c1f40029ae77caad548a3b2bf8bcb4f43a159ccf4e305d785dd5"), looks := false }, kinds := [], alts := [], laidByText := true, laidKinds := [.data, .data, .pinned], laidTests := true, laidLooks := .later }
def ClassifyAllUptoCardSaid : Prop := Claim7.holds Tryz.pinned (.plain (OpenSpec.upto classifyAllSpec)) classifyAllUptoCard

/-- THE SECOND FORM's CARD OF 'glossatorlaw22.ClassifyTurned'. -/
def classifyTurnedUptoCard : Claim7 := { stood := { row := classifyTurnedUptoRow, standIns := [], harness := (true, "0f92bb384a41c1f40029ae77caad548a3b2bf8bcb4f43a159ccf4e305d785dd5"), looks := false }, kinds := [], alts := [], laidByText := true, laidKinds := [.data, .data, .pinned], laidTests := true, laidLooks := .later }
def ClassifyTurnedUptoCardSaid : Prop := Claim7.holds Tryz.pinned (.plain (OpenSpec.upto classifyTurnedSpec)) classifyTurnedUptoCard

/-- THE SECOND FORM's CARD OF 'glossatorlaw21.AttrsAnew'. -/
def attrsAnewUptoCard : Claim7 := { stood := { row := attrsAnewUptoRow, standIns := [], harness := (true, "0f92bb384a41c1f40029ae77caad548a3b2bf8bcb4f43a159ccf4e305d785dd5"), looks := false }, kinds := [], alts := [], laidByText := true, laidKinds := [.data, .pinned], laidTests := true, laidLooks := .later }
def AttrsAnewUptoCardSaid : Prop := Claim7.holds Tryz.pinned (.plain (OpenSpec.upto attrsAnewSpec)) attrsAnewUptoCard

/-- THE SECOND FORM's CARD OF 'glossatorlaw21.AttrsKeep'. -/
def attrsKeepUptoCard : Claim7 := { stood := { row := attrsKeepUptoRow, standIns := [], harness := (true, "0f92bb384a41c1f40029ae77caad548a3b2bf8bcb4f43a159ccf4e305d785dd5"), looks := false }, kinds := [], alts := [], laidByText := true, laidKinds := [.data, .pinned], laidTests := true, laidLooks := .later }
def AttrsKeepUptoCardSaid : Prop := Claim7.holds Tryz.pinned (.plain (OpenSpec.upto attrsKeepSpec)) attrsKeepUptoCard

/-- THE SECOND FORM's CARD OF 'glossatorlaw26.FoldsRise'. -/
def foldsRiseUptoCard : Claim7 := { stood := { row := foldsRiseUptoRow, standIns := [], harness := (true, "0f92bb384a41c1f40029ae77caad548a3b2bf8bcb4f43a159ccf4e305d785dd5"), looks := false }, kinds := [], alts := [], laidByText := true, laidKinds := [.data, .pinned], laidTests := true, laidLooks := .later }
def FoldsRiseUptoCardSaid : Prop := Claim7.holds Tryz.pinned (.plain (OpenSpec.upto foldsRiseSpec)) foldsRiseUptoCard

/-- THE SECOND FORM's CARD OF 'glossatorlaw27.ChainsRanges'. -/
def chainsRangesUptoCard : Claim7 := { stood := { row := chainsRangesUptoRow, standIns := [], harness := (true, "0f92bb384a41c1f40029ae77caad548a3b2bf8bcb4f43a159ccf4e305d785dd5"), looks := false }, kinds := [], alts := [], laidByText := true, laidKinds := [.data, .pinned], laidTests := true, laidLooks := .later }
def ChainsRangesUptoCardSaid : Prop := Claim7.holds Tryz.pinned (.plain (OpenSpec.upto chainsRangesSpec)) chainsRangesUptoCard

/-- THE SECOND FORM's CARD OF 'glossatorlaw26.FoldsJust'. -/
def foldsJustUptoCard : Claim7 := { stood := { row := foldsJustUptoRow, standIns := [], harness := (true, "0f92bb384a41c1f40029ae77caad548a3b2bf8bcb4f43a159ccf4e305d785dd5"), looks := false }, kinds := [], alts := [], laidByText := true, laidKinds := [.data, .pinned], laidTests := true, laidLooks := .later }
def FoldsJustUptoCardSaid : Prop := Claim7.holds Tryz.pinned (.plain (OpenSpec.upto foldsJustSpec)) foldsJustUptoCard

/-- THE SECOND FORM's CARD OF 'glossatorlaw27.ChainsLeaves'. -/
def chainsLeavesUptoCard : Claim7 := { stood := { row := chainsLeavesUptoRow, standIns := [], harness := (true, "0f92bb384a41c1f40029ae77caad548a3b2bf8bcb4f43a159ccf4e305d785dd5"), looks := false }, kinds := [], alts := [], laidByText := true, laidKinds := [.data, .pinned], laidTests := true, laidLooks := .later }
def ChainsLeavesUptoCardSaid : Prop := Claim7.holds Tryz.pinned (.plain (OpenSpec.upto chainsLeavesSpec)) chainsLeavesUptoCard

/-- THE SECOND FORM's CARD OF 'glossatorlaw27.ChainsWithin'. -/
def chainsWithinUptoCard : Claim7 := { stood := { row := chainsWithinUptoRow, standIns := [], harness := (true, "0f92bb384a41c1f40029ae77caad548a3b2bf8bcb4f43a159ccf4e305d785dd5"), looks := false }, kinds := [], alts := [], laidByText := true, laidKinds := [.data, .pinned], laidTests := true, laidLooks := .later }
def ChainsWithinUptoCardSaid : Prop := Claim7.holds Tryz.pinned (.plain (OpenSpec.upto chainsWithinSpec)) chainsWithinUptoCard
end Rows
end Go.Proofs.YtkicpjjfeekopaaGreatDoor
