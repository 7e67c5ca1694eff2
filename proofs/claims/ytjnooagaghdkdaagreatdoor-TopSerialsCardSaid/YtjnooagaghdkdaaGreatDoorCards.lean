/-
  DERIVED. GIVEN WITH THE SEED: THE CARDS: each row of YtjnooagaghdkdaaGreatDoorRows.lean that lists a variable, with what it lists TIED to the program's text (the seventh form; the later family's looks); each row that meets fmt, with fmt's text TOLD by the authors' own Lean function (tested against real Go, not proved from fmt's source: count such statements apart). THE CARD IS WHAT COUNTS. Prove the row's statement (the work); the ties are given (YtjnooagaghdkdaaGreatDoorTie.lean); close each card by the builder's one call (the guide's Derived/Test/ToyasCard.lean, 'card_holds'). Laid BY PROGRAM, IN A SANDBOX (cutbox-door.mjs). By AI agents, Wed Nov 11 2026. No macro, syntax, notation, axiom, sorry.
-/
import Derived.Test.YtjnooagaghdkdaaGreatDoorRows
import GoSem.ClaimSeven
namespace Go.Proofs.YtjnooagaghdkdaaGreatDoor
namespace Rows

/-- THE TIED CARD OF 'aviarytop.TopLost'. -/
def topLostCard : Claim7 := { stood := { row := topLostRow, standIns := [], harness := (true, "2e5495d83f121ef7542e39d45b77b57932dfe09b9c5aba6cb353b823cd21b824"), looks := false }, kinds := [], alts := [], laidByText := true, laidKinds := [.data, .data, .data, .data, .pinned], laidTests := true, laidLooks := .later }
def TopLostCardSaid : Prop := Claim7.holds Tryz.pinned (.plain (OpenSpec.ofChange topLostSpec)) topLostCard

/-- THE TIED CARD OF 'aviarytop.TopSerials'. -/
def topSerialsCard : Claim7 := { stood := { row := topSerialsRow, standIns := [], harness := (true, "2e5495d83f121ef7542e39d45b77b57932dfe09b9c5aba6cb353b823cd21b824"), looks := false }, kinds := [], alts := [], laidByText := true, laidKinds := [.data, .data, .data, .data, .pinned], laidTests := true, laidLooks := .later }
def TopSerialsCardSaid : Prop := Claim7.holds Tryz.pinned (.plain (OpenSpec.ofChange topSerialsSpec)) topSerialsCard

/-- THE TIED CARD OF 'aviarytop.TopSeen'. -/
def topSeenCard : Claim7 := { stood := { row := topSeenRow, standIns := [], harness := (true, "2e5495d83f121ef7542e39d45b77b57932dfe09b9c5aba6cb353b823cd21b824"), looks := false }, kinds := [], alts := [], laidByText := true, laidKinds := [.data, .data, .data, .data, .pinned], laidTests := true, laidLooks := .later }
def TopSeenCardSaid : Prop := Claim7.holds Tryz.pinned (.plain (OpenSpec.ofChange topSeenSpec)) topSeenCard

/-- THE TIED CARD OF 'aviarytop.TopRuns'. -/
def topRunsCard : Claim7 := { stood := { row := topRunsRow, standIns := [], harness := (true, "2e5495d83f121ef7542e39d45b77b57932dfe09b9c5aba6cb353b823cd21b824"), looks := false }, kinds := [], alts := [], laidByText := true, laidKinds := [.data, .data, .data, .data, .pinned], laidTests := true, laidLooks := .later }
def TopRunsCardSaid : Prop := Claim7.holds Tryz.pinned (.plain (OpenSpec.ofChange topRunsSpec)) topRunsCard

/-- THE TIED CARD OF 'aviarytop.TopOne'. -/
def topOneCard : Claim7 := { stood := { row := topOneRow, standIns := [], harness := (true, "2e5495d83f121ef7542e39d45b77b57932dfe09b9c5aba6cb353b823cd21b824"), looks := false }, kinds := [], alts := [], laidByText := true, laidKinds := [.data, .data, .data, .data, .pinned], laidTests := true, laidLooks := .later }
def TopOneCardSaid : Prop := Claim7.holds Tryz.pinned (.plain (OpenSpec.ofChange topOneSpec)) topOneCard

/-- THE TIED CARD OF 'aviarytop.TopEpochs'. -/
def topEpochsCard : Claim7 := { stood := { row := topEpochsRow, standIns := [], harness := (true, "2e5495d83f121ef7542e39d45b77b57932dfe09b9c5aba6cb353b823cd21b824"), looks := false }, kinds := [], alts := [], laidByText := true, laidKinds := [.data, .data, .data, .data, .pinned], laidTests := true, laidLooks := .later }
def TopEpochsCardSaid : Prop := Claim7.holds Tryz.pinned (.plain (OpenSpec.ofChange topEpochsSpec)) topEpochsCard

/-- THE TIED CARD OF 'aviarytop.TopOwned'. -/
def topOwnedCard : Claim7 := { stood := { row := topOwnedRow, standIns := [], harness := (true, "2e5495d83f121ef7542e39d45b77b57932dfe09b9c5aba6cb353b823cd21b824"), looks := false }, kinds := [], alts := [], laidByText := true, laidKinds := [.data, .data, .data, .data, .pinned], laidTests := true, laidLooks := .later }
def TopOwnedCardSaid : Prop := Claim7.holds Tryz.pinned (.plain (OpenSpec.ofChange topOwnedSpec)) topOwnedCard

/-- THE TIED CARD OF 'aviarytop.TopNotes'. -/
def topNotesCard : Claim7 := { stood := { row := topNotesRow, standIns := [], harness := (true, "2e5495d83f121ef7542e39d45b77b57932dfe09b9c5aba6cb353b823cd21b824"), looks := false }, kinds := [], alts := [], laidByText := true, laidKinds := [.data, .data, .data, .data, .pinned], laidTests := true, laidLooks := .later }
def TopNotesCardSaid : Prop := Claim7.holds Tryz.pinned (.plain (OpenSpec.ofChange topNotesSpec)) topNotesCard

/-- THE TIED CARD OF 'aviarytop.TopQuorum'. -/
def topQuorumCard : Claim7 := { stood := { row := topQuorumRow, standIns := [], harness := (true, "2e5495d83f121ef7542e39d45b77b57932dfe09b9c5aba6cb353b823cd21b824"), looks := false }, kinds := [], alts := [], laidByText := true, laidKinds := [.data, .data, .data, .data, .pinned], laidTests := true, laidLooks := .later }
def TopQuorumCardSaid : Prop := Claim7.holds Tryz.pinned (.plain (OpenSpec.ofChange topQuorumSpec)) topQuorumCard

/-- THE SECOND FORM's CARD OF 'aviarytop.TopLost'. -/
def topLostUptoCard : Claim7 := { stood := { row := topLostUptoRow, standIns := [], harness := (true, "2e5495d83f121ef7542e39d45b77b57932dfe09b9c5aba6cb353b823cd21b824"), looks := false }, kinds := [], alts := [], laidByText := true, laidKinds := [.data, .data, .data, .data, .pinned], laidTests := true, laidLooks := .later }
def TopLostUptoCardSaid : Prop := Claim7.holds Tryz.pinned (.plain (OpenSpec.upto topLostSpec)) topLostUptoCard

/-- THE SECOND FORM's CARD OF 'aviarytop.TopSerials'. -/
def topSerialsUptoCard : Claim7 := { stood := { row := topSerialsUptoRow, standIns := [], harness := (true, "2e5495d83f121ef7542e39d45b77b57932dfe09b9c5aba6cb353b823cd21b824"), looks := false }, kinds := [], alts := [], laidByText := true, laidKinds := [.data, .data, .data, .data, .pinned], laidTests := true, laidLooks := .later }
def TopSerialsUptoCardSaid : Prop := Claim7.holds Tryz.pinned (.plain (OpenSpec.upto topSerialsSpec)) topSerialsUptoCard

/-- THE SECOND FORM's CARD OF 'aviarytop.TopSeen'. -/
def topSeenUptoCard : Claim7 := { stood := { row := topSeenUptoRow, standIns := [], harness := (true, "2e5495d83f121ef7542e39d45b77b57932dfe09b9c5aba6cb353b823cd21b824"), looks := false }, kinds := [], alts := [], laidByText := true, laidKinds := [.data, .data, .data, .data, .pinned], laidTests := true, laidLooks := .later }
def TopSeenUptoCardSaid : Prop := Claim7.holds Tryz.pinned (.plain (OpenSpec.upto topSeenSpec)) topSeenUptoCard

/-- THE SECOND FORM's CARD OF 'aviarytop.TopRuns'. -/
def topRunsUptoCard : Claim7 := { stood := { row := topRunsUptoRow, standIns := [], harness := (true, "2e5495d83f121ef7542e39d45b77b57932dfe09b9c5aba6cb353b823cd21b824"), looks := false }, kinds := [], alts := [], laidByText := true, laidKinds := [.data, .data, .data, .data, .pinned], laidTests := true, laidLooks := .later }
def TopRunsUptoCardSaid : Prop := Claim7.holds Tryz.pinned (.plain (OpenSpec.upto topRunsSpec)) topRunsUptoCard

/-- THE SECOND FORM's CARD OF 'aviarytop.TopOne'. -/
def topOneUptoCard : Claim7 := { stood := { row := topOneUptoRow, standIns := [], harness := (true, "2e5495d83f121ef7542e39d45b77b57932dfe09b9c5aba6cb353b823cd21b824"), looks := false }, kinds := [], alts := [], laidByText := true, laidKinds := [.data, .data, .data, .data, .pinned], laidTests := true, laidLooks := .later }
def TopOneUptoCardSaid : Prop := Claim7.holds Tryz.pinned (.plain (OpenSpec.upto topOneSpec)) topOneUptoCard

/-- THE SECOND FORM's CARD OF 'aviarytop.TopEpochs'. -/
def topEpochsUptoCard : Claim7 := { stood := { row := topEpochsUptoRow, standIns := [], harness := (true, "2e5495d83f121ef7542e39d45b77b57932dfe09b9c5aba6cb353b823cd21b824"), looks := false }, kinds := [], alts := [], laidByText := true, laidKinds := [.data, .data, .data, .data, .pinned], laidTests := true, laidLooks := .later }
def TopEpochsUptoCardSaid : Prop := Claim7.holds Tryz.pinned (.plain (OpenSpec.upto topEpochsSpec)) topEpochsUptoCard

/-- THE SECOND FORM's CARD OF 'aviarytop.TopOwned'. -/
def topOwnedUptoCard : Claim7 := { stood := { row := topOwnedUptoRow, standIns := [], harness := (true, "2e5495d83f121ef7542e39d45b77b57932dfe09b9c5aba6cb353b823cd21b824"), looks := false }, kinds := [], alts := [], laidByText := true, laidKinds := [.data, .data, .data, .data, .pinned], laidTests := true, laidLooks := .later }
def TopOwnedUptoCardSaid : Prop := Claim7.holds Tryz.pinned (.plain (OpenSpec.upto topOwnedSpec)) topOwnedUptoCard

/-- THE SECOND FORM's CARD OF 'aviarytop.TopNotes'. -/
def topNotesUptoCard : Claim7 := { stood := { row := topNotesUptoRow, standIns := [], harness := (true, "2e5495d83f121ef7542e39d45b77b57932dfe09b9c5aba6cb353b823cd21b824"), looks := false }, kinds := [], alts := [], laidByText := true, laidKinds := [.data, .data, .data, .data, .pinned], laidTests := true, laidLooks := .later }
def TopNotesUptoCardSaid : Prop := Claim7.holds Tryz.pinned (.plain (OpenSpec.upto topNotesSpec)) topNotesUptoCard

/-- THE SECOND FORM's CARD OF 'aviarytop.TopQuorum'. -/
def topQuorumUptoCard : Claim7 := { stood := { row := topQuorumUptoRow, standIns := [], harness := (true, "2e5495d83f121ef7542e39d45b77b57932dfe09b9c5aba6cb353b823cd21b824"), looks := false }, kinds := [], alts := [], laidByText := true, laidKinds := [.data, .data, .data, .data, .pinned], laidTests := true, laidLooks := .later }
def TopQuorumUptoCardSaid : Prop := Claim7.holds Tryz.pinned (.plain (OpenSpec.upto topQuorumSpec)) topQuorumUptoCard
end Rows
end Go.Proofs.YtjnooagaghdkdaaGreatDoor
