/-
  DERIVED. GIVEN WITH THE SEED: THE CARDS: each row of YtkogdnkifnhljaaDoorRows.lean that lists a variable, with what it lists TIED to the program's text (the seventh form; the later family's looks); each row that meets fmt, with fmt's text TOLD by the authors' own Lean function (tested against real Go, not proved from fmt's source: count such statements apart). THE CARD IS WHAT COUNTS. Prove the row's statement (the work); the ties are given (YtkogdnkifnhljaaDoorTie.lean); close each card by the builder's one call (the guide's Derived/Test/ToyasCard.lean, 'card_holds'). Laid BY PROGRAM, IN A SANDBOX (cutbox-door.mjs). By AI agents, Wed Nov 11 2026. No macro, syntax, notation, axiom, sorry.
-/
import Derived.Test.YtkogdnkifnhljaaDoorRows
import GoSem.ClaimSeven
namespace Go.Proofs.YtkogdnkifnhljaaDoor
namespace Rows

/-- THE TIED CARD OF 'aviarykeep.PathChain'. -/
def pathChainCard : Claim7 := { stood := { row := pathChainRow, standIns := [], harness := (true, "929890378ba8df8584fbad66bfde667e4762cb6ad65b6be42fb1a0eada6d8f12"), looks := false }, kinds := [], alts := [], laidByText := true, laidKinds := [.data, .pinned], laidTests := true, laidLooks := .later }
def PathChainCardSaid : Prop := Claim7.holds Tryd.pinned (.plain (OpenSpec.ofChange pathChainSpec)) pathChainCard

/-- THE TIED CARD OF 'aviarykeep.PathApart'. -/
def pathApartCard : Claim7 := { stood := { row := pathApartRow, standIns := [], harness := (true, "929890378ba8df8584fbad66bfde667e4762cb6ad65b6be42fb1a0eada6d8f12"), looks := false }, kinds := [], alts := [], laidByText := true, laidKinds := [.data, .pinned], laidTests := true, laidLooks := .later }
def PathApartCardSaid : Prop := Claim7.holds Tryd.pinned (.plain (OpenSpec.ofChange pathApartSpec)) pathApartCard

/-- THE TIED CARD OF 'aviarykeep.PathJoined'. -/
def pathJoinedCard : Claim7 := { stood := { row := pathJoinedRow, standIns := [], harness := (true, "929890378ba8df8584fbad66bfde667e4762cb6ad65b6be42fb1a0eada6d8f12"), looks := false }, kinds := [], alts := [], laidByText := true, laidKinds := [.data, .pinned], laidTests := true, laidLooks := .later }
def PathJoinedCardSaid : Prop := Claim7.holds Tryd.pinned (.plain (OpenSpec.ofChange pathJoinedSpec)) pathJoinedCard

/-- THE TIED CARD OF 'aviarykeep.WatchAdded'. -/
def watchAddedCard : Claim7 := { stood := { row := watchAddedRow, standIns := [], harness := (true, "929890378ba8df8584fbad66bfde667e4762cb6ad65b6be42fb1a0eada6d8f12"), looks := false }, kinds := [], alts := [], laidByText := true, laidKinds := [.data, .pinned], laidTests := true, laidLooks := .later }
def WatchAddedCardSaid : Prop := Claim7.holds Tryd.pinned (.plain (OpenSpec.ofChange watchAddedSpec)) watchAddedCard

/-- THE TIED CARD OF 'aviarykeep.WireBack'. -/
def wireBackCard : Claim7 := { stood := { row := wireBackRow, standIns := [], harness := (true, "929890378ba8df8584fbad66bfde667e4762cb6ad65b6be42fb1a0eada6d8f12"), looks := false }, kinds := [], alts := [], laidByText := true, laidKinds := [.data, .pinned], laidTests := true, laidLooks := .later }
def WireBackCardSaid : Prop := Claim7.holds Tryd.pinned (.plain (OpenSpec.ofChange wireBackSpec)) wireBackCard

/-- THE TIED CARD OF 'aviarykeep.WireOnly'. -/
def wireOnlyCard : Claim7 := { stood := { row := wireOnlyRow, standIns := [], harness := (true, "929890378ba8df8584fbad66bfde667e4762cb6ad65b6be42fb1a0eada6d8f12"), looks := false }, kinds := [], alts := [], laidByText := true, laidKinds := [.data, .pinned], laidTests := true, laidLooks := .later }
def WireOnlyCardSaid : Prop := Claim7.holds Tryd.pinned (.plain (OpenSpec.ofChange wireOnlySpec)) wireOnlyCard

/-- THE TIED CARD OF 'aviarykeep.WireCut'. -/
def wireCutCard : Claim7 := { stood := { row := wireCutRow, standIns := [], harness := (true, "929890378ba8df8584fbad66bfde667e4762cb6ad65b6be42fb1a0eada6d8f12"), looks := false }, kinds := [], alts := [], laidByText := true, laidKinds := [.data, .pinned], laidTests := true, laidLooks := .later }
def WireCutCardSaid : Prop := Claim7.holds Tryd.pinned (.plain (OpenSpec.ofChange wireCutSpec)) wireCutCard

/-- THE TIED CARD OF 'aviarykeep.WireTurned'. -/
def wireTurnedCard : Claim7 := { stood := { row := wireTurnedRow, standIns := [], harness := (true, "929890378ba8df8584fbad66bfde667e4762cb6ad65b6be42fb1a0eada6d8f12"), looks := false }, kinds := [], alts := [], laidByText := true, laidKinds := [.data, .pinned], laidTests := true, laidLooks := .later }
def WireTurnedCardSaid : Prop := Claim7.holds Tryd.pinned (.plain (OpenSpec.ofChange wireTurnedSpec)) wireTurnedCard

/-- THE TIED CARD OF 'aviarykeep.ZxidBack'. -/
def zxidBackCard : Claim7 := { stood := { row := zxidBackRow, standIns := [], harness := (true, "929890378ba8df8584fbad66bfde667e4762cb6ad65b6be42fb1a0eada6d8f12"), looks := false }, kinds := [], alts := [], laidByText := true, laidKinds := [.data, .data, .data], laidTests := true, laidLooks := .later }
def ZxidBackCardSaid : Prop := Claim7.holds Tryd.pinned (.plain (OpenSpec.ofChange zxidBackSpec)) zxidBackCard

/-- THE TIED CARD OF 'aviarykeep.ZxidOnly'. -/
def zxidOnlyCard : Claim7 := { stood := { row := zxidOnlyRow, standIns := [], harness := (true, "929890378ba8df8584fbad66bfde667e4762cb6ad65b6be42fb1a0eada6d8f12"), looks := false }, kinds := [], alts := [], laidByText := true, laidKinds := [.data, .data, .data], laidTests := true, laidLooks := .later }
def ZxidOnlyCardSaid : Prop := Claim7.holds Tryd.pinned (.plain (OpenSpec.ofChange zxidOnlySpec)) zxidOnlyCard

/-- THE SECOND FORM's CARD OF 'aviarykeep.PathChain'. -/
def pathChainUptoCard : Claim7 := { stood := { row := pathChainUptoRow, standIns := [], harness := (true, "929890378ba8df8584fbad66bfde667e4762cb6ad65b6be42fb1a0eada6d8f12"), looks := false }, kinds := [], alts := [], laidByText := true, laidKinds := [.data, .pinned], laidTests := true, laidLooks := .later }
def PathChainUptoCardSaid : Prop := Claim7.holds Tryd.pinned (.plain (OpenSpec.upto pathChainSpec)) pathChainUptoCard

/-- THE SECOND FORM's CARD OF 'aviarykeep.PathApart'. -/
def pathApartUptoCard : Claim7 := { stood := { row := pathApartUptoRow, standIns := [], harness := (true, "929890378ba8df8584fbad66bfde667e4762cb6ad65b6be42fb1a0eada6d8f12"), looks := false }, kinds := [], alts := [], laidByText := true, laidKinds := [.data, .pinned], laidTests := true, laidLooks := .later }
def PathApartUptoCardSaid : Prop := Claim7.holds Tryd.pinned (.plain (OpenSpec.upto pathApartSpec)) pathApartUptoCard

/-- THE SECOND FORM's CARD OF 'aviarykeep.PathJoined'. -/
def pathJoinedUptoCard : Claim7 := { stood := { row := pathJoinedUptoRow, standIns := [], harness := (true, "929890378ba8df8584fbad66bfde667e4762cb6ad65b6be42fb1a0eada6d8f12"), looks := false }, kinds := [], alts := [], laidByText := true, laidKinds := [.data, .pinned], laidTests := true, laidLooks := .later }
def PathJoinedUptoCardSaid : Prop := Claim7.holds Tryd.pinned (.plain (OpenSpec.upto pathJoinedSpec)) pathJoinedUptoCard

/-- THE SECOND FORM's CARD OF 'aviarykeep.WatchAdded'. -/
def watchAddedUptoCard : Claim7 := { stood := { row := watchAddedUptoRow, standIns := [], harness := (true, "929890378ba8df8584fbad66bfde667e4762cb6ad65b6be42fb1a0eada6d8f12"), looks := false }, kinds := [], alts := [], laidByText := true, laidKinds := [.data, .pinned], laidTests := true, laidLooks := .later }
def WatchAddedUptoCardSaid : Prop := Claim7.holds Tryd.pinned (.plain (OpenSpec.upto watchAddedSpec)) watchAddedUptoCard

/-- THE SECOND FORM's CARD OF 'aviarykeep.WireBack'. -/
def wireBackUptoCard : Claim7 := { stood := { row := wireBackUptoRow, standIns := [], harness := (true, "929890378ba8df8584fbad66bfde667e4762cb6ad65b6be42fb1a0eada6d8f12"), looks := false }, kinds := [], alts := [], laidByText := true, laidKinds := [.data, .pinned], laidTests := true, laidLooks := .later }
def WireBackUptoCardSaid : Prop := Claim7.holds Tryd.pinned (.plain (OpenSpec.upto wireBackSpec)) wireBackUptoCard

/-- THE SECOND FORM's CARD OF 'aviarykeep.WireOnly'. -/
def wireOnlyUptoCard : Claim7 := { stood := { row := wireOnlyUptoRow, standIns := [], harness := (true, "929890378ba8df8584fbad66bfde667e4762cb6ad65b6be42fb1a0eada6d8f12"), looks := false }, kinds := [], alts := [], laidByText := true, laidKinds := [.data, .pinned], laidTests := true, laidLooks := .later }
def WireOnlyUptoCardSaid : Prop := Claim7.holds Tryd.pinned (.plain (OpenSpec.upto wireOnlySpec)) wireOnlyUptoCard

/-- THE SECOND FORM's CARD OF 'aviarykeep.WireCut'. -/
def wireCutUptoCard : Claim7 := { stood := { row := wireCutUptoRow, standIns := [], harness := (true, "929890378ba8df8584fbad66bfde667e4762cb6ad65b6be42fb1a0eada6d8f12"), looks := false }, kinds := [], alts := [], laidByText := true, laidKinds := [.data, .pinned], laidTests := true, laidLooks := .later }
def WireCutUptoCardSaid : Prop := Claim7.holds Tryd.pinned (.plain (OpenSpec.upto wireCutSpec)) wireCutUptoCard

/-- THE SECOND FORM's CARD OF 'aviarykeep.WireTurned'. -/
def wireTurnedUptoCard : Claim7 := { stood := { row := wireTurnedUptoRow, standIns := [], harness := (true, "929890378ba8df8584fbad66bfde667e4762cb6ad65b6be42fb1a0eada6d8f12"), looks := false }, kinds := [], alts := [], laidByText := true, laidKinds := [.data, .pinned], laidTests := true, laidLooks := .later }
def WireTurnedUptoCardSaid : Prop := Claim7.holds Tryd.pinned (.plain (OpenSpec.upto wireTurnedSpec)) wireTurnedUptoCard

/-- THE SECOND FORM's CARD OF 'aviarykeep.ZxidBack'. -/
def zxidBackUptoCard : Claim7 := { stood := { row := zxidBackUptoRow, standIns := [], harness := (true, "929890378ba8df8584fbad66bfde667e4762cb6ad65b6be42fb1a0eada6d8f12"), looks := false }, kinds := [], alts := [], laidByText := true, laidKinds := [.data, .data, .data], laidTests := true, laidLooks := .later }
def ZxidBackUptoCardSaid : Prop := Claim7.holds Tryd.pinned (.plain (OpenSpec.upto zxidBackSpec)) zxidBackUptoCard

/-- THE SECOND FORM's CARD OF 'aviarykeep.ZxidOnly'. -/
def zxidOnlyUptoCard : Claim7 := { stood := { row := zxidOnlyUptoRow, standIns := [], harness := (true, "929890378ba8df8584fbad66bfde667e4762cb6ad65b6be42fb1a0eada6d8f12"), looks := false }, kinds := [], alts := [], laidByText := true, laidKinds := [.data, .data, .data], laidTests := true, laidLooks := .later }
def ZxidOnlyUptoCardSaid : Prop := Claim7.holds Tryd.pinned (.plain (OpenSpec.upto zxidOnlySpec)) zxidOnlyUptoCard
end Rows
end Go.Proofs.YtkogdnkifnhljaaDoor
