/-
  DERIVED. GIVEN WITH THE SEED: THE CARDS: each row of YtkoemhdchoicaaaDoorRows.lean that lists a variable, with what it lists TIED to the program's text (the seventh form; the later family's looks); each row that meets fmt, with fmt's text TOLD by the authors' own Lean function (tested against real Go, not proved from fmt's source: count such statements apart). THE CARD IS WHAT COUNTS. Prove the row's statement (the work); the ties are given (YtkoemhdchoicaaaDoorTie.lean); close each card by the builder's one call (the guide's Derived/Test/ToyasCard.lean, 'card_holds'). Laid BY PROGRAM, IN A SANDBOX (cutbox-door.mjs). By AI agents, Wed Nov 11 2026. No macro, syntax, notation, axiom, sorry.
-/
import Derived.Test.YtkoemhdchoicaaaDoorRows
import GoSem.ClaimSeven
namespace Go.Proofs.YtkoemhdchoicaaaDoor
namespace Rows

/-- THE TIED CARD OF 'aviarykeep.StoreSafe'. -/
def storeSafeCard : Claim7 := { stood := { row := storeSafeRow, standIns := [], harness := (true, "c024c0dd4b87f9203cdab95558285be88f16f7e9b0efafe9167ee7a7f6c6d5e6"), looks := false }, kinds := [], alts := [], laidByText := true, laidKinds := [.data, .pinned], laidTests := true, laidLooks := .later }
def StoreSafeCardSaid : Prop := Claim7.holds Tryd.pinned (.plain (OpenSpec.ofChange storeSafeSpec)) storeSafeCard

/-- THE TIED CARD OF 'aviarykeep.StoreTorn'. -/
def storeTornCard : Claim7 := { stood := { row := storeTornRow, standIns := [], harness := (true, "c024c0dd4b87f9203cdab95558285be88f16f7e9b0efafe9167ee7a7f6c6d5e6"), looks := false }, kinds := [], alts := [], laidByText := true, laidKinds := [.data, .pinned], laidTests := true, laidLooks := .later }
def StoreTornCardSaid : Prop := Claim7.holds Tryd.pinned (.plain (OpenSpec.ofChange storeTornSpec)) storeTornCard

/-- THE TIED CARD OF 'aviarykeep.StoreFollowed'. -/
def storeFollowedCard : Claim7 := { stood := { row := storeFollowedRow, standIns := [], harness := (true, "c024c0dd4b87f9203cdab95558285be88f16f7e9b0efafe9167ee7a7f6c6d5e6"), looks := false }, kinds := [], alts := [], laidByText := true, laidKinds := [.data, .data, .data, .data, .pinned], laidTests := true, laidLooks := .later }
def StoreFollowedCardSaid : Prop := Claim7.holds Tryd.pinned (.plain (OpenSpec.ofChange storeFollowedSpec)) storeFollowedCard

/-- THE SECOND FORM's CARD OF 'aviarykeep.StoreSafe'. -/
def storeSafeUptoCard : Claim7 := { stood := { row := storeSafeUptoRow, standIns := [], harness := (true, "c024c0dd4b87f9203cdab95558285be88f16f7e9b0efafe9167ee7a7f6c6d5e6"), looks := false }, kinds := [], alts := [], laidByText := true, laidKinds := [.data, .pinned], laidTests := true, laidLooks := .later }
def StoreSafeUptoCardSaid : Prop := Claim7.holds Tryd.pinned (.plain (OpenSpec.upto storeSafeSpec)) storeSafeUptoCard

/-- THE SECOND FORM's CARD OF 'aviarykeep.StoreTorn'. -/
def storeTornUptoCard : Claim7 := { stood := { row := storeTornUptoRow, standIns := [], harness := (true, "c024c0dd4b87f9203cdab95558285be88f16f7e9b0efafe9167ee7a7f6c6d5e6"), looks := false }, kinds := [], alts := [], laidByText := true, laidKinds := [.data, .pinned], laidTests := true, laidLooks := .later }
def StoreTornUptoCardSaid : Prop := Claim7.holds Tryd.pinned (.plain (OpenSpec.upto storeTornSpec)) storeTornUptoCard

/-- THE SECOND FORM's CARD OF 'aviarykeep.StoreFollowed'. -/
def storeFollowedUptoCard : Claim7 := { stood := { row := storeFollowedUptoRow, standIns := [], harness := (true, "c024c0dd4b87f9203cdab95558285be88f16f7e9b0efafe9167ee7a7f6c6d5e6"), looks := false }, kinds := [], alts := [], laidByText := true, laidKinds := [.data, .data, .data, .data, .pinned], laidTests := true, laidLooks := .later }
def StoreFollowedUptoCardSaid : Prop := Claim7.holds Tryd.pinned (.plain (OpenSpec.upto storeFollowedSpec)) storeFollowedUptoCard
end Rows
end Go.Proofs.YtkoemhdchoicaaaDoor
