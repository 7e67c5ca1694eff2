/-
  DERIVED. GIVEN WITH THE SEED: THE CARDS: each row of YtfoglgeiipafeaaDoorRows.lean that lists a variable, with what it lists TIED to the program's text (the seventh form; the later family's looks); each row that meets fmt, with fmt's text TOLD by the authors' own Lean function (tested against real Go, not proved from fmt's source: count such statements apart). THE CARD IS WHAT COUNTS. Prove the row's statement (the work); the ties are given (YtfoglgeiipafeaaDoorTie.lean); close each card by the builder's one call (the guide's Derived/Test/ToyasCard.lean, 'card_holds'). Laid BY PROGRAM, IN A SANDBOX (cutbox-door.mjs). By AI agents, Wed Nov 11 2026. No macro, syntax, notation, axiom, sorry.
-/
import Derived.Test.YtfoglgeiipafeaaDoorRows
import GoSem.ClaimSeven
namespace Go.Proofs.YtfoglgeiipafeaaDoor
namespace Rows

/-- THE TIED CARD OF 'aviarykeep.SnapBack'. -/
def snapBackCard : Claim7 := { stood := { row := snapBackRow, standIns := [], harness := (true, "8274760cdaabca7751642dd748ea5c702fa60f9a0a0cbad2c0e77b309ee52cbb"), looks := false }, kinds := [], alts := [], laidByText := true, laidKinds := [.data, .pinned], laidTests := true, laidLooks := .later }
def SnapBackCardSaid : Prop := Claim7.holds Tryd.pinned (.plain (OpenSpec.ofChange snapBackSpec)) snapBackCard

/-- THE TIED CARD OF 'aviarykeep.SnapOnly'. -/
def snapOnlyCard : Claim7 := { stood := { row := snapOnlyRow, standIns := [], harness := (true, "8274760cdaabca7751642dd748ea5c702fa60f9a0a0cbad2c0e77b309ee52cbb"), looks := false }, kinds := [], alts := [], laidByText := true, laidKinds := [.data, .pinned], laidTests := true, laidLooks := .later }
def SnapOnlyCardSaid : Prop := Claim7.holds Tryd.pinned (.plain (OpenSpec.ofChange snapOnlySpec)) snapOnlyCard

/-- THE TIED CARD OF 'aviarykeep.SnapTurned'. -/
def snapTurnedCard : Claim7 := { stood := { row := snapTurnedRow, standIns := [], harness := (true, "8274760cdaabca7751642dd748ea5c702fa60f9a0a0cbad2c0e77b309ee52cbb"), looks := false }, kinds := [], alts := [], laidByText := true, laidKinds := [.data, .pinned], laidTests := true, laidLooks := .later }
def SnapTurnedCardSaid : Prop := Claim7.holds Tryd.pinned (.plain (OpenSpec.ofChange snapTurnedSpec)) snapTurnedCard

/-- THE TIED CARD OF 'aviarykeep.SnapCut'. -/
def snapCutCard : Claim7 := { stood := { row := snapCutRow, standIns := [], harness := (true, "8274760cdaabca7751642dd748ea5c702fa60f9a0a0cbad2c0e77b309ee52cbb"), looks := false }, kinds := [], alts := [], laidByText := true, laidKinds := [.data, .pinned], laidTests := true, laidLooks := .later }
def SnapCutCardSaid : Prop := Claim7.holds Tryd.pinned (.plain (OpenSpec.ofChange snapCutSpec)) snapCutCard

/-- THE SECOND FORM's CARD OF 'aviarykeep.SnapBack'. -/
def snapBackUptoCard : Claim7 := { stood := { row := snapBackUptoRow, standIns := [], harness := (true, "8274760cdaabca7751642dd748ea5c702fa60f9a0a0cbad2c0e77b309ee52cbb"), looks := false }, kinds := [], alts := [], laidByText := true, laidKinds := [.data, .pinned], laidTests := true, laidLooks := .later }
def SnapBackUptoCardSaid : Prop := Claim7.holds Tryd.pinned (.plain (OpenSpec.upto snapBackSpec)) snapBackUptoCard

/-- THE SECOND FORM's CARD OF 'aviarykeep.SnapOnly'. -/
def snapOnlyUptoCard : Claim7 := { stood := { row := snapOnlyUptoRow, standIns := [], harness := (true, "8274760cdaabca7751642dd748ea5c702fa60f9a0a0cbad2c0e77b309ee52cbb"), looks := false }, kinds := [], alts := [], laidByText := true, laidKinds := [.data, .pinned], laidTests := true, laidLooks := .later }
def SnapOnlyUptoCardSaid : Prop := Claim7.holds Tryd.pinned (.plain (OpenSpec.upto snapOnlySpec)) snapOnlyUptoCard

/-- THE SECOND FORM's CARD OF 'aviarykeep.SnapTurned'. -/
def snapTurnedUptoCard : Claim7 := { stood := { row := snapTurnedUptoRow, standIns := [], harness := (true, "8274760cdaabca7751642dd748ea5c702fa60f9a0a0cbad2c0e77b309ee52cbb"), looks := false }, kinds := [], alts := [], laidByText := true, laidKinds := [.data, .pinned], laidTests := true, laidLooks := .later }
def SnapTurnedUptoCardSaid : Prop := Claim7.holds Tryd.pinned (.plain (OpenSpec.upto snapTurnedSpec)) snapTurnedUptoCard

/-- THE SECOND FORM's CARD OF 'aviarykeep.SnapCut'. -/
def snapCutUptoCard : Claim7 := { stood := { row := snapCutUptoRow, standIns := [], harness := (true, "8274760cdaabca7751642dd748ea5c702fa60f9a0a0cbad2c0e77b309ee52cbb"), looks := false }, kinds := [], alts := [], laidByText := true, laidKinds := [.data, .pinned], laidTests := true, laidLooks := .later }
def SnapCutUptoCardSaid : Prop := Claim7.holds Tryd.pinned (.plain (OpenSpec.upto snapCutSpec)) snapCutUptoCard
end Rows
end Go.Proofs.YtfoglgeiipafeaaDoor
