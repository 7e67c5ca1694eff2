/-
  DERIVED. GIVEN WITH THE SEED: THE CARDS: each row of YteolglmifimnaaaDoorRows.lean that lists a variable, with what it lists TIED to the program's text (the seventh form; the later family's looks); each row that meets fmt, with fmt's text TOLD by the authors' own Lean function (tested against real Go, not proved from fmt's source: count such statements apart). THE CARD IS WHAT COUNTS. Prove the row's statement (the work); the ties are given (YteolglmifimnaaaDoorTie.lean); close each card by the builder's one call (the guide's Derived/Test/ToyasCard.lean, 'card_holds'). Laid BY PROGRAM, IN A SANDBOX (cutbox-door.mjs). By AI agents, Wed Nov 11 2026. No macro, syntax, notation, axiom, sorry.
-/
import Derived.Test.YteolglmifimnaaaDoorRows
import GoSem.ClaimSeven
namespace Go.Proofs.YteolglmifimnaaaDoor
namespace Rows

/-- THE TIED CARD OF 'aviarykeep.RecipeFirst'. -/
def recipeFirstCard : Claim7 := { stood := { row := recipeFirstRow, standIns := [], harness := (true, "a1516f041b5f3678ad11da163426f4621a874adc11a4d5cfeddafc1252210888"), looks := false }, kinds := [], alts := [], laidByText := true, laidKinds := [.data, .pinned], laidTests := true, laidLooks := .later }
def RecipeFirstCardSaid : Prop := Claim7.holds Tryd.pinned (.plain (OpenSpec.ofChange recipeFirstSpec)) recipeFirstCard

/-- THE TIED CARD OF 'aviarykeep.TreeKeeps'. -/
def treeKeepsCard : Claim7 := { stood := { row := treeKeepsRow, standIns := [], harness := (true, "a1516f041b5f3678ad11da163426f4621a874adc11a4d5cfeddafc1252210888"), looks := false }, kinds := [], alts := [], laidByText := true, laidKinds := [.data, .pinned], laidTests := true, laidLooks := .later }
def TreeKeepsCardSaid : Prop := Claim7.holds Tryd.pinned (.plain (OpenSpec.ofChange treeKeepsSpec)) treeKeepsCard

/-- THE TIED CARD OF 'aviarykeep.TreeSets'. -/
def treeSetsCard : Claim7 := { stood := { row := treeSetsRow, standIns := [], harness := (true, "a1516f041b5f3678ad11da163426f4621a874adc11a4d5cfeddafc1252210888"), looks := false }, kinds := [], alts := [], laidByText := true, laidKinds := [.data, .pinned], laidTests := true, laidLooks := .later }
def TreeSetsCardSaid : Prop := Claim7.holds Tryd.pinned (.plain (OpenSpec.ofChange treeSetsSpec)) treeSetsCard

/-- THE TIED CARD OF 'aviarykeep.TreeCloses'. -/
def treeClosesCard : Claim7 := { stood := { row := treeClosesRow, standIns := [], harness := (true, "a1516f041b5f3678ad11da163426f4621a874adc11a4d5cfeddafc1252210888"), looks := false }, kinds := [], alts := [], laidByText := true, laidKinds := [.data, .pinned], laidTests := true, laidLooks := .later }
def TreeClosesCardSaid : Prop := Claim7.holds Tryd.pinned (.plain (OpenSpec.ofChange treeClosesSpec)) treeClosesCard

/-- THE TIED CARD OF 'aviarykeep.TreeMakes'. -/
def treeMakesCard : Claim7 := { stood := { row := treeMakesRow, standIns := [], harness := (true, "a1516f041b5f3678ad11da163426f4621a874adc11a4d5cfeddafc1252210888"), looks := false }, kinds := [], alts := [], laidByText := true, laidKinds := [.data, .pinned], laidTests := true, laidLooks := .later }
def TreeMakesCardSaid : Prop := Claim7.holds Tryd.pinned (.plain (OpenSpec.ofChange treeMakesSpec)) treeMakesCard

/-- THE TIED CARD OF 'aviarykeep.TreeDeep'. -/
def treeDeepCard : Claim7 := { stood := { row := treeDeepRow, standIns := [], harness := (true, "a1516f041b5f3678ad11da163426f4621a874adc11a4d5cfeddafc1252210888"), looks := false }, kinds := [], alts := [], laidByText := true, laidKinds := [.data, .pinned], laidTests := true, laidLooks := .later }
def TreeDeepCardSaid : Prop := Claim7.holds Tryd.pinned (.plain (OpenSpec.ofChange treeDeepSpec)) treeDeepCard

/-- THE TIED CARD OF 'aviarykeep.PrepFits'. -/
def prepFitsCard : Claim7 := { stood := { row := prepFitsRow, standIns := [], harness := (true, "a1516f041b5f3678ad11da163426f4621a874adc11a4d5cfeddafc1252210888"), looks := false }, kinds := [], alts := [], laidByText := true, laidKinds := [.data, .pinned], laidTests := true, laidLooks := .later }
def PrepFitsCardSaid : Prop := Claim7.holds Tryd.pinned (.plain (OpenSpec.ofChange prepFitsSpec)) prepFitsCard

/-- THE TIED CARD OF 'aviarykeep.PrepVersions'. -/
def prepVersionsCard : Claim7 := { stood := { row := prepVersionsRow, standIns := [], harness := (true, "a1516f041b5f3678ad11da163426f4621a874adc11a4d5cfeddafc1252210888"), looks := false }, kinds := [], alts := [], laidByText := true, laidKinds := [.data, .pinned], laidTests := true, laidLooks := .later }
def PrepVersionsCardSaid : Prop := Claim7.holds Tryd.pinned (.plain (OpenSpec.ofChange prepVersionsSpec)) prepVersionsCard

/-- THE TIED CARD OF 'aviarykeep.PrepSerials'. -/
def prepSerialsCard : Claim7 := { stood := { row := prepSerialsRow, standIns := [], harness := (true, "a1516f041b5f3678ad11da163426f4621a874adc11a4d5cfeddafc1252210888"), looks := false }, kinds := [], alts := [], laidByText := true, laidKinds := [.data, .pinned], laidTests := true, laidLooks := .later }
def PrepSerialsCardSaid : Prop := Claim7.holds Tryd.pinned (.plain (OpenSpec.ofChange prepSerialsSpec)) prepSerialsCard

/-- THE TIED CARD OF 'aviarykeep.RecipeQueue'. -/
def recipeQueueCard : Claim7 := { stood := { row := recipeQueueRow, standIns := [], harness := (true, "a1516f041b5f3678ad11da163426f4621a874adc11a4d5cfeddafc1252210888"), looks := false }, kinds := [], alts := [], laidByText := true, laidKinds := [.data, .pinned], laidTests := true, laidLooks := .later }
def RecipeQueueCardSaid : Prop := Claim7.holds Tryd.pinned (.plain (OpenSpec.ofChange recipeQueueSpec)) recipeQueueCard

/-- THE SECOND FORM's CARD OF 'aviarykeep.RecipeFirst'. -/
def recipeFirstUptoCard : Claim7 := { stood := { row := recipeFirstUptoRow, standIns := [], harness := (true, "a1516f041b5f3678ad11da163426f4621a874adc11a4d5cfeddafc1252210888"), looks := false }, kinds := [], alts := [], laidByText := true, laidKinds := [.data, .pinned], laidTests := true, laidLooks := .later }
def RecipeFirstUptoCardSaid : Prop := Claim7.holds Tryd.pinned (.plain (OpenSpec.upto recipeFirstSpec)) recipeFirstUptoCard

/-- THE SECOND FORM's CARD OF 'aviarykeep.TreeKeeps'. -/
def treeKeepsUptoCard : Claim7 := { stood := { row := treeKeepsUptoRow, standIns := [], harness := (true, "a1516f041b5f3678ad11da163426f4621a874adc11a4d5cfeddafc1252210888"), looks := false }, kinds := [], alts := [], laidByText := true, laidKinds := [.data, .pinned], laidTests := true, laidLooks := .later }
def TreeKeepsUptoCardSaid : Prop := Claim7.holds Tryd.pinned (.plain (OpenSpec.upto treeKeepsSpec)) treeKeepsUptoCard

/-- THE SECOND FORM's CARD OF 'aviarykeep.TreeSets'. -/
def treeSetsUptoCard : Claim7 := { stood := { row := treeSetsUptoRow, standIns := [], harness := (true, "a1516f041b5f3678ad11da163426f4621a874adc11a4d5cfeddafc1252210888"), looks := false }, kinds := [], alts := [], laidByText := true, laidKinds := [.data, .pinned], laidTests := true, laidLooks := .later }
def TreeSetsUptoCardSaid : Prop := Claim7.holds Tryd.pinned (.plain (OpenSpec.upto treeSetsSpec)) treeSetsUptoCard

/-- THE SECOND FORM's CARD OF 'aviarykeep.TreeCloses'. -/
def treeClosesUptoCard : Claim7 := { stood := { row := treeClosesUptoRow, standIns := [], harness := (true, "a1516f041b5f3678ad11da163426f4621a874adc11a4d5cfeddafc1252210888"), looks := false }, kinds := [], alts := [], laidByText := true, laidKinds := [.data, .pinned], laidTests := true, laidLooks := .later }
def TreeClosesUptoCardSaid : Prop := Claim7.holds Tryd.pinned (.plain (OpenSpec.upto treeClosesSpec)) treeClosesUptoCard

/-- THE SECOND FORM's CARD OF 'aviarykeep.TreeMakes'. -/
def treeMakesUptoCard : Claim7 := { stood := { row := treeMakesUptoRow, standIns := [], harness := (true, "a1516f041b5f3678ad11da163426f4621a874adc11a4d5cfeddafc1252210888"), looks := false }, kinds := [], alts := [], laidByText := true, laidKinds := [.data, .pinned], laidTests := true, laidLooks := .later }
def TreeMakesUptoCardSaid : Prop := Claim7.holds Tryd.pinned (.plain (OpenSpec.upto treeMakesSpec)) treeMakesUptoCard

/-- THE SECOND FORM's CARD OF 'aviarykeep.TreeDeep'. -/
def treeDeepUptoCard : Claim7 := { stood := { row := treeDeepUptoRow, standIns := [], harness := (true, "a1516f041b5f3678ad11da163426f4621a874adc11a4d5cfeddafc1252210888"), looks := false }, kinds := [], alts := [], laidByText := true, laidKinds := [.data, .pinned], laidTests := true, laidLooks := .later }
def TreeDeepUptoCardSaid : Prop := Claim7.holds Tryd.pinned (.plain (OpenSpec.upto treeDeepSpec)) treeDeepUptoCard

/-- THE SECOND FORM's CARD OF 'aviarykeep.PrepFits'. -/
def prepFitsUptoCard : Claim7 := { stood := { row := prepFitsUptoRow, standIns := [], harness := (true, "a1516f041b5f3678ad11da163426f4621a874adc11a4d5cfeddafc1252210888"), looks := false }, kinds := [], alts := [], laidByText := true, laidKinds := [.data, .pinned], laidTests := true, laidLooks := .later }
def PrepFitsUptoCardSaid : Prop := Claim7.holds Tryd.pinned (.plain (OpenSpec.upto prepFitsSpec)) prepFitsUptoCard

/-- THE SECOND FORM's CARD OF 'aviarykeep.PrepVersions'. -/
def prepVersionsUptoCard : Claim7 := { stood := { row := prepVersionsUptoRow, standIns := [], harness := (true, "a1516f041b5f3678ad11da163426f4621a874adc11a4d5cfeddafc1252210888"), looks := false }, kinds := [], alts := [], laidByText := true, laidKinds := [.data, .pinned], laidTests := true, laidLooks := .later }
def PrepVersionsUptoCardSaid : Prop := Claim7.holds Tryd.pinned (.plain (OpenSpec.upto prepVersionsSpec)) prepVersionsUptoCard

/-- THE SECOND FORM's CARD OF 'aviarykeep.PrepSerials'. -/
def prepSerialsUptoCard : Claim7 := { stood := { row := prepSerialsUptoRow, standIns := [], harness := (true, "a1516f041b5f3678ad11da163426f4621a874adc11a4d5cfeddafc1252210888"), looks := false }, kinds := [], alts := [], laidByText := true, laidKinds := [.data, .pinned], laidTests := true, laidLooks := .later }
def PrepSerialsUptoCardSaid : Prop := Claim7.holds Tryd.pinned (.plain (OpenSpec.upto prepSerialsSpec)) prepSerialsUptoCard

/-- THE SECOND FORM's CARD OF 'aviarykeep.RecipeQueue'. -/
def recipeQueueUptoCard : Claim7 := { stood := { row := recipeQueueUptoRow, standIns := [], harness := (true, "a1516f041b5f3678ad11da163426f4621a874adc11a4d5cfeddafc1252210888"), looks := false }, kinds := [], alts := [], laidByText := true, laidKinds := [.data, .pinned], laidTests := true, laidLooks := .later }
def RecipeQueueUptoCardSaid : Prop := Claim7.holds Tryd.pinned (.plain (OpenSpec.upto recipeQueueSpec)) recipeQueueUptoCard
end Rows
end Go.Proofs.YteolglmifimnaaaDoor
