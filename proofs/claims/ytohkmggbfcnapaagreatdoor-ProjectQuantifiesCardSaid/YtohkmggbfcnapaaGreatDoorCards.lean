/-
  DERIVED. GIVEN WITH THE SEED: THE CARDS: each row of YtohkmggbfcnapaaGreatDoorRows.lean that lists a variable, with what it lists TIED to the program's text (the seventh form; the later family's looks); each row that meets fmt, with fmt's text TOLD by the authors' own Lean function (tested against real Go, not proved from fmt's source: count such statements apart). THE CARD IS WHAT COUNTS. Prove the row's statement (the work); the ties are given (YtohkmggbfcnapaaGreatDoorTie.lean); close each card by the builder's one call (the guide's Derived/Test/ToyasCard.lean, 'card_holds'). Laid BY PROGRAM, IN A SANDBOX (cutbox-door.mjs). By AI agents, Wed Nov 11 2026. No macro, syntax, notation, axiom, sorry.
-/
import Derived.Test.YtohkmggbfcnapaaGreatDoorRows
import GoSem.ClaimSeven
namespace Go.Proofs.YtohkmggbfcnapaaGreatDoor
namespace Rows

/-- THE TIED CARD OF 'sentinellaw11.ProjectQuantifies'. -/
def projectQuantifiesCard : Claim7 := { stood := { row := projectQuantifiesRow, standIns := [], harness := (true, "7eb604b77704e5d203c6491c33a6c8a39276006688633db6e8eba3fce6f1a8f1"), looks := false }, kinds := [], alts := [], laidByText := true, laidKinds := [.data, .data, .data], laidTests := true, laidLooks := .later }
def ProjectQuantifiesCardSaid : Prop := Claim7.holds Tryz.pinned (.plain (OpenSpec.ofChange projectQuantifiesSpec)) projectQuantifiesCard

/-- THE TIED CARD OF 'sentinellaw11.ProjectChanges'. -/
def projectChangesCard : Claim7 := { stood := { row := projectChangesRow, standIns := [], harness := (true, "7eb604b77704e5d203c6491c33a6c8a39276006688633db6e8eba3fce6f1a8f1"), looks := false }, kinds := [], alts := [], laidByText := true, laidKinds := [.data, .data, .data], laidTests := true, laidLooks := .later }
def ProjectChangesCardSaid : Prop := Claim7.holds Tryz.pinned (.plain (OpenSpec.ofChange projectChangesSpec)) projectChangesCard

/-- THE TIED CARD OF 'sentinellaw11.ProjectExamples'. -/
def projectExamplesCard : Claim7 := { stood := { row := projectExamplesRow, standIns := [], harness := (true, "7eb604b77704e5d203c6491c33a6c8a39276006688633db6e8eba3fce6f1a8f1"), looks := false }, kinds := [], alts := [], laidByText := true, laidKinds := [.data, .data, .data], laidTests := true, laidLooks := .later }
def ProjectExamplesCardSaid : Prop := Claim7.holds Tryz.pinned (.plain (OpenSpec.ofChange projectExamplesSpec)) projectExamplesCard

/-- THE TIED CARD OF 'sentinellaw11.ProjectVariants'. -/
def projectVariantsCard : Claim7 := { stood := { row := projectVariantsRow, standIns := [], harness := (true, "7eb604b77704e5d203c6491c33a6c8a39276006688633db6e8eba3fce6f1a8f1"), looks := false }, kinds := [], alts := [], laidByText := true, laidKinds := [.data, .data, .data], laidTests := true, laidLooks := .later }
def ProjectVariantsCardSaid : Prop := Claim7.holds Tryz.pinned (.plain (OpenSpec.ofChange projectVariantsSpec)) projectVariantsCard

/-- THE TIED CARD OF 'sentinellaw11.ProjectDrops'. -/
def projectDropsCard : Claim7 := { stood := { row := projectDropsRow, standIns := [], harness := (true, "7eb604b77704e5d203c6491c33a6c8a39276006688633db6e8eba3fce6f1a8f1"), looks := false }, kinds := [], alts := [], laidByText := true, laidKinds := [.data, .data, .data], laidTests := true, laidLooks := .later }
def ProjectDropsCardSaid : Prop := Claim7.holds Tryz.pinned (.plain (OpenSpec.ofChange projectDropsSpec)) projectDropsCard

/-- THE TIED CARD OF 'sentinellaw11.ProjectRenames'. -/
def projectRenamesCard : Claim7 := { stood := { row := projectRenamesRow, standIns := [], harness := (true, "7eb604b77704e5d203c6491c33a6c8a39276006688633db6e8eba3fce6f1a8f1"), looks := false }, kinds := [], alts := [], laidByText := true, laidKinds := [.data, .data, .data], laidTests := true, laidLooks := .later }
def ProjectRenamesCardSaid : Prop := Claim7.holds Tryz.pinned (.plain (OpenSpec.ofChange projectRenamesSpec)) projectRenamesCard

/-- THE TIED CARD OF 'sentinellaw11.ProjectDual'. -/
def projectDualCard : Claim7 := { stood := { row := projectDualRow, standIns := [], harness := (true, "7eb604b77704e5d203c6491c33a6c8a39276006688633db6e8eba3fce6f1a8f1"), looks := false }, kinds := [], alts := [], laidByText := true, laidKinds := [.data, .data, .data], laidTests := true, laidLooks := .later }
def ProjectDualCardSaid : Prop := Claim7.holds Tryz.pinned (.plain (OpenSpec.ofChange projectDualSpec)) projectDualCard

/-- THE SECOND FORM's CARD OF 'sentinellaw11.ProjectQuantifies'. -/
def projectQuantifiesUptoCard : Claim7 := { stood := { row := projectQuantifiesUptoRow, standIns := [], harness := (true, "7eb604b77704e5d203c6491c33a6c8a39276006688633db6e8eba3fce6f1a8f1"), looks := false }, kinds := [], alts := [], laidByText := true, laidKinds := [.data, .data, .data], laidTests := true, laidLooks := .later }
def ProjectQuantifiesUptoCardSaid : Prop := Claim7.holds Tryz.pinned (.plain (OpenSpec.upto projectQuantifiesSpec)) projectQuantifiesUptoCard

/-- THE SECOND FORM's CARD OF 'sentinellaw11.ProjectChanges'. -/
def projectChangesUptoCard : Claim7 := { stood := { row := projectChangesUptoRow, standIns := [], harness := (true, "7eb604b77704e5d203c6491c33a6c8a39276006688633db6e8eba3fce6f1a8f1"), looks := false }, kinds := [], alts := [], laidByText := true, laidKinds := [.data, .data, .data], laidTests := true, laidLooks := .later }
def ProjectChangesUptoCardSaid : Prop := Claim7.holds Tryz.pinned (.plain (OpenSpec.upto projectChangesSpec)) projectChangesUptoCard

/-- THE SECOND FORM's CARD OF 'sentinellaw11.ProjectExamples'. -/
def projectExamplesUptoCard : Claim7 := { stood := { row := projectExamplesUptoRow, standIns := [], harness := (true, "7eb604b77704e5d203c6491c33a6c8a39276006688633db6e8eba3fce6f1a8f1"), looks := false }, kinds := [], alts := [], laidByText := true, laidKinds := [.data, .data, .data], laidTests := true, laidLooks := .later }
def ProjectExamplesUptoCardSaid : Prop := Claim7.holds Tryz.pinned (.plain (OpenSpec.upto projectExamplesSpec)) projectExamplesUptoCard

/-- THE SECOND FORM's CARD OF 'sentinellaw11.ProjectVariants'. -/
def projectVariantsUptoCard : Claim7 := { stood := { row := projectVariantsUptoRow, standIns := [], harness := (true, "7eb604b77704e5d203c6491c33a6c8a39276006688633db6e8eba3fce6f1a8f1"), looks := false }, kinds := [], alts := [], laidByText := true, laidKinds := [.data, .data, .data], laidTests := true, laidLooks := .later }
def ProjectVariantsUptoCardSaid : Prop := Claim7.holds Tryz.pinned (.plain (OpenSpec.upto projectVariantsSpec)) projectVariantsUptoCard

/-- THE SECOND FORM's CARD OF 'sentinellaw11.ProjectDrops'. -/
def projectDropsUptoCard : Claim7 := { stood := { row := projectDropsUptoRow, standIns := [], harness := (true, "7eb604b77704e5d203c6491c33a6c8a39276006688633db6e8eba3fce6f1a8f1"), looks := false }, kinds := [], alts := [], laidByText := true, laidKinds := [.data, .data, .data], laidTests := true, laidLooks := .later }
def ProjectDropsUptoCardSaid : Prop := Claim7.holds Tryz.pinned (.plain (OpenSpec.upto projectDropsSpec)) projectDropsUptoCard

/-- THE SECOND FORM's CARD OF 'sentinellaw11.ProjectRenames'. -/
def projectRenamesUptoCard : Claim7 := { stood := { row := projectRenamesUptoRow, standIns := [], harness := (true, "7eb604b77704e5d203c6491c33a6c8a39276006688633db6e8eba3fce6f1a8f1"), looks := false }, kinds := [], alts := [], laidByText := true, laidKinds := [.data, .data, .data], laidTests := true, laidLooks := .later }
def ProjectRenamesUptoCardSaid : Prop := Claim7.holds Tryz.pinned (.plain (OpenSpec.upto projectRenamesSpec)) projectRenamesUptoCard

/-- THE SECOND FORM's CARD OF 'sentinellaw11.ProjectDual'. -/
def projectDualUptoCard : Claim7 := { stood := { row := projectDualUptoRow, standIns := [], harness := (true, "7eb604b77704e5d203c6491c33a6c8a39276006688633db6e8eba3fce6f1a8f1"), looks := false }, kinds := [], alts := [], laidByText := true, laidKinds := [.data, .data, .data], laidTests := true, laidLooks := .later }
def ProjectDualUptoCardSaid : Prop := Claim7.holds Tryz.pinned (.plain (OpenSpec.upto projectDualSpec)) projectDualUptoCard
end Rows
end Go.Proofs.YtohkmggbfcnapaaGreatDoor
