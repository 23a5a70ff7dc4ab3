/-
  DERIVED. GIVEN WITH THE SEED: THE CARDS: each row of YtgdbfideeeegmaaGreatDoorRows.lean that lists a variable, with what it lists TIED to the program's text (the seventh form; the later family's looks); each row that meets fmt, with fmt's text TOLD by the authors' own Lean function (tested against real Go, not proved from fmt's source: count such statements apart). THE CARD IS WHAT COUNTS. Prove the row's statement (the work); the ties are given (YtgdbfideeeegmaaGreatDoorTie.lean); close each card by the builder's one call (the guide's Derived/Test/ToyasCard.lean, 'card_holds'). Laid BY PROGRAM, IN A SANDBOX (cutbox-door.mjs). By AI agents, Wed Nov 11 2026. No macro, syntax, notation, axiom, sorry.
-/
import Derived.Test.YtgdbfideeeegmaaGreatDoorRows
import GoSem.ClaimSeven
namespace Go.Proofs.YtgdbfideeeegmaaGreatDoor
namespace Rows

/-- THE TIED CARD OF 'sentinellaw10.CompileEliminates'. -/
def compileEliminatesCard : Claim7 := { stood := { row := compileEliminatesRow, standIns := [], harness := (true, "ec3edf2aeac2087493a1b7473d8efd494f6c336b9f1edf00c613588748fc69fb"), looks := false }, kinds := [], alts := [], laidByText := true, laidKinds := [.data, .data, .data], laidTests := true, laidLooks := .later }
def CompileEliminatesCardSaid : Prop := Claim7.holds Tryz.pinned (.plain (OpenSpec.ofChange compileEliminatesSpec)) compileEliminatesCard

/-- THE TIED CARD OF 'sentinellaw10.CompileBudgets'. -/
def compileBudgetsCard : Claim7 := { stood := { row := compileBudgetsRow, standIns := [], harness := (true, "ec3edf2aeac2087493a1b7473d8efd494f6c336b9f1edf00c613588748fc69fb"), looks := false }, kinds := [], alts := [], laidByText := true, laidKinds := [.data, .data, .data], laidTests := true, laidLooks := .later }
def CompileBudgetsCardSaid : Prop := Claim7.holds Tryz.pinned (.plain (OpenSpec.ofChange compileBudgetsSpec)) compileBudgetsCard

/-- THE TIED CARD OF 'sentinellaw10.CompileMatches'. -/
def compileMatchesCard : Claim7 := { stood := { row := compileMatchesRow, standIns := [], harness := (true, "ec3edf2aeac2087493a1b7473d8efd494f6c336b9f1edf00c613588748fc69fb"), looks := false }, kinds := [], alts := [], laidByText := true, laidKinds := [.data, .data, .data], laidTests := true, laidLooks := .later }
def CompileMatchesCardSaid : Prop := Claim7.holds Tryz.pinned (.plain (OpenSpec.ofChange compileMatchesSpec)) compileMatchesCard

/-- THE TIED CARD OF 'sentinellaw10.CompileReturns'. -/
def compileReturnsCard : Claim7 := { stood := { row := compileReturnsRow, standIns := [], harness := (true, "ec3edf2aeac2087493a1b7473d8efd494f6c336b9f1edf00c613588748fc69fb"), looks := false }, kinds := [], alts := [], laidByText := true, laidKinds := [.data, .data, .data], laidTests := true, laidLooks := .later }
def CompileReturnsCardSaid : Prop := Claim7.holds Tryz.pinned (.plain (OpenSpec.ofChange compileReturnsSpec)) compileReturnsCard

/-- THE TIED CARD OF 'sentinellaw10.CompileReverses'. -/
def compileReversesCard : Claim7 := { stood := { row := compileReversesRow, standIns := [], harness := (true, "ec3edf2aeac2087493a1b7473d8efd494f6c336b9f1edf00c613588748fc69fb"), looks := false }, kinds := [], alts := [], laidByText := true, laidKinds := [.data, .data, .data], laidTests := true, laidLooks := .later }
def CompileReversesCardSaid : Prop := Claim7.holds Tryz.pinned (.plain (OpenSpec.ofChange compileReversesSpec)) compileReversesCard

/-- THE TIED CARD OF 'sentinellaw10.CompileMeans'. -/
def compileMeansCard : Claim7 := { stood := { row := compileMeansRow, standIns := [], harness := (true, "ec3edf2aeac2087493a1b7473d8efd494f6c336b9f1edf00c613588748fc69fb"), looks := false }, kinds := [], alts := [], laidByText := true, laidKinds := [.data, .data, .data], laidTests := true, laidLooks := .later }
def CompileMeansCardSaid : Prop := Claim7.holds Tryz.pinned (.plain (OpenSpec.ofChange compileMeansSpec)) compileMeansCard

/-- THE SECOND FORM's CARD OF 'sentinellaw10.CompileEliminates'. -/
def compileEliminatesUptoCard : Claim7 := { stood := { row := compileEliminatesUptoRow, standIns := [], harness := (true, "ec3edf2aeac2087493a1b7473d8efd494f6c336b9f1edf00c613588748fc69fb"), looks := false }, kinds := [], alts := [], laidByText := true, laidKinds := [.data, .data, .data], laidTests := true, laidLooks := .later }
def CompileEliminatesUptoCardSaid : Prop := Claim7.holds Tryz.pinned (.plain (OpenSpec.upto compileEliminatesSpec)) compileEliminatesUptoCard

/-- THE SECOND FORM's CARD OF 'sentinellaw10.CompileBudgets'. -/
def compileBudgetsUptoCard : Claim7 := { stood := { row := compileBudgetsUptoRow, standIns := [], harness := (true, "ec3edf2aeac2087493a1b7473d8efd494f6c336b9f1edf00c613588748fc69fb"), looks := false }, kinds := [], alts := [], laidByText := true, laidKinds := [.data, .data, .data], laidTests := true, laidLooks := .later }
def CompileBudgetsUptoCardSaid : Prop := Claim7.holds Tryz.pinned (.plain (OpenSpec.upto compileBudgetsSpec)) compileBudgetsUptoCard

/-- THE SECOND FORM's CARD OF 'sentinellaw10.CompileMatches'. -/
def compileMatchesUptoCard : Claim7 := { stood := { row := compileMatchesUptoRow, standIns := [], harness := (true, "ec3edf2aeac2087493a1b7473d8efd494f6c336b9f1edf00c613588748fc69fb"), looks := false }, kinds := [], alts := [], laidByText := true, laidKinds := [.data, .data, .data], laidTests := true, laidLooks := .later }
def CompileMatchesUptoCardSaid : Prop := Claim7.holds Tryz.pinned (.plain (OpenSpec.upto compileMatchesSpec)) compileMatchesUptoCard

/-- THE SECOND FORM's CARD OF 'sentinellaw10.CompileReturns'. -/
def compileReturnsUptoCard : Claim7 := { stood := { row := compileReturnsUptoRow, standIns := [], harness := (true, "ec3edf2aeac2087493a1b7473d8efd494f6c336b9f1edf00c613588748fc69fb"), looks := false }, kinds := [], alts := [], laidByText := true, laidKinds := [.data, .data, .data], laidTests := true, laidLooks := .later }
def CompileReturnsUptoCardSaid : Prop := Claim7.holds Tryz.pinned (.plain (OpenSpec.upto compileReturnsSpec)) compileReturnsUptoCard

/-- THE SECOND FORM's CARD OF 'sentinellaw10.CompileReverses'. -/
def compileReversesUptoCard : Claim7 := { stood := { row := compileReversesUptoRow, standIns := [], harness := (true, "ec3edf2aeac2087493a1b7473d8efd494f6c336b9f1edf00c613588748fc69fb"), looks := false }, kinds := [], alts := [], laidByText := true, laidKinds := [.data, .data, .data], laidTests := true, laidLooks := .later }
def CompileReversesUptoCardSaid : Prop := Claim7.holds Tryz.pinned (.plain (OpenSpec.upto compileReversesSpec)) compileReversesUptoCard

/-- THE SECOND FORM's CARD OF 'sentinellaw10.CompileMeans'. -/
def compileMeansUptoCard : Claim7 := { stood := { row := compileMeansUptoRow, standIns := [], harness := (true, "ec3edf2aeac2087493a1b7473d8efd494f6c336b9f1edf00c613588748fc69fb"), looks := false }, kinds := [], alts := [], laidByText := true, laidKinds := [.data, .data, .data], laidTests := true, laidLooks := .later }
def CompileMeansUptoCardSaid : Prop := Claim7.holds Tryz.pinned (.plain (OpenSpec.upto compileMeansSpec)) compileMeansUptoCard
end Rows
end Go.Proofs.YtgdbfideeeegmaaGreatDoor
