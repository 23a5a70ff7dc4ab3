/-
  DERIVED. GIVEN WITH THE SEED: THE CARDS: each row of YtnikhiohindggaaDoorRows.lean that lists a variable, with what it lists TIED to the program's text (the seventh form; the later family's looks); each row that meets fmt, with fmt's text TOLD by the authors' own Lean function (tested against real Go, not proved from fmt's source: count such statements apart). THE CARD IS WHAT COUNTS. Prove the row's statement (the work); the ties are given (YtnikhiohindggaaDoorTie.lean); close each card by the builder's one call (the guide's Derived/Test/ToyasCard.lean, 'card_holds'). Laid BY PROGRAM, IN A SANDBOX (cutbox-door.mjs). By AI agents, Wed Nov 11 2026. No macro, syntax, notation, axiom, sorry.
-/
import Derived.Test.YtnikhiohindggaaDoorRows
import GoSem.ClaimSeven
namespace Go.Proofs.YtnikhiohindggaaDoor
namespace Rows

/-- THE TIED CARD OF 'sentinellaw28.ParityMatches'. -/
def parityMatchesCard : Claim7 := { stood := { row := parityMatchesRow, standIns := [], harness := (true, "672ba5bd101ebea9a7d229023553e14e97720aa85eb9d46a385175750eabf7df"), looks := false }, kinds := [], alts := [], laidByText := true, laidKinds := [.data, .data, .data], laidTests := true, laidLooks := .later }
def ParityMatchesCardSaid : Prop := Claim7.holds Tryd.pinned (.plain (OpenSpec.ofChange parityMatchesSpec)) parityMatchesCard

/-- THE TIED CARD OF 'sentinellaw28.ParityFormsMatch'. -/
def parityFormsMatchCard : Claim7 := { stood := { row := parityFormsMatchRow, standIns := [], harness := (true, "672ba5bd101ebea9a7d229023553e14e97720aa85eb9d46a385175750eabf7df"), looks := false }, kinds := [], alts := [], laidByText := true, laidKinds := [.data, .data, .data], laidTests := true, laidLooks := .later }
def ParityFormsMatchCardSaid : Prop := Claim7.holds Tryd.pinned (.plain (OpenSpec.ofChange parityFormsMatchSpec)) parityFormsMatchCard

/-- THE TIED CARD OF 'sentinellaw28.ParityDiffers'. -/
def parityDiffersCard : Claim7 := { stood := { row := parityDiffersRow, standIns := [], harness := (true, "672ba5bd101ebea9a7d229023553e14e97720aa85eb9d46a385175750eabf7df"), looks := false }, kinds := [], alts := [], laidByText := true, laidKinds := [.data, .data, .data], laidTests := true, laidLooks := .later }
def ParityDiffersCardSaid : Prop := Claim7.holds Tryd.pinned (.plain (OpenSpec.ofChange parityDiffersSpec)) parityDiffersCard

/-- THE TIED CARD OF 'sentinellaw28.ParityReduce'. -/
def parityReduceCard : Claim7 := { stood := { row := parityReduceRow, standIns := [], harness := (true, "672ba5bd101ebea9a7d229023553e14e97720aa85eb9d46a385175750eabf7df"), looks := false }, kinds := [], alts := [], laidByText := true, laidKinds := [.data, .data, .data], laidTests := true, laidLooks := .later }
def ParityReduceCardSaid : Prop := Claim7.holds Tryd.pinned (.plain (OpenSpec.ofChange parityReduceSpec)) parityReduceCard

/-- THE TIED CARD OF 'sentinellaw28.ParityComplement'. -/
def parityComplementCard : Claim7 := { stood := { row := parityComplementRow, standIns := [], harness := (true, "672ba5bd101ebea9a7d229023553e14e97720aa85eb9d46a385175750eabf7df"), looks := false }, kinds := [], alts := [], laidByText := true, laidKinds := [.data, .data, .data], laidTests := true, laidLooks := .later }
def ParityComplementCardSaid : Prop := Claim7.holds Tryd.pinned (.plain (OpenSpec.ofChange parityComplementSpec)) parityComplementCard

/-- THE TIED CARD OF 'sentinellaw28.ParityQuotient'. -/
def parityQuotientCard : Claim7 := { stood := { row := parityQuotientRow, standIns := [], harness := (true, "672ba5bd101ebea9a7d229023553e14e97720aa85eb9d46a385175750eabf7df"), looks := false }, kinds := [], alts := [], laidByText := true, laidKinds := [.data, .data, .data], laidTests := true, laidLooks := .later }
def ParityQuotientCardSaid : Prop := Claim7.holds Tryd.pinned (.plain (OpenSpec.ofChange parityQuotientSpec)) parityQuotientCard

/-- THE TIED CARD OF 'sentinellaw28.ParityExamples'. -/
def parityExamplesCard : Claim7 := { stood := { row := parityExamplesRow, standIns := [], harness := (true, "672ba5bd101ebea9a7d229023553e14e97720aa85eb9d46a385175750eabf7df"), looks := false }, kinds := [], alts := [], laidByText := true, laidKinds := [.data, .data, .data], laidTests := true, laidLooks := .later }
def ParityExamplesCardSaid : Prop := Claim7.holds Tryd.pinned (.plain (OpenSpec.ofChange parityExamplesSpec)) parityExamplesCard

/-- THE SECOND FORM's CARD OF 'sentinellaw28.ParityMatches'. -/
def parityMatchesUptoCard : Claim7 := { stood := { row := parityMatchesUptoRow, standIns := [], harness := (true, "672ba5bd101ebea9a7d229023553e14e97720aa85eb9d46a385175750eabf7df"), looks := false }, kinds := [], alts := [], laidByText := true, laidKinds := [.data, .data, .data], laidTests := true, laidLooks := .later }
def ParityMatchesUptoCardSaid : Prop := Claim7.holds Tryd.pinned (.plain (OpenSpec.upto parityMatchesSpec)) parityMatchesUptoCard

/-- THE SECOND FORM's CARD OF 'sentinellaw28.ParityFormsMatch'. -/
def parityFormsMatchUptoCard : Claim7 := { stood := { row := parityFormsMatchUptoRow, standIns := [], harness := (true, "672ba5bd101ebea9a7d229023553e14e97720aa85eb9d46a385175750eabf7df"), looks := false }, kinds := [], alts := [], laidByText := true, laidKinds := [.data, .data, .data], laidTests := true, laidLooks := .later }
def ParityFormsMatchUptoCardSaid : Prop := Claim7.holds Tryd.pinned (.plain (OpenSpec.upto parityFormsMatchSpec)) parityFormsMatchUptoCard

/-- THE SECOND FORM's CARD OF 'sentinellaw28.ParityDiffers'. -/
def parityDiffersUptoCard : Claim7 := { stood := { row := parityDiffersUptoRow, standIns := [], harness := (true, "672ba5bd101ebea9a7d229023553e14e97720aa85eb9d46a385175750eabf7df"), looks := false }, kinds := [], alts := [], laidByText := true, laidKinds := [.data, .data, .data], laidTests := true, laidLooks := .later }
def ParityDiffersUptoCardSaid : Prop := Claim7.holds Tryd.pinned (.plain (OpenSpec.upto parityDiffersSpec)) parityDiffersUptoCard

/-- THE SECOND FORM's CARD OF 'sentinellaw28.ParityReduce'. -/
def parityReduceUptoCard : Claim7 := { stood := { row := parityReduceUptoRow, standIns := [], harness := (true, "672ba5bd101ebea9a7d229023553e14e97720aa85eb9d46a385175750eabf7df"), looks := false }, kinds := [], alts := [], laidByText := true, laidKinds := [.data, .data, .data], laidTests := true, laidLooks := .later }
def ParityReduceUptoCardSaid : Prop := Claim7.holds Tryd.pinned (.plain (OpenSpec.upto parityReduceSpec)) parityReduceUptoCard

/-- THE SECOND FORM's CARD OF 'sentinellaw28.ParityComplement'. -/
def parityComplementUptoCard : Claim7 := { stood := { row := parityComplementUptoRow, standIns := [], harness := (true, "672ba5bd101ebea9a7d229023553e14e97720aa85eb9d46a385175750eabf7df"), looks := false }, kinds := [], alts := [], laidByText := true, laidKinds := [.data, .data, .data], laidTests := true, laidLooks := .later }
def ParityComplementUptoCardSaid : Prop := Claim7.holds Tryd.pinned (.plain (OpenSpec.upto parityComplementSpec)) parityComplementUptoCard

/-- THE SECOND FORM's CARD OF 'sentinellaw28.ParityQuotient'. -/
def parityQuotientUptoCard : Claim7 := { stood := { row := parityQuotientUptoRow, standIns := [], harness := (true, "672ba5bd101ebea9a7d229023553e14e97720aa85eb9d46a385175750eabf7df"), looks := false }, kinds := [], alts := [], laidByText := true, laidKinds := [.data, .data, .data], laidTests := true, laidLooks := .later }
def ParityQuotientUptoCardSaid : Prop := Claim7.holds Tryd.pinned (.plain (OpenSpec.upto parityQuotientSpec)) parityQuotientUptoCard

/-- THE SECOND FORM's CARD OF 'sentinellaw28.ParityExamples'. -/
def parityExamplesUptoCard : Claim7 := { stood := { row := parityExamplesUptoRow, standIns := [], harness := (true, "672ba5bd101ebea9a7d229023553e14e97720aa85eb9d46a385175750eabf7df"), looks := false }, kinds := [], alts := [], laidByText := true, laidKinds := [.data, .data, .data], laidTests := true, laidLooks := .later }
def ParityExamplesUptoCardSaid : Prop := Claim7.holds Tryd.pinned (.plain (OpenSpec.upto parityExamplesSpec)) parityExamplesUptoCard
end Rows
end Go.Proofs.YtnikhiohindggaaDoor
