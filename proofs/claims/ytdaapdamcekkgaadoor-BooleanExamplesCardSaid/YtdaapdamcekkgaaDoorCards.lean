/-
  DERIVED. GIVEN WITH THE SEED: THE CARDS: each row of YtdaapdamcekkgaaDoorRows.lean that lists a variable, with what it lists TIED to the program's text (the seventh form; the later family's looks); each row that meets fmt, with fmt's text TOLD by the authors' own Lean function (tested against real Go, not proved from fmt's source: count such statements apart). THE CARD IS WHAT COUNTS. Prove the row's statement (the work); the ties are given (YtdaapdamcekkgaaDoorTie.lean); close each card by the builder's one call (the guide's Derived/Test/ToyasCard.lean, 'card_holds'). Laid BY PROGRAM, IN A SANDBOX (cutbox-door.mjs). By AI agents, Wed Nov 11 2026. No macro, syntax, notation, axiom, sorry.
-/
import Derived.Test.YtdaapdamcekkgaaDoorRows
import GoSem.ClaimSeven
namespace Go.Proofs.YtdaapdamcekkgaaDoor
namespace Rows

/-- THE TIED CARD OF 'sentinellaw09.BooleanMatches'. -/
def booleanMatchesCard : Claim7 := { stood := { row := booleanMatchesRow, standIns := [], harness := (true, "9107c101ace48df30dec9151199fc6a55f5ac12943d9bce7f5b28c95a3e8aff4"), looks := false }, kinds := [], alts := [], laidByText := true, laidKinds := [.data, .data, .data], laidTests := true, laidLooks := .later }
def BooleanMatchesCardSaid : Prop := Claim7.holds Tryd.pinned (.plain (OpenSpec.ofChange booleanMatchesSpec)) booleanMatchesCard

/-- THE TIED CARD OF 'sentinellaw09.BooleanWords'. -/
def booleanWordsCard : Claim7 := { stood := { row := booleanWordsRow, standIns := [], harness := (true, "9107c101ace48df30dec9151199fc6a55f5ac12943d9bce7f5b28c95a3e8aff4"), looks := false }, kinds := [], alts := [], laidByText := true, laidKinds := [.data, .data, .data], laidTests := true, laidLooks := .later }
def BooleanWordsCardSaid : Prop := Claim7.holds Tryd.pinned (.plain (OpenSpec.ofChange booleanWordsSpec)) booleanWordsCard

/-- THE TIED CARD OF 'sentinellaw09.BooleanLaws'. -/
def booleanLawsCard : Claim7 := { stood := { row := booleanLawsRow, standIns := [], harness := (true, "9107c101ace48df30dec9151199fc6a55f5ac12943d9bce7f5b28c95a3e8aff4"), looks := false }, kinds := [], alts := [], laidByText := true, laidKinds := [.data, .data, .data], laidTests := true, laidLooks := .later }
def BooleanLawsCardSaid : Prop := Claim7.holds Tryd.pinned (.plain (OpenSpec.ofChange booleanLawsSpec)) booleanLawsCard

/-- THE TIED CARD OF 'sentinellaw09.BooleanInclusion'. -/
def booleanInclusionCard : Claim7 := { stood := { row := booleanInclusionRow, standIns := [], harness := (true, "9107c101ace48df30dec9151199fc6a55f5ac12943d9bce7f5b28c95a3e8aff4"), looks := false }, kinds := [], alts := [], laidByText := true, laidKinds := [.data, .data, .data], laidTests := true, laidLooks := .later }
def BooleanInclusionCardSaid : Prop := Claim7.holds Tryd.pinned (.plain (OpenSpec.ofChange booleanInclusionSpec)) booleanInclusionCard

/-- THE TIED CARD OF 'sentinellaw09.BooleanDecides'. -/
def booleanDecidesCard : Claim7 := { stood := { row := booleanDecidesRow, standIns := [], harness := (true, "9107c101ace48df30dec9151199fc6a55f5ac12943d9bce7f5b28c95a3e8aff4"), looks := false }, kinds := [], alts := [], laidByText := true, laidKinds := [.data, .data, .data], laidTests := true, laidLooks := .later }
def BooleanDecidesCardSaid : Prop := Claim7.holds Tryd.pinned (.plain (OpenSpec.ofChange booleanDecidesSpec)) booleanDecidesCard

/-- THE TIED CARD OF 'sentinellaw09.BooleanExamples'. -/
def booleanExamplesCard : Claim7 := { stood := { row := booleanExamplesRow, standIns := [], harness := (true, "9107c101ace48df30dec9151199fc6a55f5ac12943d9bce7f5b28c95a3e8aff4"), looks := false }, kinds := [], alts := [], laidByText := true, laidKinds := [.data, .data, .data], laidTests := true, laidLooks := .later }
def BooleanExamplesCardSaid : Prop := Claim7.holds Tryd.pinned (.plain (OpenSpec.ofChange booleanExamplesSpec)) booleanExamplesCard

/-- THE TIED CARD OF 'sentinellaw09.BooleanAll'. -/
def booleanAllCard : Claim7 := { stood := { row := booleanAllRow, standIns := [], harness := (true, "9107c101ace48df30dec9151199fc6a55f5ac12943d9bce7f5b28c95a3e8aff4"), looks := false }, kinds := [], alts := [], laidByText := true, laidKinds := [.data, .data, .data], laidTests := true, laidLooks := .later }
def BooleanAllCardSaid : Prop := Claim7.holds Tryd.pinned (.plain (OpenSpec.ofChange booleanAllSpec)) booleanAllCard

/-- THE SECOND FORM's CARD OF 'sentinellaw09.BooleanMatches'. -/
def booleanMatchesUptoCard : Claim7 := { stood := { row := booleanMatchesUptoRow, standIns := [], harness := (true, "9107c101ace48df30dec9151199fc6a55f5ac12943d9bce7f5b28c95a3e8aff4"), looks := false }, kinds := [], alts := [], laidByText := true, laidKinds := [.data, .data, .data], laidTests := true, laidLooks := .later }
def BooleanMatchesUptoCardSaid : Prop := Claim7.holds Tryd.pinned (.plain (OpenSpec.upto booleanMatchesSpec)) booleanMatchesUptoCard

/-- THE SECOND FORM's CARD OF 'sentinellaw09.BooleanWords'. -/
def booleanWordsUptoCard : Claim7 := { stood := { row := booleanWordsUptoRow, standIns := [], harness := (true, "9107c101ace48df30dec9151199fc6a55f5ac12943d9bce7f5b28c95a3e8aff4"), looks := false }, kinds := [], alts := [], laidByText := true, laidKinds := [.data, .data, .data], laidTests := true, laidLooks := .later }
def BooleanWordsUptoCardSaid : Prop := Claim7.holds Tryd.pinned (.plain (OpenSpec.upto booleanWordsSpec)) booleanWordsUptoCard

/-- THE SECOND FORM's CARD OF 'sentinellaw09.BooleanLaws'. -/
def booleanLawsUptoCard : Claim7 := { stood := { row := booleanLawsUptoRow, standIns := [], harness := (true, "9107c101ace48df30dec9151199fc6a55f5ac12943d9bce7f5b28c95a3e8aff4"), looks := false }, kinds := [], alts := [], laidByText := true, laidKinds := [.data, .data, .data], laidTests := true, laidLooks := .later }
def BooleanLawsUptoCardSaid : Prop := Claim7.holds Tryd.pinned (.plain (OpenSpec.upto booleanLawsSpec)) booleanLawsUptoCard

/-- THE SECOND FORM's CARD OF 'sentinellaw09.BooleanInclusion'. -/
def booleanInclusionUptoCard : Claim7 := { stood := { row := booleanInclusionUptoRow, standIns := [], harness := (true, "9107c101ace48df30dec9151199fc6a55f5ac12943d9bce7f5b28c95a3e8aff4"), looks := false }, kinds := [], alts := [], laidByText := true, laidKinds := [.data, .data, .data], laidTests := true, laidLooks := .later }
def BooleanInclusionUptoCardSaid : Prop := Claim7.holds Tryd.pinned (.plain (OpenSpec.upto booleanInclusionSpec)) booleanInclusionUptoCard

/-- THE SECOND FORM's CARD OF 'sentinellaw09.BooleanDecides'. -/
def booleanDecidesUptoCard : Claim7 := { stood := { row := booleanDecidesUptoRow, standIns := [], harness := (true, "9107c101ace48df30dec9151199fc6a55f5ac12943d9bce7f5b28c95a3e8aff4"), looks := false }, kinds := [], alts := [], laidByText := true, laidKinds := [.data, .data, .data], laidTests := true, laidLooks := .later }
def BooleanDecidesUptoCardSaid : Prop := Claim7.holds Tryd.pinned (.plain (OpenSpec.upto booleanDecidesSpec)) booleanDecidesUptoCard

/-- THE SECOND FORM's CARD OF 'sentinellaw09.BooleanExamples'. -/
def booleanExamplesUptoCard : Claim7 := { stood := { row := booleanExamplesUptoRow, standIns := [], harness := (true, "9107c101ace48df30dec9151199fc6a55f5ac12943d9bce7f5b28c95a3e8aff4"), looks := false }, kinds := [], alts := [], laidByText := true, laidKinds := [.data, .data, .data], laidTests := true, laidLooks := .later }
def BooleanExamplesUptoCardSaid : Prop := Claim7.holds Tryd.pinned (.plain (OpenSpec.upto booleanExamplesSpec)) booleanExamplesUptoCard

/-- THE SECOND FORM's CARD OF 'sentinellaw09.BooleanAll'. -/
def booleanAllUptoCard : Claim7 := { stood := { row := booleanAllUptoRow, standIns := [], harness := (true, "9107c101ace48df30dec9151199fc6a55f5ac12943d9bce7f5b28c95a3e8aff4"), looks := false }, kinds := [], alts := [], laidByText := true, laidKinds := [.data, .data, .data], laidTests := true, laidLooks := .later }
def BooleanAllUptoCardSaid : Prop := Claim7.holds Tryd.pinned (.plain (OpenSpec.upto booleanAllSpec)) booleanAllUptoCard
end Rows
end Go.Proofs.YtdaapdamcekkgaaDoor
