/-
  DERIVED. GIVEN WITH THE SEED: THE CARDS: each row of YthfemndklplpbaaDoorRows.lean that lists a variable, with what it lists TIED to the program's text (the seventh form; the later family's looks); each row that meets fmt, with fmt's text TOLD by the authors' own Lean function (tested against real Go, not proved from fmt's source: count such statements apart). THE CARD IS WHAT COUNTS. Prove the row's statement (the work); the ties are given (YthfemndklplpbaaDoorTie.lean); close each card by the builder's one call (the guide's Derived/Test/ToyasCard.lean, 'card_holds'). Laid BY PROGRAM, IN A SANDBOX (cutbox-door.mjs). By AI agents, Wed Nov 11 2026. No macro, syntax, notation, axiom, sorry.
-/
import Derived.Test.YthfemndklplpbaaDoorRows
import GoSem.ClaimSeven
namespace Go.Proofs.YthfemndklplpbaaDoor
namespace Rows

/-- THE TIED CARD OF 'sentinellaw08.MinimalMatches'. -/
def minimalMatchesCard : Claim7 := { stood := { row := minimalMatchesRow, standIns := [], harness := (true, "4c7209d77bb0172a7a592ff6cdaf42b9200a42da60a6cd6d85993a106403d472"), looks := false }, kinds := [], alts := [], laidByText := true, laidKinds := [.data, .data, .data], laidTests := true, laidLooks := .later }
def MinimalMatchesCardSaid : Prop := Claim7.holds Tryd.pinned (.plain (OpenSpec.ofChange minimalMatchesSpec)) minimalMatchesCard

/-- THE TIED CARD OF 'sentinellaw08.MinimalRounds'. -/
def minimalRoundsCard : Claim7 := { stood := { row := minimalRoundsRow, standIns := [], harness := (true, "4c7209d77bb0172a7a592ff6cdaf42b9200a42da60a6cd6d85993a106403d472"), looks := false }, kinds := [], alts := [], laidByText := true, laidKinds := [.data, .data, .data], laidTests := true, laidLooks := .later }
def MinimalRoundsCardSaid : Prop := Claim7.holds Tryd.pinned (.plain (OpenSpec.ofChange minimalRoundsSpec)) minimalRoundsCard

/-- THE TIED CARD OF 'sentinellaw08.MinimalTells'. -/
def minimalTellsCard : Claim7 := { stood := { row := minimalTellsRow, standIns := [], harness := (true, "4c7209d77bb0172a7a592ff6cdaf42b9200a42da60a6cd6d85993a106403d472"), looks := false }, kinds := [], alts := [], laidByText := true, laidKinds := [.data, .data, .data], laidTests := true, laidLooks := .later }
def MinimalTellsCardSaid : Prop := Claim7.holds Tryd.pinned (.plain (OpenSpec.ofChange minimalTellsSpec)) minimalTellsCard

/-- THE TIED CARD OF 'sentinellaw08.MinimalExamples'. -/
def minimalExamplesCard : Claim7 := { stood := { row := minimalExamplesRow, standIns := [], harness := (true, "4c7209d77bb0172a7a592ff6cdaf42b9200a42da60a6cd6d85993a106403d472"), looks := false }, kinds := [], alts := [], laidByText := true, laidKinds := [.data, .data, .data], laidTests := true, laidLooks := .later }
def MinimalExamplesCardSaid : Prop := Claim7.holds Tryd.pinned (.plain (OpenSpec.ofChange minimalExamplesSpec)) minimalExamplesCard

/-- THE TIED CARD OF 'sentinellaw08.MinimalWords'. -/
def minimalWordsCard : Claim7 := { stood := { row := minimalWordsRow, standIns := [], harness := (true, "4c7209d77bb0172a7a592ff6cdaf42b9200a42da60a6cd6d85993a106403d472"), looks := false }, kinds := [], alts := [], laidByText := true, laidKinds := [.data, .data, .data], laidTests := true, laidLooks := .later }
def MinimalWordsCardSaid : Prop := Claim7.holds Tryd.pinned (.plain (OpenSpec.ofChange minimalWordsSpec)) minimalWordsCard

/-- THE TIED CARD OF 'sentinellaw08.MinimalCanonical'. -/
def minimalCanonicalCard : Claim7 := { stood := { row := minimalCanonicalRow, standIns := [], harness := (true, "4c7209d77bb0172a7a592ff6cdaf42b9200a42da60a6cd6d85993a106403d472"), looks := false }, kinds := [], alts := [], laidByText := true, laidKinds := [.data, .data, .data], laidTests := true, laidLooks := .later }
def MinimalCanonicalCardSaid : Prop := Claim7.holds Tryd.pinned (.plain (OpenSpec.ofChange minimalCanonicalSpec)) minimalCanonicalCard

/-- THE TIED CARD OF 'sentinellaw08.MinimalDistinct'. -/
def minimalDistinctCard : Claim7 := { stood := { row := minimalDistinctRow, standIns := [], harness := (true, "4c7209d77bb0172a7a592ff6cdaf42b9200a42da60a6cd6d85993a106403d472"), looks := false }, kinds := [], alts := [], laidByText := true, laidKinds := [.data, .data, .data], laidTests := true, laidLooks := .later }
def MinimalDistinctCardSaid : Prop := Claim7.holds Tryd.pinned (.plain (OpenSpec.ofChange minimalDistinctSpec)) minimalDistinctCard

/-- THE SECOND FORM's CARD OF 'sentinellaw08.MinimalMatches'. -/
def minimalMatchesUptoCard : Claim7 := { stood := { row := minimalMatchesUptoRow, standIns := [], harness := (true, "4c7209d77bb0172a7a592ff6cdaf42b9200a42da60a6cd6d85993a106403d472"), looks := false }, kinds := [], alts := [], laidByText := true, laidKinds := [.data, .data, .data], laidTests := true, laidLooks := .later }
def MinimalMatchesUptoCardSaid : Prop := Claim7.holds Tryd.pinned (.plain (OpenSpec.upto minimalMatchesSpec)) minimalMatchesUptoCard

/-- THE SECOND FORM's CARD OF 'sentinellaw08.MinimalRounds'. -/
def minimalRoundsUptoCard : Claim7 := { stood := { row := minimalRoundsUptoRow, standIns := [], harness := (true, "4c7209d77bb0172a7a592ff6cdaf42b9200a42da60a6cd6d85993a106403d472"), looks := false }, kinds := [], alts := [], laidByText := true, laidKinds := [.data, .data, .data], laidTests := true, laidLooks := .later }
def MinimalRoundsUptoCardSaid : Prop := Claim7.holds Tryd.pinned (.plain (OpenSpec.upto minimalRoundsSpec)) minimalRoundsUptoCard

/-- THE SECOND FORM's CARD OF 'sentinellaw08.MinimalTells'. -/
def minimalTellsUptoCard : Claim7 := { stood := { row := minimalTellsUptoRow, standIns := [], harness := (true, "4c7209d77bb0172a7a592ff6cdaf42b9200a42da60a6cd6d85993a106403d472"), looks := false }, kinds := [], alts := [], laidByText := true, laidKinds := [.data, .data, .data], laidTests := true, laidLooks := .later }
def MinimalTellsUptoCardSaid : Prop := Claim7.holds Tryd.pinned (.plain (OpenSpec.upto minimalTellsSpec)) minimalTellsUptoCard

/-- THE SECOND FORM's CARD OF 'sentinellaw08.MinimalExamples'. -/
def minimalExamplesUptoCard : Claim7 := { stood := { row := minimalExamplesUptoRow, standIns := [], harness := (true, "4c7209d77bb0172a7a592ff6cdaf42b9200a42da60a6cd6d85993a106403d472"), looks := false }, kinds := [], alts := [], laidByText := true, laidKinds := [.data, .data, .data], laidTests := true, laidLooks := .later }
def MinimalExamplesUptoCardSaid : Prop := Claim7.holds Tryd.pinned (.plain (OpenSpec.upto minimalExamplesSpec)) minimalExamplesUptoCard

/-- THE SECOND FORM's CARD OF 'sentinellaw08.MinimalWords'. -/
def minimalWordsUptoCard : Claim7 := { stood := { row := minimalWordsUptoRow, standIns := [], harness := (true, "4c7209d77bb0172a7a592ff6cdaf42b9200a42da60a6cd6d85993a106403d472"), looks := false }, kinds := [], alts := [], laidByText := true, laidKinds := [.data, .data, .data], laidTests := true, laidLooks := .later }
def MinimalWordsUptoCardSaid : Prop := Claim7.holds Tryd.pinned (.plain (OpenSpec.upto minimalWordsSpec)) minimalWordsUptoCard

/-- THE SECOND FORM's CARD OF 'sentinellaw08.MinimalCanonical'. -/
def minimalCanonicalUptoCard : Claim7 := { stood := { row := minimalCanonicalUptoRow, standIns := [], harness := (true, "4c7209d77bb0172a7a592ff6cdaf42b9200a42da60a6cd6d85993a106403d472"), looks := false }, kinds := [], alts := [], laidByText := true, laidKinds := [.data, .data, .data], laidTests := true, laidLooks := .later }
def MinimalCanonicalUptoCardSaid : Prop := Claim7.holds Tryd.pinned (.plain (OpenSpec.upto minimalCanonicalSpec)) minimalCanonicalUptoCard

/-- THE SECOND FORM's CARD OF 'sentinellaw08.MinimalDistinct'. -/
def minimalDistinctUptoCard : Claim7 := { stood := { row := minimalDistinctUptoRow, standIns := [], harness := (true, "4c7209d77bb0172a7a592ff6cdaf42b9200a42da60a6cd6d85993a106403d472"), looks := false }, kinds := [], alts := [], laidByText := true, laidKinds := [.data, .data, .data], laidTests := true, laidLooks := .later }
def MinimalDistinctUptoCardSaid : Prop := Claim7.holds Tryd.pinned (.plain (OpenSpec.upto minimalDistinctSpec)) minimalDistinctUptoCard
end Rows
end Go.Proofs.YthfemndklplpbaaDoor
