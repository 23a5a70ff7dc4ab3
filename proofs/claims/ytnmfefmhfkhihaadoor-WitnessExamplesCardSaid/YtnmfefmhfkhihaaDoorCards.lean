/-
  DERIVED. GIVEN WITH THE SEED: THE CARDS: each row of YtnmfefmhfkhihaaDoorRows.lean that lists a variable, with what it lists TIED to the program's text (the seventh form; the later family's looks); each row that meets fmt, with fmt's text TOLD by the authors' own Lean function (tested against real Go, not proved from fmt's source: count such statements apart). THE CARD IS WHAT COUNTS. Prove the row's statement (the work); the ties are given (YtnmfefmhfkhihaaDoorTie.lean); close each card by the builder's one call (the guide's Derived/Test/ToyasCard.lean, 'card_holds'). Laid BY PROGRAM, IN A SANDBOX (cutbox-door.mjs). By AI agents, Wed Nov 11 2026. No macro, syntax, notation, axiom, sorry.
-/
import Derived.Test.YtnmfefmhfkhihaaDoorRows
import GoSem.ClaimSeven
namespace Go.Proofs.YtnmfefmhfkhihaaDoor
namespace Rows

/-- THE TIED CARD OF 'sentinellaw12.WitnessLists'. -/
def witnessListsCard : Claim7 := { stood := { row := witnessListsRow, standIns := [], harness := (true, "46bdaafdfb6a95a371d2ba177a548a8b8667d8725d822723c9f6ae3cab7bc457"), looks := false }, kinds := [], alts := [], laidByText := true, laidKinds := [.data, .data, .data], laidTests := true, laidLooks := .later }
def WitnessListsCardSaid : Prop := Claim7.holds Tryd.pinned (.plain (OpenSpec.ofChange witnessListsSpec)) witnessListsCard

/-- THE TIED CARD OF 'sentinellaw12.WitnessExamples'. -/
def witnessExamplesCard : Claim7 := { stood := { row := witnessExamplesRow, standIns := [], harness := (true, "46bdaafdfb6a95a371d2ba177a548a8b8667d8725d822723c9f6ae3cab7bc457"), looks := false }, kinds := [], alts := [], laidByText := true, laidKinds := [.data, .data, .data], laidTests := true, laidLooks := .later }
def WitnessExamplesCardSaid : Prop := Claim7.holds Tryd.pinned (.plain (OpenSpec.ofChange witnessExamplesSpec)) witnessExamplesCard

/-- THE TIED CARD OF 'sentinellaw12.WitnessMatches'. -/
def witnessMatchesCard : Claim7 := { stood := { row := witnessMatchesRow, standIns := [], harness := (true, "46bdaafdfb6a95a371d2ba177a548a8b8667d8725d822723c9f6ae3cab7bc457"), looks := false }, kinds := [], alts := [], laidByText := true, laidKinds := [.data, .data, .data], laidTests := true, laidLooks := .later }
def WitnessMatchesCardSaid : Prop := Claim7.holds Tryd.pinned (.plain (OpenSpec.ofChange witnessMatchesSpec)) witnessMatchesCard

/-- THE TIED CARD OF 'sentinellaw12.WitnessOrder'. -/
def witnessOrderCard : Claim7 := { stood := { row := witnessOrderRow, standIns := [], harness := (true, "46bdaafdfb6a95a371d2ba177a548a8b8667d8725d822723c9f6ae3cab7bc457"), looks := false }, kinds := [], alts := [], laidByText := true, laidKinds := [.data, .data, .data], laidTests := true, laidLooks := .later }
def WitnessOrderCardSaid : Prop := Claim7.holds Tryd.pinned (.plain (OpenSpec.ofChange witnessOrderSpec)) witnessOrderCard

/-- THE TIED CARD OF 'sentinellaw12.WitnessLeast'. -/
def witnessLeastCard : Claim7 := { stood := { row := witnessLeastRow, standIns := [], harness := (true, "46bdaafdfb6a95a371d2ba177a548a8b8667d8725d822723c9f6ae3cab7bc457"), looks := false }, kinds := [], alts := [], laidByText := true, laidKinds := [.data, .data, .data], laidTests := true, laidLooks := .later }
def WitnessLeastCardSaid : Prop := Claim7.holds Tryd.pinned (.plain (OpenSpec.ofChange witnessLeastSpec)) witnessLeastCard

/-- THE TIED CARD OF 'sentinellaw12.WitnessCounts'. -/
def witnessCountsCard : Claim7 := { stood := { row := witnessCountsRow, standIns := [], harness := (true, "46bdaafdfb6a95a371d2ba177a548a8b8667d8725d822723c9f6ae3cab7bc457"), looks := false }, kinds := [], alts := [], laidByText := true, laidKinds := [.data, .data, .data], laidTests := true, laidLooks := .later }
def WitnessCountsCardSaid : Prop := Claim7.holds Tryd.pinned (.plain (OpenSpec.ofChange witnessCountsSpec)) witnessCountsCard

/-- THE TIED CARD OF 'sentinellaw12.WitnessFinite'. -/
def witnessFiniteCard : Claim7 := { stood := { row := witnessFiniteRow, standIns := [], harness := (true, "46bdaafdfb6a95a371d2ba177a548a8b8667d8725d822723c9f6ae3cab7bc457"), looks := false }, kinds := [], alts := [], laidByText := true, laidKinds := [.data, .data, .data], laidTests := true, laidLooks := .later }
def WitnessFiniteCardSaid : Prop := Claim7.holds Tryd.pinned (.plain (OpenSpec.ofChange witnessFiniteSpec)) witnessFiniteCard

/-- THE SECOND FORM's CARD OF 'sentinellaw12.WitnessLists'. -/
def witnessListsUptoCard : Claim7 := { stood := { row := witnessListsUptoRow, standIns := [], harness := (true, "46bdaafdfb6a95a371d2ba177a548a8b8667d8725d822723c9f6ae3cab7bc457"), looks := false }, kinds := [], alts := [], laidByText := true, laidKinds := [.data, .data, .data], laidTests := true, laidLooks := .later }
def WitnessListsUptoCardSaid : Prop := Claim7.holds Tryd.pinned (.plain (OpenSpec.upto witnessListsSpec)) witnessListsUptoCard

/-- THE SECOND FORM's CARD OF 'sentinellaw12.WitnessExamples'. -/
def witnessExamplesUptoCard : Claim7 := { stood := { row := witnessExamplesUptoRow, standIns := [], harness := (true, "46bdaafdfb6a95a371d2ba177a548a8b8667d8725d822723c9f6ae3cab7bc457"), looks := false }, kinds := [], alts := [], laidByText := true, laidKinds := [.data, .data, .data], laidTests := true, laidLooks := .later }
def WitnessExamplesUptoCardSaid : Prop := Claim7.holds Tryd.pinned (.plain (OpenSpec.upto witnessExamplesSpec)) witnessExamplesUptoCard

/-- THE SECOND FORM's CARD OF 'sentinellaw12.WitnessMatches'. -/
def witnessMatchesUptoCard : Claim7 := { stood := { row := witnessMatchesUptoRow, standIns := [], harness := (true, "46bdaafdfb6a95a371d2ba177a548a8b8667d8725d822723c9f6ae3cab7bc457"), looks := false }, kinds := [], alts := [], laidByText := true, laidKinds := [.data, .data, .data], laidTests := true, laidLooks := .later }
def WitnessMatchesUptoCardSaid : Prop := Claim7.holds Tryd.pinned (.plain (OpenSpec.upto witnessMatchesSpec)) witnessMatchesUptoCard

/-- THE SECOND FORM's CARD OF 'sentinellaw12.WitnessOrder'. -/
def witnessOrderUptoCard : Claim7 := { stood := { row := witnessOrderUptoRow, standIns := [], harness := (true, "46bdaafdfb6a95a371d2ba177a548a8b8667d8725d822723c9f6ae3cab7bc457"), looks := false }, kinds := [], alts := [], laidByText := true, laidKinds := [.data, .data, .data], laidTests := true, laidLooks := .later }
def WitnessOrderUptoCardSaid : Prop := Claim7.holds Tryd.pinned (.plain (OpenSpec.upto witnessOrderSpec)) witnessOrderUptoCard

/-- THE SECOND FORM's CARD OF 'sentinellaw12.WitnessLeast'. -/
def witnessLeastUptoCard : Claim7 := { stood := { row := witnessLeastUptoRow, standIns := [], harness := (true, "46bdaafdfb6a95a371d2ba177a548a8b8667d8725d822723c9f6ae3cab7bc457"), looks := false }, kinds := [], alts := [], laidByText := true, laidKinds := [.data, .data, .data], laidTests := true, laidLooks := .later }
def WitnessLeastUptoCardSaid : Prop := Claim7.holds Tryd.pinned (.plain (OpenSpec.upto witnessLeastSpec)) witnessLeastUptoCard

/-- THE SECOND FORM's CARD OF 'sentinellaw12.WitnessCounts'. -/
def witnessCountsUptoCard : Claim7 := { stood := { row := witnessCountsUptoRow, standIns := [], harness := (true, "46bdaafdfb6a95a371d2ba177a548a8b8667d8725d822723c9f6ae3cab7bc457"), looks := false }, kinds := [], alts := [], laidByText := true, laidKinds := [.data, .data, .data], laidTests := true, laidLooks := .later }
def WitnessCountsUptoCardSaid : Prop := Claim7.holds Tryd.pinned (.plain (OpenSpec.upto witnessCountsSpec)) witnessCountsUptoCard

/-- THE SECOND FORM's CARD OF 'sentinellaw12.WitnessFinite'. -/
def witnessFiniteUptoCard : Claim7 := { stood := { row := witnessFiniteUptoRow, standIns := [], harness := (true, "46bdaafdfb6a95a371d2ba177a548a8b8667d8725d822723c9f6ae3cab7bc457"), looks := false }, kinds := [], alts := [], laidByText := true, laidKinds := [.data, .data, .data], laidTests := true, laidLooks := .later }
def WitnessFiniteUptoCardSaid : Prop := Claim7.holds Tryd.pinned (.plain (OpenSpec.upto witnessFiniteSpec)) witnessFiniteUptoCard
end Rows
end Go.Proofs.YtnmfefmhfkhihaaDoor
