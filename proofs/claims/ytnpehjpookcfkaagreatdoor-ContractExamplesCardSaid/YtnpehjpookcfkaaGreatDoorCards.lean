/-
  DERIVED. GIVEN WITH THE SEED: THE CARDS: each row of YtnpehjpookcfkaaGreatDoorRows.lean that lists a variable, with what it lists TIED to the program's text (the seventh form; the later family's looks); each row that meets fmt, with fmt's text TOLD by the authors' own Lean function (tested against real Go, not proved from fmt's source: count such statements apart). THE CARD IS WHAT COUNTS. Prove the row's statement (the work); the ties are given (YtnpehjpookcfkaaGreatDoorTie.lean); close each card by the builder's one call (the guide's Derived/Test/ToyasCard.lean, 'card_holds'). Laid BY PROGRAM, IN A SANDBOX (cutbox-door.mjs). By AI agents, Wed Nov 11 2026. No macro, syntax, notation, axiom, sorry.
-/
import Derived.Test.YtnpehjpookcfkaaGreatDoorRows
import GoSem.ClaimSeven
namespace Go.Proofs.YtnpehjpookcfkaaGreatDoor
namespace Rows

/-- THE TIED CARD OF 'sentinellaw41.ContractMatches'. -/
def contractMatchesCard : Claim7 := { stood := { row := contractMatchesRow, standIns := [], harness := (true, "fb730457a99908a7ba348c223133e40a6a7178796dc5c30de56b57a049b28e94"), looks := false }, kinds := [], alts := [], laidByText := true, laidKinds := [.data, .data, .data], laidTests := true, laidLooks := .later }
def ContractMatchesCardSaid : Prop := Claim7.holds Tryz.pinned (.plain (OpenSpec.ofChange contractMatchesSpec)) contractMatchesCard

/-- THE TIED CARD OF 'sentinellaw41.ContractPairs'. -/
def contractPairsCard : Claim7 := { stood := { row := contractPairsRow, standIns := [], harness := (true, "fb730457a99908a7ba348c223133e40a6a7178796dc5c30de56b57a049b28e94"), looks := false }, kinds := [], alts := [], laidByText := true, laidKinds := [.data, .data, .data], laidTests := true, laidLooks := .later }
def ContractPairsCardSaid : Prop := Claim7.holds Tryz.pinned (.plain (OpenSpec.ofChange contractPairsSpec)) contractPairsCard

/-- THE TIED CARD OF 'sentinellaw41.ContractExamples'. -/
def contractExamplesCard : Claim7 := { stood := { row := contractExamplesRow, standIns := [], harness := (true, "fb730457a99908a7ba348c223133e40a6a7178796dc5c30de56b57a049b28e94"), looks := false }, kinds := [], alts := [], laidByText := true, laidKinds := [.data, .data, .data], laidTests := true, laidLooks := .later }
def ContractExamplesCardSaid : Prop := Claim7.holds Tryz.pinned (.plain (OpenSpec.ofChange contractExamplesSpec)) contractExamplesCard

/-- THE SECOND FORM's CARD OF 'sentinellaw41.ContractMatches'. -/
def contractMatchesUptoCard : Claim7 := { stood := { row := contractMatchesUptoRow, standIns := [], harness := (true, "fb730457a99908a7ba348c223133e40a6a7178796dc5c30de56b57a049b28e94"), looks := false }, kinds := [], alts := [], laidByText := true, laidKinds := [.data, .data, .data], laidTests := true, laidLooks := .later }
def ContractMatchesUptoCardSaid : Prop := Claim7.holds Tryz.pinned (.plain (OpenSpec.upto contractMatchesSpec)) contractMatchesUptoCard

/-- THE SECOND FORM's CARD OF 'sentinellaw41.ContractPairs'. -/
def contractPairsUptoCard : Claim7 := { stood := { row := contractPairsUptoRow, standIns := [], harness := (true, "fb730457a99908a7ba348c223133e40a6a7178796dc5c30de56b57a049b28e94"), looks := false }, kinds := [], alts := [], laidByText := true, laidKinds := [.data, .data, .data], laidTests := true, laidLooks := .later }
def ContractPairsUptoCardSaid : Prop := Claim7.holds Tryz.pinned (.plain (OpenSpec.upto contractPairsSpec)) contractPairsUptoCard

/-- THE SECOND FORM's CARD OF 'sentinellaw41.ContractExamples'. -/
def contractExamplesUptoCard : Claim7 := { stood := { row := contractExamplesUptoRow, standIns := [], harness := (true, "fb730457a99908a7ba348c223133e40a6a7178796dc5c30de56b57a049b28e94"), looks := false }, kinds := [], alts := [], laidByText := true, laidKinds := [.data, .data, .data], laidTests := true, laidLooks := .later }
def ContractExamplesUptoCardSaid : Prop := Claim7.holds Tryz.pinned (.plain (OpenSpec.upto contractExamplesSpec)) contractExamplesUptoCard
end Rows
end Go.Proofs.YtnpehjpookcfkaaGreatDoor
