/-
  DERIVED. GIVEN WITH THE SEED: THE CARDS: each row of YtjcophmajgcehaaGreatDoorRows.lean that lists a variable, with what it lists TIED to the program's text (the seventh form; the later family's looks); each row that meets fmt, with fmt's text TOLD by the authors' own Lean function (tested against real Go, not proved from fmt's source: count such statements apart). THE CARD IS WHAT COUNTS. Prove the row's statement (the work); the ties are given (YtjcophmajgcehaaGreatDoorTie.lean); close each card by the builder's one call (the guide's Derived/Test/ToyasCard.lean, 'card_holds'). Laid BY PROGRAM, IN A SANDBOX (cutbox-door.mjs). By AI agents, Wed Nov 11 2026. No macro, syntax, notation, axiom, sorry.
-/
import Derived.Test.YtjcophmajgcehaaGreatDoorRows
import GoSem.ClaimSeven
namespace Go.Proofs.YtjcophmajgcehaaGreatDoor
namespace Rows

/-- THE TIED CARD OF 'sentinellaw28.ParitySafra'. -/
def paritySafraCard : Claim7 := { stood := { row := paritySafraRow, standIns := [], harness := (true, "c340155125b2efaedc47489c1e3fa1d4c5e66cbbbf96daa78f51782f932bd453"), looks := false }, kinds := [], alts := [], laidByText := true, laidKinds := [.data, .data, .data], laidTests := true, laidLooks := .later }
def ParitySafraCardSaid : Prop := Claim7.holds Tryz.pinned (.plain (OpenSpec.ofChange paritySafraSpec)) paritySafraCard

/-- THE SECOND FORM's CARD OF 'sentinellaw28.ParitySafra'. -/
def paritySafraUptoCard : Claim7 := { stood := { row := paritySafraUptoRow, standIns := [], harness := (true, "c340155125b2efaedc47489c1e3fa1d4c5e66cbbbf96daa78f51782f932bd453"), looks := false }, kinds := [], alts := [], laidByText := true, laidKinds := [.data, .data, .data], laidTests := true, laidLooks := .later }
def ParitySafraUptoCardSaid : Prop := Claim7.holds Tryz.pinned (.plain (OpenSpec.upto paritySafraSpec)) paritySafraUptoCard
end Rows
end Go.Proofs.YtjcophmajgcehaaGreatDoor
