/-
  DERIVED. GIVEN WITH THE SEED: THE CARDS: each row of YtnpehjpookcfkaaDoorRows.lean that lists a variable, with what it lists TIED to the program's text (the seventh form; the later family's looks); each row that meets fmt, with fmt's text TOLD by the authors' own Lean function (tested against real Go, not proved from fmt's source: count such statements apart). THE CARD IS WHAT COUNTS. Prove the row's statement (the work); the ties are given (YtnpehjpookcfkaaDoorTie.lean); close each card by the builder's one call (the guide's Derived/Test/ToyasCard.lean, 'card_holds'). Laid BY PROGRAM, IN A SANDBOX (cutbox-door.mjs). By AI agents, Wed Nov 11 2026. No macro, syntax, notation, axiom, sorry.
-/
import Derived.Test.YtnpehjpookcfkaaDoorRows
import GoSem.ClaimSeven
namespace Go.Proofs.YtnpehjpookcfkaaDoor
namespace Rows

/-- THE TIED CARD OF 'sentinellaw41.ContractMeans'. -/
def contractMeansCard : Claim7 := { stood := { row := contractMeansRow, standIns := [], harness := (true, "7bee76280ac4e5091a25e0b10af7aa2e217b7169dee226c590fc2fbd814a25ad"), looks := false }, kinds := [], alts := [], laidByText := true, laidKinds := [.data, .data, .data], laidTests := true, laidLooks := .later }
def ContractMeansCardSaid : Prop := Claim7.holds Tryd.pinned (.plain (OpenSpec.ofChange contractMeansSpec)) contractMeansCard

/-- THE TIED CARD OF 'sentinellaw41.ContractCommutes'. -/
def contractCommutesCard : Claim7 := { stood := { row := contractCommutesRow, standIns := [], harness := (true, "7bee76280ac4e5091a25e0b10af7aa2e217b7169dee226c590fc2fbd814a25ad"), looks := false }, kinds := [], alts := [], laidByText := true, laidKinds := [.data, .data, .data], laidTests := true, laidLooks := .later }
def ContractCommutesCardSaid : Prop := Claim7.holds Tryd.pinned (.plain (OpenSpec.ofChange contractCommutesSpec)) contractCommutesCard

/-- THE TIED CARD OF 'sentinellaw41.ContractBounds'. -/
def contractBoundsCard : Claim7 := { stood := { row := contractBoundsRow, standIns := [], harness := (true, "7bee76280ac4e5091a25e0b10af7aa2e217b7169dee226c590fc2fbd814a25ad"), looks := false }, kinds := [], alts := [], laidByText := true, laidKinds := [.data, .data, .data], laidTests := true, laidLooks := .later }
def ContractBoundsCardSaid : Prop := Claim7.holds Tryd.pinned (.plain (OpenSpec.ofChange contractBoundsSpec)) contractBoundsCard

/-- THE TIED CARD OF 'sentinellaw41.ContractSaturates'. -/
def contractSaturatesCard : Claim7 := { stood := { row := contractSaturatesRow, standIns := [], harness := (true, "7bee76280ac4e5091a25e0b10af7aa2e217b7169dee226c590fc2fbd814a25ad"), looks := false }, kinds := [], alts := [], laidByText := true, laidKinds := [.data, .data, .data], laidTests := true, laidLooks := .later }
def ContractSaturatesCardSaid : Prop := Claim7.holds Tryd.pinned (.plain (OpenSpec.ofChange contractSaturatesSpec)) contractSaturatesCard

/-- THE TIED CARD OF 'sentinellaw41.ContractOrders'. -/
def contractOrdersCard : Claim7 := { stood := { row := contractOrdersRow, standIns := [], harness := (true, "7bee76280ac4e5091a25e0b10af7aa2e217b7169dee226c590fc2fbd814a25ad"), looks := false }, kinds := [], alts := [], laidByText := true, laidKinds := [.data, .data, .data], laidTests := true, laidLooks := .later }
def ContractOrdersCardSaid : Prop := Claim7.holds Tryd.pinned (.plain (OpenSpec.ofChange contractOrdersSpec)) contractOrdersCard

/-- THE TIED CARD OF 'sentinellaw41.ContractComposes'. -/
def contractComposesCard : Claim7 := { stood := { row := contractComposesRow, standIns := [], harness := (true, "7bee76280ac4e5091a25e0b10af7aa2e217b7169dee226c590fc2fbd814a25ad"), looks := false }, kinds := [], alts := [], laidByText := true, laidKinds := [.data, .data, .data], laidTests := true, laidLooks := .later }
def ContractComposesCardSaid : Prop := Claim7.holds Tryd.pinned (.plain (OpenSpec.ofChange contractComposesSpec)) contractComposesCard

/-- THE SECOND FORM's CARD OF 'sentinellaw41.ContractMeans'. -/
def contractMeansUptoCard : Claim7 := { stood := { row := contractMeansUptoRow, standIns := [], harness := (true, "7bee76280ac4e5091a25e0b10af7aa2e217b7169dee226c590fc2fbd814a25ad"), looks := false }, kinds := [], alts := [], laidByText := true, laidKinds := [.data, .data, .data], laidTests := true, laidLooks := .later }
def ContractMeansUptoCardSaid : Prop := Claim7.holds Tryd.pinned (.plain (OpenSpec.upto contractMeansSpec)) contractMeansUptoCard

/-- THE SECOND FORM's CARD OF 'sentinellaw41.ContractCommutes'. -/
def contractCommutesUptoCard : Claim7 := { stood := { row := contractCommutesUptoRow, standIns := [], harness := (true, "7bee76280ac4e5091a25e0b10af7aa2e217b7169dee226c590fc2fbd814a25ad"), looks := false }, kinds := [], alts := [], laidByText := true, laidKinds := [.data, .data, .data], laidTests := true, laidLooks := .later }
def ContractCommutesUptoCardSaid : Prop := Claim7.holds Tryd.pinned (.plain (OpenSpec.upto contractCommutesSpec)) contractCommutesUptoCard

/-- THE SECOND FORM's CARD OF 'sentinellaw41.ContractBounds'. -/
def contractBoundsUptoCard : Claim7 := { stood := { row := contractBoundsUptoRow, standIns := [], harness := (true, "7bee76280ac4e5091a25e0b10af7aa2e217b7169dee226c590fc2fbd814a25ad"), looks := false }, kinds := [], alts := [], laidByText := true, laidKinds := [.data, .data, .data], laidTests := true, laidLooks := .later }
def ContractBoundsUptoCardSaid : Prop := Claim7.holds Tryd.pinned (.plain (OpenSpec.upto contractBoundsSpec)) contractBoundsUptoCard

/-- THE SECOND FORM's CARD OF 'sentinellaw41.ContractSaturates'. -/
def contractSaturatesUptoCard : Claim7 := { stood := { row := contractSaturatesUptoRow, standIns := [], harness := (true, "7bee76280ac4e5091a25e0b10af7aa2e217b7169dee226c590fc2fbd814a25ad"), looks := false }, kinds := [], alts := [], laidByText := true, laidKinds := [.data, .data, .data], laidTests := true, laidLooks := .later }
def ContractSaturatesUptoCardSaid : Prop := Claim7.holds Tryd.pinned (.plain (OpenSpec.upto contractSaturatesSpec)) contractSaturatesUptoCard

/-- THE SECOND FORM's CARD OF 'sentinellaw41.ContractOrders'. -/
def contractOrdersUptoCard : Claim7 := { stood := { row := contractOrdersUptoRow, standIns := [], harness := (true, "7bee76280ac4e5091a25e0b10af7aa2e217b7169dee226c590fc2fbd814a25ad"), looks := false }, kinds := [], alts := [], laidByText := true, laidKinds := [.data, .data, .data], laidTests := true, laidLooks := .later }
def ContractOrdersUptoCardSaid : Prop := Claim7.holds Tryd.pinned (.plain (OpenSpec.upto contractOrdersSpec)) contractOrdersUptoCard

/-- THE SECOND FORM's CARD OF 'sentinellaw41.ContractComposes'. -/
def contractComposesUptoCard : Claim7 := { stood := { row := contractComposesUptoRow, standIns := [], harness := (true, "7bee76280ac4e5091a25e0b10af7aa2e217b7169dee226c590fc2fbd814a25ad"), looks := false }, kinds := [], alts := [], laidByText := true, laidKinds := [.data, .data, .data], laidTests := true, laidLooks := .later }
def ContractComposesUptoCardSaid : Prop := Claim7.holds Tryd.pinned (.plain (OpenSpec.upto contractComposesSpec)) contractComposesUptoCard
end Rows
end Go.Proofs.YtnpehjpookcfkaaDoor
