/-
  No cell of these rows narrows 'for every input' (looked for: loops, veiled, ifaces, maps, wideKeys, modest, calm, conditions, laid).
  DERIVED. THE GIVEN ROWS OF THIS SEAT. 8 by the template 'for every input the law returns true; each argument reads behind the call as it read before'; 0 by the template 'total and deterministic' (their statements: YtnamoapbienooaaTotals.lean).
  GIVEN WITH THE SEED: the statements are not yours to turn. If you find one false, say at which input.
  Laid BY PROGRAM, IN A SANDBOX (cutbox-rows.mjs): the forced cells as the released guide's own fill.sh prints them over the translation 8ffe48096a041c7a… (all of the seat's roots in one cut). By AI agents, Wed Nov 11 2026. No macro, syntax, notation, axiom, sorry.
-/
import Derived.Test.YtnamoapbienooaaChecked
import GoSem.Claim
import GoSem.ClaimJoined
import GoSem.ClaimMapViews
import Derived.JoinedTies
import Derived.KernelRfl
namespace Go.Proofs.Ytnamoapbienooaa
/- THE CELL 'sum', in the pinned program and in every row, IS THE sha256 OF THE DUMP (.gsa) THAT YtnamoapbienooaaProg.lean LOADS. Nothing in Lean hashes anything: it is a label: what it is worth is what the hold of that sum in a sandbox is worth. -/
noncomputable def Try.pinned : Pinned := { name := "ytnamoapbienooaa", sum := "8ffe48096a041c7afa2a245d2ed0f5517e3abe7d9246ab2c9ec699fdfaf5e7b1", checked := Try.checked }
namespace Rows
def none {H : Type} : Left H := { results := [], args := [] }

/-- 'sentinellaw25.BuchiMatches': WHATEVER THE INPUT: true; the input reads as it did. -/
def buchiMatchesSpec : ChangeSpec := { name := "buchiMatches", fn := fun _ => fun
  | [d1, d2] => { results := [.lit (.bool true)], args := [d1, d2] }
  | _ => none }
def buchiMatchesRow : OpenClaim := { program := "ytnamoapbienooaa", sum := "8ffe48096a041c7afa2a245d2ed0f5517e3abe7d9246ab2c9ec699fdfaf5e7b1", func := "sentinel/sentinellaw25.BuchiMatches", spec := "buchiMatches", unfollowed := true, recurses := true, apart := false }
def BuchiMatchesSaid : Prop := buchiMatchesRow.holds Try.pinned (OpenSpec.ofChange buchiMatchesSpec)

/-- ITS FALSE NEIGHBOUR: 'it returns false'. Refute it at one input. -/
def buchiMatchesWrong : ChangeSpec := { name := "buchiMatches", fn := fun _ => fun
  | [d1, d2] => { results := [.lit (.bool false)], args := [d1, d2] }
  | _ => none }
def BuchiMatchesWrongFalsely : Prop := buchiMatchesRow.holds Try.pinned (OpenSpec.ofChange buchiMatchesWrong)

/-- 'sentinellaw25.BuchiWitness': WHATEVER THE INPUT: true; the input reads as it did. -/
def buchiWitnessSpec : ChangeSpec := { name := "buchiWitness", fn := fun _ => fun
  | [d1, d2] => { results := [.lit (.bool true)], args := [d1, d2] }
  | _ => none }
def buchiWitnessRow : OpenClaim := { program := "ytnamoapbienooaa", sum := "8ffe48096a041c7afa2a245d2ed0f5517e3abe7d9246ab2c9ec699fdfaf5e7b1", func := "sentinel/sentinellaw25.BuchiWitness", spec := "buchiWitness", unfollowed := true, recurses := true, apart := false }
def BuchiWitnessSaid : Prop := buchiWitnessRow.holds Try.pinned (OpenSpec.ofChange buchiWitnessSpec)

/-- ITS FALSE NEIGHBOUR: 'it returns false'. Refute it at one input. -/
def buchiWitnessWrong : ChangeSpec := { name := "buchiWitness", fn := fun _ => fun
  | [d1, d2] => { results := [.lit (.bool false)], args := [d1, d2] }
  | _ => none }
def BuchiWitnessWrongFalsely : Prop := buchiWitnessRow.holds Try.pinned (OpenSpec.ofChange buchiWitnessWrong)

/-- 'sentinellaw25.BuchiMonotone': WHATEVER THE INPUT: true; the input reads as it did. -/
def buchiMonotoneSpec : ChangeSpec := { name := "buchiMonotone", fn := fun _ => fun
  | [d1, d2, d3, d4, d5, d6, d7] => { results := [.lit (.bool true)], args := [d1, d2, d3, d4, d5, d6, d7] }
  | _ => none }
def buchiMonotoneRow : OpenClaim := { program := "ytnamoapbienooaa", sum := "8ffe48096a041c7afa2a245d2ed0f5517e3abe7d9246ab2c9ec699fdfaf5e7b1", func := "sentinel/sentinellaw25.BuchiMonotone", spec := "buchiMonotone", unfollowed := true, recurses := true, apart := false }
def BuchiMonotoneSaid : Prop := buchiMonotoneRow.holds Try.pinned (OpenSpec.ofChange buchiMonotoneSpec)

/-- ITS FALSE NEIGHBOUR: 'it returns false'. Refute it at one input. -/
def buchiMonotoneWrong : ChangeSpec := { name := "buchiMonotone", fn := fun _ => fun
  | [d1, d2, d3, d4, d5, d6, d7] => { results := [.lit (.bool false)], args := [d1, d2, d3, d4, d5, d6, d7] }
  | _ => none }
def BuchiMonotoneWrongFalsely : Prop := buchiMonotoneRow.holds Try.pinned (OpenSpec.ofChange buchiMonotoneWrong)

/-- 'sentinellaw25.BuchiWords': WHATEVER THE INPUT: true; the input reads as it did. -/
def buchiWordsSpec : ChangeSpec := { name := "buchiWords", fn := fun _ => fun
  | [d1, d2] => { results := [.lit (.bool true)], args := [d1, d2] }
  | _ => none }
def buchiWordsRow : OpenClaim := { program := "ytnamoapbienooaa", sum := "8ffe48096a041c7afa2a245d2ed0f5517e3abe7d9246ab2c9ec699fdfaf5e7b1", func := "sentinel/sentinellaw25.BuchiWords", spec := "buchiWords", unfollowed := true, recurses := true, apart := false }
def BuchiWordsSaid : Prop := buchiWordsRow.holds Try.pinned (OpenSpec.ofChange buchiWordsSpec)

/-- ITS FALSE NEIGHBOUR: 'it returns false'. Refute it at one input. -/
def buchiWordsWrong : ChangeSpec := { name := "buchiWords", fn := fun _ => fun
  | [d1, d2] => { results := [.lit (.bool false)], args := [d1, d2] }
  | _ => none }
def BuchiWordsWrongFalsely : Prop := buchiWordsRow.holds Try.pinned (OpenSpec.ofChange buchiWordsWrong)

/-- 'sentinellaw25.BuchiFormsMatch': WHATEVER THE INPUT: true; the input reads as it did. -/
def buchiFormsMatchSpec : ChangeSpec := { name := "buchiFormsMatch", fn := fun _ => fun
  | [d] => { results := [.lit (.bool true)], args := [d] }
  | _ => none }
def buchiFormsMatchRow : OpenClaim := { program := "ytnamoapbienooaa", sum := "8ffe48096a041c7afa2a245d2ed0f5517e3abe7d9246ab2c9ec699fdfaf5e7b1", func := "sentinel/sentinellaw25.BuchiFormsMatch", spec := "buchiFormsMatch", unfollowed := true, recurses := true, apart := false }
def BuchiFormsMatchSaid : Prop := buchiFormsMatchRow.holds Try.pinned (OpenSpec.ofChange buchiFormsMatchSpec)

/-- ITS FALSE NEIGHBOUR: 'it returns false'. Refute it at one input. -/
def buchiFormsMatchWrong : ChangeSpec := { name := "buchiFormsMatch", fn := fun _ => fun
  | [d] => { results := [.lit (.bool false)], args := [d] }
  | _ => none }
def BuchiFormsMatchWrongFalsely : Prop := buchiFormsMatchRow.holds Try.pinned (OpenSpec.ofChange buchiFormsMatchWrong)

/-- 'sentinellaw25.BuchiPairsMatch': WHATEVER THE INPUT: true; the input reads as it did. -/
def buchiPairsMatchSpec : ChangeSpec := { name := "buchiPairsMatch", fn := fun _ => fun
  | [d1, d2] => { results := [.lit (.bool true)], args := [d1, d2] }
  | _ => none }
def buchiPairsMatchRow : OpenClaim := { program := "ytnamoapbienooaa", sum := "8ffe48096a041c7afa2a245d2ed0f5517e3abe7d9246ab2c9ec699fdfaf5e7b1", func := "sentinel/sentinellaw25.BuchiPairsMatch", spec := "buchiPairsMatch", unfollowed := true, recurses := true, apart := false }
def BuchiPairsMatchSaid : Prop := buchiPairsMatchRow.holds Try.pinned (OpenSpec.ofChange buchiPairsMatchSpec)

/-- ITS FALSE NEIGHBOUR: 'it returns false'. Refute it at one input. -/
def buchiPairsMatchWrong : ChangeSpec := { name := "buchiPairsMatch", fn := fun _ => fun
  | [d1, d2] => { results := [.lit (.bool false)], args := [d1, d2] }
  | _ => none }
def BuchiPairsMatchWrongFalsely : Prop := buchiPairsMatchRow.holds Try.pinned (OpenSpec.ofChange buchiPairsMatchWrong)

/-- 'sentinellaw25.BuchiOperations': WHATEVER THE INPUT: true; the input reads as it did. -/
def buchiOperationsSpec : ChangeSpec := { name := "buchiOperations", fn := fun _ => fun
  | [d1, d2, d3] => { results := [.lit (.bool true)], args := [d1, d2, d3] }
  | _ => none }
def buchiOperationsRow : OpenClaim := { program := "ytnamoapbienooaa", sum := "8ffe48096a041c7afa2a245d2ed0f5517e3abe7d9246ab2c9ec699fdfaf5e7b1", func := "sentinel/sentinellaw25.BuchiOperations", spec := "buchiOperations", unfollowed := true, recurses := true, apart := false }
def BuchiOperationsSaid : Prop := buchiOperationsRow.holds Try.pinned (OpenSpec.ofChange buchiOperationsSpec)

/-- ITS FALSE NEIGHBOUR: 'it returns false'. Refute it at one input. -/
def buchiOperationsWrong : ChangeSpec := { name := "buchiOperations", fn := fun _ => fun
  | [d1, d2, d3] => { results := [.lit (.bool false)], args := [d1, d2, d3] }
  | _ => none }
def BuchiOperationsWrongFalsely : Prop := buchiOperationsRow.holds Try.pinned (OpenSpec.ofChange buchiOperationsWrong)

/-- 'sentinellaw25.BuchiExamples': WHATEVER THE INPUT: true; the input reads as it did. -/
def buchiExamplesSpec : ChangeSpec := { name := "buchiExamples", fn := fun _ => fun
  | [] => { results := [.lit (.bool true)], args := [] }
  | _ => none }
def buchiExamplesRow : OpenClaim := { program := "ytnamoapbienooaa", sum := "8ffe48096a041c7afa2a245d2ed0f5517e3abe7d9246ab2c9ec699fdfaf5e7b1", func := "sentinel/sentinellaw25.BuchiExamples", spec := "buchiExamples", unfollowed := true, recurses := true, apart := false }
def BuchiExamplesSaid : Prop := buchiExamplesRow.holds Try.pinned (OpenSpec.ofChange buchiExamplesSpec)

/-- ITS FALSE NEIGHBOUR: 'it returns false'. Refute it at one input. -/
def buchiExamplesWrong : ChangeSpec := { name := "buchiExamples", fn := fun _ => fun
  | [] => { results := [.lit (.bool false)], args := [] }
  | _ => none }
def BuchiExamplesWrongFalsely : Prop := buchiExamplesRow.holds Try.pinned (OpenSpec.ofChange buchiExamplesWrong)

/- THE SECOND FORM. 'bulk': how many values and letters a reading holds, each counted each time it is reached (what is shared counts as often as it is met; a slice's spare places count too). A statement '..UptoSaid' is the law's where the arguments, and the package variables that the reading takes, are together of bulk at most 1048576: NARROWER than '..Said'. Prove '..Said' where nothing that the law and all that it calls make is longer than what came in: it says more and counts as full. Else prove '..UptoSaid'. A law counts once. -/
mutual
def uptoBulk {H : Type} : DataW H → Nat
  | .lit (.string bytes) => bytes.length + 1
  | .lit _ => 1
  | .nil => 1
  | .ptr d => uptoBulk d + 1
  | .slice elems spare => uptoBulkAll elems + uptoBulkAll spare + 1
  | .agg parts => uptoBulkAll parts + 1
  | .iface _ d => uptoBulk d + 1
  | .map entries => uptoBulkEntries entries + 1
  | .held _ => 1
def uptoBulkAll {H : Type} : List (DataW H) → Nat
  | [] => 0
  | d :: r => uptoBulk d + uptoBulkAll r
def uptoBulkEntries {H : Type} : List (Lit × DataW H) → Nat
  | [] => 0
  | x :: r => uptoBulkEntry x + uptoBulkEntries r
def uptoBulkEntry {H : Type} : Lit × DataW H → Nat
  | (.string bytes, d) => bytes.length + uptoBulk d + 1
  | (_, d) => uptoBulk d + 1
 end
def uptoSmall : (H : Type) → List (DataW H) → Bool := fun _ ds => decide (uptoBulkAll ds ≤ 1048576)
def OpenSpec.upto (s : _root_.Go.ChangeSpec) : _root_.Go.OpenSpec := { _root_.Go.OpenSpec.ofChange s with cond := some uptoSmall }

/-- 'sentinellaw25.BuchiMatches', WHERE WHAT IT READS IS OF BULK AT MOST 1048576: true; the input reads as it did. -/
def buchiMatchesUptoRow : OpenClaim := { program := "ytnamoapbienooaa", sum := "8ffe48096a041c7afa2a245d2ed0f5517e3abe7d9246ab2c9ec699fdfaf5e7b1", func := "sentinel/sentinellaw25.BuchiMatches", spec := "buchiMatches", unfollowed := true, recurses := true, apart := false, narrowed := true }
def BuchiMatchesUptoSaid : Prop := buchiMatchesUptoRow.holds Try.pinned (OpenSpec.upto buchiMatchesSpec)

/-- 'sentinellaw25.BuchiWitness', WHERE WHAT IT READS IS OF BULK AT MOST 1048576: true; the input reads as it did. -/
def buchiWitnessUptoRow : OpenClaim := { program := "ytnamoapbienooaa", sum := "8ffe48096a041c7afa2a245d2ed0f5517e3abe7d9246ab2c9ec699fdfaf5e7b1", func := "sentinel/sentinellaw25.BuchiWitness", spec := "buchiWitness", unfollowed := true, recurses := true, apart := false, narrowed := true }
def BuchiWitnessUptoSaid : Prop := buchiWitnessUptoRow.holds Try.pinned (OpenSpec.upto buchiWitnessSpec)

/-- 'sentinellaw25.BuchiMonotone', WHERE WHAT IT READS IS OF BULK AT MOST 1048576: true; the input reads as it did. -/
def buchiMonotoneUptoRow : OpenClaim := { program := "ytnamoapbienooaa", sum := "8ffe48096a041c7afa2a245d2ed0f5517e3abe7d9246ab2c9ec699fdfaf5e7b1", func := "sentinel/sentinellaw25.BuchiMonotone", spec := "buchiMonotone", unfollowed := true, recurses := true, apart := false, narrowed := true }
def BuchiMonotoneUptoSaid : Prop := buchiMonotoneUptoRow.holds Try.pinned (OpenSpec.upto buchiMonotoneSpec)

/-- 'sentinellaw25.BuchiWords', WHERE WHAT IT READS IS OF BULK AT MOST 1048576: true; the input reads as it did. -/
def buchiWordsUptoRow : OpenClaim := { program := "ytnamoapbienooaa", sum := "8ffe48096a041c7afa2a245d2ed0f5517e3abe7d9246ab2c9ec699fdfaf5e7b1", func := "sentinel/sentinellaw25.BuchiWords", spec := "buchiWords", unfollowed := true, recurses := true, apart := false, narrowed := true }
def BuchiWordsUptoSaid : Prop := buchiWordsUptoRow.holds Try.pinned (OpenSpec.upto buchiWordsSpec)

/-- 'sentinellaw25.BuchiFormsMatch', WHERE WHAT IT READS IS OF BULK AT MOST 1048576: true; the input reads as it did. -/
def buchiFormsMatchUptoRow : OpenClaim := { program := "ytnamoapbienooaa", sum := "8ffe48096a041c7afa2a245d2ed0f5517e3abe7d9246ab2c9ec699fdfaf5e7b1", func := "sentinel/sentinellaw25.BuchiFormsMatch", spec := "buchiFormsMatch", unfollowed := true, recurses := true, apart := false, narrowed := true }
def BuchiFormsMatchUptoSaid : Prop := buchiFormsMatchUptoRow.holds Try.pinned (OpenSpec.upto buchiFormsMatchSpec)

/-- 'sentinellaw25.BuchiPairsMatch', WHERE WHAT IT READS IS OF BULK AT MOST 1048576: true; the input reads as it did. -/
def buchiPairsMatchUptoRow : OpenClaim := { program := "ytnamoapbienooaa", sum := "8ffe48096a041c7afa2a245d2ed0f5517e3abe7d9246ab2c9ec699fdfaf5e7b1", func := "sentinel/sentinellaw25.BuchiPairsMatch", spec := "buchiPairsMatch", unfollowed := true, recurses := true, apart := false, narrowed := true }
def BuchiPairsMatchUptoSaid : Prop := buchiPairsMatchUptoRow.holds Try.pinned (OpenSpec.upto buchiPairsMatchSpec)

/-- 'sentinellaw25.BuchiOperations', WHERE WHAT IT READS IS OF BULK AT MOST 1048576: true; the input reads as it did. -/
def buchiOperationsUptoRow : OpenClaim := { program := "ytnamoapbienooaa", sum := "8ffe48096a041c7afa2a245d2ed0f5517e3abe7d9246ab2c9ec699fdfaf5e7b1", func := "sentinel/sentinellaw25.BuchiOperations", spec := "buchiOperations", unfollowed := true, recurses := true, apart := false, narrowed := true }
def BuchiOperationsUptoSaid : Prop := buchiOperationsUptoRow.holds Try.pinned (OpenSpec.upto buchiOperationsSpec)

/-- 'sentinellaw25.BuchiExamples', WHERE WHAT IT READS IS OF BULK AT MOST 1048576: true; the input reads as it did. -/
def buchiExamplesUptoRow : OpenClaim := { program := "ytnamoapbienooaa", sum := "8ffe48096a041c7afa2a245d2ed0f5517e3abe7d9246ab2c9ec699fdfaf5e7b1", func := "sentinel/sentinellaw25.BuchiExamples", spec := "buchiExamples", unfollowed := true, recurses := true, apart := false, narrowed := true }
def BuchiExamplesUptoSaid : Prop := buchiExamplesUptoRow.holds Try.pinned (OpenSpec.upto buchiExamplesSpec)

end Rows
end Go.Proofs.Ytnamoapbienooaa
