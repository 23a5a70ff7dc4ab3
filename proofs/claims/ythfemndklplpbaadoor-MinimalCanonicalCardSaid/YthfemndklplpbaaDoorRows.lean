/-
  NARROWER THAN 'FOR EVERY INPUT', by the rows' own cells (each row's printed sentence says how): MinimalMatches: laid · MinimalRounds: laid · MinimalTells: laid · MinimalExamples: laid · MinimalWords: laid · MinimalCanonical: laid · MinimalDistinct: laid.
  DERIVED. THE GIVEN ROWS OF THIS SEAT. 7 by the template 'for every input the law returns true; each argument reads behind the call as it read before'; 0 by the template 'total and deterministic' (their statements: YthfemndklplpbaaDoorTotals.lean).
  GIVEN WITH THE SEED: the statements are not yours to turn. If you find one false, say at which input.
  Laid BY PROGRAM, IN A SANDBOX (cutbox-rows.mjs): the forced cells as the released guide's own fill.sh prints them over the translation 195a687ce9771914… (all of the seat's roots in one cut). By AI agents, Wed Nov 11 2026. No macro, syntax, notation, axiom, sorry.
-/
import Derived.Test.YthfemndklplpbaaDoorChecked
import GoSem.Claim
import GoSem.ClaimJoined
import GoSem.ClaimMapViews
import Derived.JoinedTies
import Derived.KernelRfl
namespace Go.Proofs.YthfemndklplpbaaDoor
/- THE CELL 'sum', in the pinned program and in every row, IS THE sha256 OF THE DUMP (.gsa) THAT YthfemndklplpbaaDoorProg.lean LOADS. Nothing in Lean hashes anything: it is a label: what it is worth is what the hold of that sum in a sandbox is worth. -/
noncomputable def Tryd.pinned : Pinned := { name := "ythfemndklplpbaadoor", sum := "195a687ce9771914137de99e8af0508c57cecda72223c78e2b46a20b416d712a", checked := Tryd.checked }
namespace Rows
def none {H : Type} : Left H := { results := [], args := [] }

/- WHAT THE LISTED PACKAGE-LEVEL VARIABLES READ AS WHEN THE CALL BEGINS. Each datum BY PROGRAM (the guide's laid-datum.mjs) off the statement by which the dump's own 'gosem.cut.vars' lays the variable. In a bare row this is a premise. The card (YthfemndklplpbaaDoorCards.lean) ties it to the program's text. -/
def laid_math_bits_deBruijn32tab {H : Type} : DataW H := .agg [.lit (.int .u8 0), .lit (.int .u8 1), .lit (.int .u8 28), .lit (.int .u8 2), .lit (.int .u8 29), .lit (.int .u8 14), .lit (.int .u8 24), .lit (.int .u8 3), .lit (.int .u8 30), .lit (.int .u8 22), .lit (.int .u8 20), .lit (.int .u8 15), .lit (.int .u8 25), .lit (.int .u8 17), .lit (.int .u8 4), .lit (.int .u8 8), .lit (.int .u8 31), .lit (.int .u8 27), .lit (.int .u8 13), .lit (.int .u8 23), .lit (.int .u8 21), .lit (.int .u8 19), .lit (.int .u8 16), .lit (.int .u8 7), .lit (.int .u8 26), .lit (.int .u8 12), .lit (.int .u8 18), .lit (.int .u8 6), .lit (.int .u8 11), .lit (.int .u8 5), .lit (.int .u8 10), .lit (.int .u8 9)]
def laid_math_bits_deBruijn64tab {H : Type} : DataW H := .agg [.lit (.int .u8 0), .lit (.int .u8 1), .lit (.int .u8 56), .lit (.int .u8 2), .lit (.int .u8 57), .lit (.int .u8 49), .lit (.int .u8 28), .lit (.int .u8 3), .lit (.int .u8 61), .lit (.int .u8 58), .lit (.int .u8 42), .lit (.int .u8 50), .lit (.int .u8 38), .lit (.int .u8 29), .lit (.int .u8 17), .lit (.int .u8 4), .lit (.int .u8 62), .lit (.int .u8 47), .lit (.int .u8 59), .lit (.int .u8 36), .lit (.int .u8 45), .lit (.int .u8 43), .lit (.int .u8 51), .lit (.int .u8 22), .lit (.int .u8 53), .lit (.int .u8 39), .lit (.int .u8 33), .lit (.int .u8 30), .lit (.int .u8 24), .lit (.int .u8 18), .lit (.int .u8 12), .lit (.int .u8 5), .lit (.int .u8 63), .lit (.int .u8 55), .lit (.int .u8 48), .lit (.int .u8 27), .lit (.int .u8 60), .lit (.int .u8 41), .lit (.int .u8 37), .lit (.int .u8 16), .lit (.int .u8 46), .lit (.int .u8 35), .lit (.int .u8 44), .lit (.int .u8 21), .lit (.int .u8 52), .lit (.int .u8 32), .lit (.int .u8 23), .lit (.int .u8 11), .lit (.int .u8 54), .lit (.int .u8 26), .lit (.int .u8 40), .lit (.int .u8 15), .lit (.int .u8 34), .lit (.int .u8 20), .lit (.int .u8 31), .lit (.int .u8 10), .lit (.int .u8 25), .lit (.int .u8 14), .lit (.int .u8 19), .lit (.int .u8 9), .lit (.int .u8 13), .lit (.int .u8 8), .lit (.int .u8 7), .lit (.int .u8 6)]
def laid_internal_strconv_uint64pow10 {H : Type} : DataW H := .agg [.lit (.int .u64 1), .lit (.int .u64 10), .lit (.int .u64 100), .lit (.int .u64 1000), .lit (.int .u64 10000), .lit (.int .u64 100000), .lit (.int .u64 1000000), .lit (.int .u64 10000000), .lit (.int .u64 100000000), .lit (.int .u64 1000000000), .lit (.int .u64 10000000000), .lit (.int .u64 100000000000), .lit (.int .u64 1000000000000), .lit (.int .u64 10000000000000), .lit (.int .u64 100000000000000), .lit (.int .u64 1000000000000000), .lit (.int .u64 10000000000000000), .lit (.int .u64 100000000000000000), .lit (.int .u64 1000000000000000000), .lit (.int .u64 10000000000000000000)]

/-- 'sentinellaw08.MinimalMatches': WHATEVER THE INPUT: true; the input reads as it did. -/
def minimalMatchesSpec : ChangeSpec := { name := "minimalMatches", fn := fun _ => fun
  | [d1, d2] => { results := [.lit (.bool true)], args := [d1, d2] }
  | _ => none }
def minimalMatchesRow : OpenClaim := { program := "ythfemndklplpbaadoor", sum := "195a687ce9771914137de99e8af0508c57cecda72223c78e2b46a20b416d712a", func := "sentinel/sentinellaw08.MinimalMatches", spec := "minimalMatches", unfollowed := true, recurses := true, named := ["internal/strconv.uint64pow10", "math/bits.deBruijn32tab", "math/bits.deBruijn64tab"], plainKeys := false, apart := false, laid := [("math/bits.deBruijn32tab", laid_math_bits_deBruijn32tab), ("math/bits.deBruijn64tab", laid_math_bits_deBruijn64tab), ("internal/strconv.uint64pow10", laid_internal_strconv_uint64pow10)] }
def MinimalMatchesSaid : Prop := minimalMatchesRow.holds Tryd.pinned (OpenSpec.ofChange minimalMatchesSpec)

/-- ITS FALSE NEIGHBOUR: 'it returns false'. Refute it at one input. -/
def minimalMatchesWrong : ChangeSpec := { name := "minimalMatches", fn := fun _ => fun
  | [d1, d2] => { results := [.lit (.bool false)], args := [d1, d2] }
  | _ => none }
def MinimalMatchesWrongFalsely : Prop := minimalMatchesRow.holds Tryd.pinned (OpenSpec.ofChange minimalMatchesWrong)

/-- 'sentinellaw08.MinimalRounds': WHATEVER THE INPUT: true; the input reads as it did. -/
def minimalRoundsSpec : ChangeSpec := { name := "minimalRounds", fn := fun _ => fun
  | [d1, d2, d3, d4] => { results := [.lit (.bool true)], args := [d1, d2, d3, d4] }
  | _ => none }
def minimalRoundsRow : OpenClaim := { program := "ythfemndklplpbaadoor", sum := "195a687ce9771914137de99e8af0508c57cecda72223c78e2b46a20b416d712a", func := "sentinel/sentinellaw08.MinimalRounds", spec := "minimalRounds", unfollowed := true, recurses := true, named := ["internal/strconv.uint64pow10", "math/bits.deBruijn32tab", "math/bits.deBruijn64tab"], plainKeys := false, apart := false, laid := [("math/bits.deBruijn32tab", laid_math_bits_deBruijn32tab), ("math/bits.deBruijn64tab", laid_math_bits_deBruijn64tab), ("internal/strconv.uint64pow10", laid_internal_strconv_uint64pow10)] }
def MinimalRoundsSaid : Prop := minimalRoundsRow.holds Tryd.pinned (OpenSpec.ofChange minimalRoundsSpec)

/-- ITS FALSE NEIGHBOUR: 'it returns false'. Refute it at one input. -/
def minimalRoundsWrong : ChangeSpec := { name := "minimalRounds", fn := fun _ => fun
  | [d1, d2, d3, d4] => { results := [.lit (.bool false)], args := [d1, d2, d3, d4] }
  | _ => none }
def MinimalRoundsWrongFalsely : Prop := minimalRoundsRow.holds Tryd.pinned (OpenSpec.ofChange minimalRoundsWrong)

/-- 'sentinellaw08.MinimalTells': WHATEVER THE INPUT: true; the input reads as it did. -/
def minimalTellsSpec : ChangeSpec := { name := "minimalTells", fn := fun _ => fun
  | [d1, d2, d3] => { results := [.lit (.bool true)], args := [d1, d2, d3] }
  | _ => none }
def minimalTellsRow : OpenClaim := { program := "ythfemndklplpbaadoor", sum := "195a687ce9771914137de99e8af0508c57cecda72223c78e2b46a20b416d712a", func := "sentinel/sentinellaw08.MinimalTells", spec := "minimalTells", unfollowed := true, recurses := true, named := ["internal/strconv.uint64pow10", "math/bits.deBruijn32tab", "math/bits.deBruijn64tab"], plainKeys := false, apart := false, laid := [("math/bits.deBruijn32tab", laid_math_bits_deBruijn32tab), ("math/bits.deBruijn64tab", laid_math_bits_deBruijn64tab), ("internal/strconv.uint64pow10", laid_internal_strconv_uint64pow10)] }
def MinimalTellsSaid : Prop := minimalTellsRow.holds Tryd.pinned (OpenSpec.ofChange minimalTellsSpec)

/-- ITS FALSE NEIGHBOUR: 'it returns false'. Refute it at one input. -/
def minimalTellsWrong : ChangeSpec := { name := "minimalTells", fn := fun _ => fun
  | [d1, d2, d3] => { results := [.lit (.bool false)], args := [d1, d2, d3] }
  | _ => none }
def MinimalTellsWrongFalsely : Prop := minimalTellsRow.holds Tryd.pinned (OpenSpec.ofChange minimalTellsWrong)

/-- 'sentinellaw08.MinimalExamples': WHATEVER THE INPUT: true; the input reads as it did. -/
def minimalExamplesSpec : ChangeSpec := { name := "minimalExamples", fn := fun _ => fun
  | [] => { results := [.lit (.bool true)], args := [] }
  | _ => none }
def minimalExamplesRow : OpenClaim := { program := "ythfemndklplpbaadoor", sum := "195a687ce9771914137de99e8af0508c57cecda72223c78e2b46a20b416d712a", func := "sentinel/sentinellaw08.MinimalExamples", spec := "minimalExamples", unfollowed := true, recurses := true, named := ["internal/strconv.uint64pow10", "math/bits.deBruijn32tab", "math/bits.deBruijn64tab"], plainKeys := false, apart := false, laid := [("math/bits.deBruijn32tab", laid_math_bits_deBruijn32tab), ("math/bits.deBruijn64tab", laid_math_bits_deBruijn64tab), ("internal/strconv.uint64pow10", laid_internal_strconv_uint64pow10)] }
def MinimalExamplesSaid : Prop := minimalExamplesRow.holds Tryd.pinned (OpenSpec.ofChange minimalExamplesSpec)

/-- ITS FALSE NEIGHBOUR: 'it returns false'. Refute it at one input. -/
def minimalExamplesWrong : ChangeSpec := { name := "minimalExamples", fn := fun _ => fun
  | [] => { results := [.lit (.bool false)], args := [] }
  | _ => none }
def MinimalExamplesWrongFalsely : Prop := minimalExamplesRow.holds Tryd.pinned (OpenSpec.ofChange minimalExamplesWrong)

/-- 'sentinellaw08.MinimalWords': WHATEVER THE INPUT: true; the input reads as it did. -/
def minimalWordsSpec : ChangeSpec := { name := "minimalWords", fn := fun _ => fun
  | [d1, d2] => { results := [.lit (.bool true)], args := [d1, d2] }
  | _ => none }
def minimalWordsRow : OpenClaim := { program := "ythfemndklplpbaadoor", sum := "195a687ce9771914137de99e8af0508c57cecda72223c78e2b46a20b416d712a", func := "sentinel/sentinellaw08.MinimalWords", spec := "minimalWords", unfollowed := true, recurses := true, named := ["internal/strconv.uint64pow10", "math/bits.deBruijn32tab", "math/bits.deBruijn64tab"], plainKeys := false, apart := false, laid := [("math/bits.deBruijn32tab", laid_math_bits_deBruijn32tab), ("math/bits.deBruijn64tab", laid_math_bits_deBruijn64tab), ("internal/strconv.uint64pow10", laid_internal_strconv_uint64pow10)] }
def MinimalWordsSaid : Prop := minimalWordsRow.holds Tryd.pinned (OpenSpec.ofChange minimalWordsSpec)

/-- ITS FALSE NEIGHBOUR: 'it returns false'. Refute it at one input. -/
def minimalWordsWrong : ChangeSpec := { name := "minimalWords", fn := fun _ => fun
  | [d1, d2] => { results := [.lit (.bool false)], args := [d1, d2] }
  | _ => none }
def MinimalWordsWrongFalsely : Prop := minimalWordsRow.holds Tryd.pinned (OpenSpec.ofChange minimalWordsWrong)

/-- 'sentinellaw08.MinimalCanonical': WHATEVER THE INPUT: true; the input reads as it did. -/
def minimalCanonicalSpec : ChangeSpec := { name := "minimalCanonical", fn := fun _ => fun
  | [d1, d2, d3] => { results := [.lit (.bool true)], args := [d1, d2, d3] }
  | _ => none }
def minimalCanonicalRow : OpenClaim := { program := "ythfemndklplpbaadoor", sum := "195a687ce9771914137de99e8af0508c57cecda72223c78e2b46a20b416d712a", func := "sentinel/sentinellaw08.MinimalCanonical", spec := "minimalCanonical", unfollowed := true, recurses := true, named := ["internal/strconv.uint64pow10", "math/bits.deBruijn32tab", "math/bits.deBruijn64tab"], plainKeys := false, apart := false, laid := [("math/bits.deBruijn32tab", laid_math_bits_deBruijn32tab), ("math/bits.deBruijn64tab", laid_math_bits_deBruijn64tab), ("internal/strconv.uint64pow10", laid_internal_strconv_uint64pow10)] }
def MinimalCanonicalSaid : Prop := minimalCanonicalRow.holds Tryd.pinned (OpenSpec.ofChange minimalCanonicalSpec)

/-- ITS FALSE NEIGHBOUR: 'it returns false'. Refute it at one input. -/
def minimalCanonicalWrong : ChangeSpec := { name := "minimalCanonical", fn := fun _ => fun
  | [d1, d2, d3] => { results := [.lit (.bool false)], args := [d1, d2, d3] }
  | _ => none }
def MinimalCanonicalWrongFalsely : Prop := minimalCanonicalRow.holds Tryd.pinned (OpenSpec.ofChange minimalCanonicalWrong)

/-- 'sentinellaw08.MinimalDistinct': WHATEVER THE INPUT: true; the input reads as it did. -/
def minimalDistinctSpec : ChangeSpec := { name := "minimalDistinct", fn := fun _ => fun
  | [d1, d2, d3, d4] => { results := [.lit (.bool true)], args := [d1, d2, d3, d4] }
  | _ => none }
def minimalDistinctRow : OpenClaim := { program := "ythfemndklplpbaadoor", sum := "195a687ce9771914137de99e8af0508c57cecda72223c78e2b46a20b416d712a", func := "sentinel/sentinellaw08.MinimalDistinct", spec := "minimalDistinct", unfollowed := true, recurses := true, named := ["internal/strconv.uint64pow10", "math/bits.deBruijn32tab", "math/bits.deBruijn64tab"], plainKeys := false, apart := false, laid := [("math/bits.deBruijn32tab", laid_math_bits_deBruijn32tab), ("math/bits.deBruijn64tab", laid_math_bits_deBruijn64tab), ("internal/strconv.uint64pow10", laid_internal_strconv_uint64pow10)] }
def MinimalDistinctSaid : Prop := minimalDistinctRow.holds Tryd.pinned (OpenSpec.ofChange minimalDistinctSpec)

/-- ITS FALSE NEIGHBOUR: 'it returns false'. Refute it at one input. -/
def minimalDistinctWrong : ChangeSpec := { name := "minimalDistinct", fn := fun _ => fun
  | [d1, d2, d3, d4] => { results := [.lit (.bool false)], args := [d1, d2, d3, d4] }
  | _ => none }
def MinimalDistinctWrongFalsely : Prop := minimalDistinctRow.holds Tryd.pinned (OpenSpec.ofChange minimalDistinctWrong)

/- THE SECOND FORM. 'bulk': how many values and letters a reading holds, each counted each time it is reached (what is shared counts as often as it is met; a slice's spare places count too). A statement '..UptoSaid' is the law's where the arguments, and the package variables that the reading takes, are together of bulk at most 1048576: NARROWER than '..Said'. Prove '..Said' where nothing that the law and all that it calls make is longer than what came in: it says more and counts as full. Else prove '..UptoSaid'. A law counts once. -/
mutual
def uptoBulk {H : Type} : DataW H → Nat
  | .lit (.string bytes) => bytes.length + 1
  | .lit _ => 1
  | .nil => 1
  | .ptr d => uptoBulk d + 1
  | .slice elems spare => uptoBulkAll elems + uptoBulkAll spare + 1
  | .agg parts => uptoBulkAll parts + 1
  | .iface _ d => uptoBulk d + 1
  | .map entries => uptoBulkEntries entries + 1
  | .held _ => 1
def uptoBulkAll {H : Type} : List (DataW H) → Nat
  | [] => 0
  | d :: r => uptoBulk d + uptoBulkAll r
def uptoBulkEntries {H : Type} : List (Lit × DataW H) → Nat
  | [] => 0
  | x :: r => uptoBulkEntry x + uptoBulkEntries r
def uptoBulkEntry {H : Type} : Lit × DataW H → Nat
  | (.string bytes, d) => bytes.length + uptoBulk d + 1
  | (_, d) => uptoBulk d + 1
 end
def uptoSmall : (H : Type) → List (DataW H) → Bool := fun _ ds => decide (uptoBulkAll ds ≤ 1048576)
def OpenSpec.upto (s : _root_.Go.ChangeSpec) : _root_.Go.OpenSpec := { _root_.Go.OpenSpec.ofChange s with cond := some uptoSmall }

/-- 'sentinellaw08.MinimalMatches', WHERE WHAT IT READS IS OF BULK AT MOST 1048576: true; the input reads as it did. -/
def minimalMatchesUptoRow : OpenClaim := { program := "ythfemndklplpbaadoor", sum := "195a687ce9771914137de99e8af0508c57cecda72223c78e2b46a20b416d712a", func := "sentinel/sentinellaw08.MinimalMatches", spec := "minimalMatches", unfollowed := true, recurses := true, named := ["internal/strconv.uint64pow10", "math/bits.deBruijn32tab", "math/bits.deBruijn64tab"], plainKeys := false, apart := false, laid := [("math/bits.deBruijn32tab", laid_math_bits_deBruijn32tab), ("math/bits.deBruijn64tab", laid_math_bits_deBruijn64tab), ("internal/strconv.uint64pow10", laid_internal_strconv_uint64pow10)], narrowed := true }
def MinimalMatchesUptoSaid : Prop := minimalMatchesUptoRow.holds Tryd.pinned (OpenSpec.upto minimalMatchesSpec)

/-- 'sentinellaw08.MinimalRounds', WHERE WHAT IT READS IS OF BULK AT MOST 1048576: true; the input reads as it did. -/
def minimalRoundsUptoRow : OpenClaim := { program := "ythfemndklplpbaadoor", sum := "195a687ce9771914137de99e8af0508c57cecda72223c78e2b46a20b416d712a", func := "sentinel/sentinellaw08.MinimalRounds", spec := "minimalRounds", unfollowed := true, recurses := true, named := ["internal/strconv.uint64pow10", "math/bits.deBruijn32tab", "math/bits.deBruijn64tab"], plainKeys := false, apart := false, laid := [("math/bits.deBruijn32tab", laid_math_bits_deBruijn32tab), ("math/bits.deBruijn64tab", laid_math_bits_deBruijn64tab), ("internal/strconv.uint64pow10", laid_internal_strconv_uint64pow10)], narrowed := true }
def MinimalRoundsUptoSaid : Prop := minimalRoundsUptoRow.holds Tryd.pinned (OpenSpec.upto minimalRoundsSpec)

/-- 'sentinellaw08.MinimalTells', WHERE WHAT IT READS IS OF BULK AT MOST 1048576: true; the input reads as it did. -/
def minimalTellsUptoRow : OpenClaim := { program := "ythfemndklplpbaadoor", sum := "195a687ce9771914137de99e8af0508c57cecda72223c78e2b46a20b416d712a", func := "sentinel/sentinellaw08.MinimalTells", spec := "minimalTells", unfollowed := true, recurses := true, named := ["internal/strconv.uint64pow10", "math/bits.deBruijn32tab", "math/bits.deBruijn64tab"], plainKeys := false, apart := false, laid := [("math/bits.deBruijn32tab", laid_math_bits_deBruijn32tab), ("math/bits.deBruijn64tab", laid_math_bits_deBruijn64tab), ("internal/strconv.uint64pow10", laid_internal_strconv_uint64pow10)], narrowed := true }
def MinimalTellsUptoSaid : Prop := minimalTellsUptoRow.holds Tryd.pinned (OpenSpec.upto minimalTellsSpec)

/-- 'sentinellaw08.MinimalExamples', WHERE WHAT IT READS IS OF BULK AT MOST 1048576: true; the input reads as it did. -/
def minimalExamplesUptoRow : OpenClaim := { program := "ythfemndklplpbaadoor", sum := "195a687ce9771914137de99e8af0508c57cecda72223c78e2b46a20b416d712a", func := "sentinel/sentinellaw08.MinimalExamples", spec := "minimalExamples", unfollowed := true, recurses := true, named := ["internal/strconv.uint64pow10", "math/bits.deBruijn32tab", "math/bits.deBruijn64tab"], plainKeys := false, apart := false, laid := [("math/bits.deBruijn32tab", laid_math_bits_deBruijn32tab), ("math/bits.deBruijn64tab", laid_math_bits_deBruijn64tab), ("internal/strconv.uint64pow10", laid_internal_strconv_uint64pow10)], narrowed := true }
def MinimalExamplesUptoSaid : Prop := minimalExamplesUptoRow.holds Tryd.pinned (OpenSpec.upto minimalExamplesSpec)

/-- 'sentinellaw08.MinimalWords', WHERE WHAT IT READS IS OF BULK AT MOST 1048576: true; the input reads as it did. -/
def minimalWordsUptoRow : OpenClaim := { program := "ythfemndklplpbaadoor", sum := "195a687ce9771914137de99e8af0508c57cecda72223c78e2b46a20b416d712a", func := "sentinel/sentinellaw08.MinimalWords", spec := "minimalWords", unfollowed := true, recurses := true, named := ["internal/strconv.uint64pow10", "math/bits.deBruijn32tab", "math/bits.deBruijn64tab"], plainKeys := false, apart := false, laid := [("math/bits.deBruijn32tab", laid_math_bits_deBruijn32tab), ("math/bits.deBruijn64tab", laid_math_bits_deBruijn64tab), ("internal/strconv.uint64pow10", laid_internal_strconv_uint64pow10)], narrowed := true }
def MinimalWordsUptoSaid : Prop := minimalWordsUptoRow.holds Tryd.pinned (OpenSpec.upto minimalWordsSpec)

/-- 'sentinellaw08.MinimalCanonical', WHERE WHAT IT READS IS OF BULK AT MOST 1048576: true; the input reads as it did. -/
def minimalCanonicalUptoRow : OpenClaim := { program := "ythfemndklplpbaadoor", sum := "195a687ce9771914137de99e8af0508c57cecda72223c78e2b46a20b416d712a", func := "sentinel/sentinellaw08.MinimalCanonical", spec := "minimalCanonical", unfollowed := true, recurses := true, named := ["internal/strconv.uint64pow10", "math/bits.deBruijn32tab", "math/bits.deBruijn64tab"], plainKeys := false, apart := false, laid := [("math/bits.deBruijn32tab", laid_math_bits_deBruijn32tab), ("math/bits.deBruijn64tab", laid_math_bits_deBruijn64tab), ("internal/strconv.uint64pow10", laid_internal_strconv_uint64pow10)], narrowed := true }
def MinimalCanonicalUptoSaid : Prop := minimalCanonicalUptoRow.holds Tryd.pinned (OpenSpec.upto minimalCanonicalSpec)

/-- 'sentinellaw08.MinimalDistinct', WHERE WHAT IT READS IS OF BULK AT MOST 1048576: true; the input reads as it did. -/
def minimalDistinctUptoRow : OpenClaim := { program := "ythfemndklplpbaadoor", sum := "195a687ce9771914137de99e8af0508c57cecda72223c78e2b46a20b416d712a", func := "sentinel/sentinellaw08.MinimalDistinct", spec := "minimalDistinct", unfollowed := true, recurses := true, named := ["internal/strconv.uint64pow10", "math/bits.deBruijn32tab", "math/bits.deBruijn64tab"], plainKeys := false, apart := false, laid := [("math/bits.deBruijn32tab", laid_math_bits_deBruijn32tab), ("math/bits.deBruijn64tab", laid_math_bits_deBruijn64tab), ("internal/strconv.uint64pow10", laid_internal_strconv_uint64pow10)], narrowed := true }
def MinimalDistinctUptoSaid : Prop := minimalDistinctUptoRow.holds Tryd.pinned (OpenSpec.upto minimalDistinctSpec)

end Rows
end Go.Proofs.YthfemndklplpbaaDoor
