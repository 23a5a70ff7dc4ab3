/-
  NARROWER THAN 'FOR EVERY INPUT', by the rows' own cells (each row's printed sentence says how): ParityMatches: laid · ParityFormsMatch: laid · ParityDiffers: laid · ParityReduce: laid · ParityComplement: laid · ParityQuotient: laid · ParityExamples: laid.
  DERIVED. THE GIVEN ROWS OF THIS SEAT. 7 by the template 'for every input the law returns true; each argument reads behind the call as it read before'; 0 by the template 'total and deterministic' (their statements: YtnikhiohindggaaDoorTotals.lean).
  GIVEN WITH THE SEED: the statements are not yours to turn. If you find one false, say at which input.
  Laid BY PROGRAM, IN A SANDBOX (cutbox-rows.mjs): the forced cells as the released guide's own fill.sh prints them over the translation 698a01433cf39de1… (all of the seat's roots in one cut). By AI agents, Wed Nov 11 2026. No macro, syntax, notation, axiom, sorry.
-/
import Derived.Test.YtnikhiohindggaaDoorChecked
import GoSem.Claim
import GoSem.ClaimJoined
import GoSem.ClaimMapViews
import Derived.JoinedTies
import Derived.KernelRfl
namespace Go.Proofs.YtnikhiohindggaaDoor
/- THE CELL 'sum', in the pinned program and in every row, IS THE sha256 OF THE DUMP (.gsa) THAT YtnikhiohindggaaDoorProg.lean LOADS. Nothing in Lean hashes anything: it is a label: what it is worth is what the hold of that sum in a sandbox is worth. -/
noncomputable def Tryd.pinned : Pinned := { name := "ytnikhiohindggaadoor", sum := "698a01433cf39de1421da89e5b503adcecfcb827ad56c100b8a767e3f9d94bff", checked := Tryd.checked }
namespace Rows
def none {H : Type} : Left H := { results := [], args := [] }

/- WHAT THE LISTED PACKAGE-LEVEL VARIABLES READ AS WHEN THE CALL BEGINS. Each datum BY PROGRAM (the guide's laid-datum.mjs) off the statement by which the dump's own 'gosem.cut.vars' lays the variable. In a bare row this is a premise. The card (YtnikhiohindggaaDoorCards.lean) ties it to the program's text. -/
def laid_math_bits_deBruijn32tab {H : Type} : DataW H := .agg [.lit (.int .u8 0), .lit (.int .u8 1), .lit (.int .u8 28), .lit (.int .u8 2), .lit (.int .u8 29), .lit (.int .u8 14), .lit (.int .u8 24), .lit (.int .u8 3), .lit (.int .u8 30), .lit (.int .u8 22), .lit (.int .u8 20), .lit (.int .u8 15), .lit (.int .u8 25), .lit (.int .u8 17), .lit (.int .u8 4), .lit (.int .u8 8), .lit (.int .u8 31), .lit (.int .u8 27), .lit (.int .u8 13), .lit (.int .u8 23), .lit (.int .u8 21), .lit (.int .u8 19), .lit (.int .u8 16), .lit (.int .u8 7), .lit (.int .u8 26), .lit (.int .u8 12), .lit (.int .u8 18), .lit (.int .u8 6), .lit (.int .u8 11), .lit (.int .u8 5), .lit (.int .u8 10), .lit (.int .u8 9)]
def laid_math_bits_deBruijn64tab {H : Type} : DataW H := .agg [.lit (.int .u8 0), .lit (.int .u8 1), .lit (.int .u8 56), .lit (.int .u8 2), .lit (.int .u8 57), .lit (.int .u8 49), .lit (.int .u8 28), .lit (.int .u8 3), .lit (.int .u8 61), .lit (.int .u8 58), .lit (.int .u8 42), .lit (.int .u8 50), .lit (.int .u8 38), .lit (.int .u8 29), .lit (.int .u8 17), .lit (.int .u8 4), .lit (.int .u8 62), .lit (.int .u8 47), .lit (.int .u8 59), .lit (.int .u8 36), .lit (.int .u8 45), .lit (.int .u8 43), .lit (.int .u8 51), .lit (.int .u8 22), .lit (.int .u8 53), .lit (.int .u8 39), .lit (.int .u8 33), .lit (.int .u8 30), .lit (.int .u8 24), .lit (.int .u8 18), .lit (.int .u8 12), .lit (.int .u8 5), .lit (.int .u8 63), .lit (.int .u8 55), .lit (.int .u8 48), .lit (.int .u8 27), .lit (.int .u8 60), .lit (.int .u8 41), .lit (.int .u8 37), .lit (.int .u8 16), .lit (.int .u8 46), .lit (.int .u8 35), .lit (.int .u8 44), .lit (.int .u8 21), .lit (.int .u8 52), .lit (.int .u8 32), .lit (.int .u8 23), .lit (.int .u8 11), .lit (.int .u8 54), .lit (.int .u8 26), .lit (.int .u8 40), .lit (.int .u8 15), .lit (.int .u8 34), .lit (.int .u8 20), .lit (.int .u8 31), .lit (.int .u8 10), .lit (.int .u8 25), .lit (.int .u8 14), .lit (.int .u8 19), .lit (.int .u8 9), .lit (.int .u8 13), .lit (.int .u8 8), .lit (.int .u8 7), .lit (.int .u8 6)]
def laid_internal_strconv_uint64pow10 {H : Type} : DataW H := .agg [.lit (.int .u64 1), .lit (.int .u64 10), .lit (.int .u64 100), .lit (.int .u64 1000), .lit (.int .u64 10000), .lit (.int .u64 100000), .lit (.int .u64 1000000), .lit (.int .u64 10000000), .lit (.int .u64 100000000), .lit (.int .u64 1000000000), .lit (.int .u64 10000000000), .lit (.int .u64 100000000000), .lit (.int .u64 1000000000000), .lit (.int .u64 10000000000000), .lit (.int .u64 100000000000000), .lit (.int .u64 1000000000000000), .lit (.int .u64 10000000000000000), .lit (.int .u64 100000000000000000), .lit (.int .u64 1000000000000000000), .lit (.int .u64 10000000000000000000)]

/-- 'sentinellaw28.ParityMatches': WHATEVER THE INPUT: true; the input reads as it did. -/
def parityMatchesSpec : ChangeSpec := { name := "parityMatches", fn := fun _ => fun
  | [d1, d2] => { results := [.lit (.bool true)], args := [d1, d2] }
  | _ => none }
def parityMatchesRow : OpenClaim := { program := "ytnikhiohindggaadoor", sum := "698a01433cf39de1421da89e5b503adcecfcb827ad56c100b8a767e3f9d94bff", func := "sentinel/sentinellaw28.ParityMatches", spec := "parityMatches", inPlace := ["internal/abi.NoEscape"], unfollowed := true, recurses := true, named := ["internal/strconv.uint64pow10", "math/bits.deBruijn32tab", "math/bits.deBruijn64tab"], plainKeys := false, apart := false, laid := [("math/bits.deBruijn32tab", laid_math_bits_deBruijn32tab), ("math/bits.deBruijn64tab", laid_math_bits_deBruijn64tab), ("internal/strconv.uint64pow10", laid_internal_strconv_uint64pow10)] }
def ParityMatchesSaid : Prop := parityMatchesRow.holds Tryd.pinned (OpenSpec.ofChange parityMatchesSpec)

/-- ITS FALSE NEIGHBOUR: 'it returns false'. Refute it at one input. -/
def parityMatchesWrong : ChangeSpec := { name := "parityMatches", fn := fun _ => fun
  | [d1, d2] => { results := [.lit (.bool false)], args := [d1, d2] }
  | _ => none }
def ParityMatchesWrongFalsely : Prop := parityMatchesRow.holds Tryd.pinned (OpenSpec.ofChange parityMatchesWrong)

/-- 'sentinellaw28.ParityFormsMatch': WHATEVER THE INPUT: true; the input reads as it did. -/
def parityFormsMatchSpec : ChangeSpec := { name := "parityFormsMatch", fn := fun _ => fun
  | [d] => { results := [.lit (.bool true)], args := [d] }
  | _ => none }
def parityFormsMatchRow : OpenClaim := { program := "ytnikhiohindggaadoor", sum := "698a01433cf39de1421da89e5b503adcecfcb827ad56c100b8a767e3f9d94bff", func := "sentinel/sentinellaw28.ParityFormsMatch", spec := "parityFormsMatch", inPlace := ["internal/abi.NoEscape"], unfollowed := true, recurses := true, named := ["internal/strconv.uint64pow10", "math/bits.deBruijn32tab", "math/bits.deBruijn64tab"], plainKeys := false, apart := false, laid := [("math/bits.deBruijn32tab", laid_math_bits_deBruijn32tab), ("math/bits.deBruijn64tab", laid_math_bits_deBruijn64tab), ("internal/strconv.uint64pow10", laid_internal_strconv_uint64pow10)] }
def ParityFormsMatchSaid : Prop := parityFormsMatchRow.holds Tryd.pinned (OpenSpec.ofChange parityFormsMatchSpec)

/-- ITS FALSE NEIGHBOUR: 'it returns false'. Refute it at one input. -/
def parityFormsMatchWrong : ChangeSpec := { name := "parityFormsMatch", fn := fun _ => fun
  | [d] => { results := [.lit (.bool false)], args := [d] }
  | _ => none }
def ParityFormsMatchWrongFalsely : Prop := parityFormsMatchRow.holds Tryd.pinned (OpenSpec.ofChange parityFormsMatchWrong)

/-- 'sentinellaw28.ParityDiffers': WHATEVER THE INPUT: true; the input reads as it did. -/
def parityDiffersSpec : ChangeSpec := { name := "parityDiffers", fn := fun _ => fun
  | [d1, d2] => { results := [.lit (.bool true)], args := [d1, d2] }
  | _ => none }
def parityDiffersRow : OpenClaim := { program := "ytnikhiohindggaadoor", sum := "698a01433cf39de1421da89e5b503adcecfcb827ad56c100b8a767e3f9d94bff", func := "sentinel/sentinellaw28.ParityDiffers", spec := "parityDiffers", inPlace := ["internal/abi.NoEscape"], unfollowed := true, recurses := true, named := ["internal/strconv.uint64pow10", "math/bits.deBruijn32tab", "math/bits.deBruijn64tab"], plainKeys := false, apart := false, laid := [("math/bits.deBruijn32tab", laid_math_bits_deBruijn32tab), ("math/bits.deBruijn64tab", laid_math_bits_deBruijn64tab), ("internal/strconv.uint64pow10", laid_internal_strconv_uint64pow10)] }
def ParityDiffersSaid : Prop := parityDiffersRow.holds Tryd.pinned (OpenSpec.ofChange parityDiffersSpec)

/-- ITS FALSE NEIGHBOUR: 'it returns false'. Refute it at one input. -/
def parityDiffersWrong : ChangeSpec := { name := "parityDiffers", fn := fun _ => fun
  | [d1, d2] => { results := [.lit (.bool false)], args := [d1, d2] }
  | _ => none }
def ParityDiffersWrongFalsely : Prop := parityDiffersRow.holds Tryd.pinned (OpenSpec.ofChange parityDiffersWrong)

/-- 'sentinellaw28.ParityReduce': WHATEVER THE INPUT: true; the input reads as it did. -/
def parityReduceSpec : ChangeSpec := { name := "parityReduce", fn := fun _ => fun
  | [d1, d2, d3] => { results := [.lit (.bool true)], args := [d1, d2, d3] }
  | _ => none }
def parityReduceRow : OpenClaim := { program := "ytnikhiohindggaadoor", sum := "698a01433cf39de1421da89e5b503adcecfcb827ad56c100b8a767e3f9d94bff", func := "sentinel/sentinellaw28.ParityReduce", spec := "parityReduce", inPlace := ["internal/abi.NoEscape"], unfollowed := true, recurses := true, named := ["internal/strconv.uint64pow10", "math/bits.deBruijn32tab", "math/bits.deBruijn64tab"], plainKeys := false, apart := false, laid := [("math/bits.deBruijn32tab", laid_math_bits_deBruijn32tab), ("math/bits.deBruijn64tab", laid_math_bits_deBruijn64tab), ("internal/strconv.uint64pow10", laid_internal_strconv_uint64pow10)] }
def ParityReduceSaid : Prop := parityReduceRow.holds Tryd.pinned (OpenSpec.ofChange parityReduceSpec)

/-- ITS FALSE NEIGHBOUR: 'it returns false'. Refute it at one input. -/
def parityReduceWrong : ChangeSpec := { name := "parityReduce", fn := fun _ => fun
  | [d1, d2, d3] => { results := [.lit (.bool false)], args := [d1, d2, d3] }
  | _ => none }
def ParityReduceWrongFalsely : Prop := parityReduceRow.holds Tryd.pinned (OpenSpec.ofChange parityReduceWrong)

/-- 'sentinellaw28.ParityComplement': WHATEVER THE INPUT: true; the input reads as it did. -/
def parityComplementSpec : ChangeSpec := { name := "parityComplement", fn := fun _ => fun
  | [d1, d2] => { results := [.lit (.bool true)], args := [d1, d2] }
  | _ => none }
def parityComplementRow : OpenClaim := { program := "ytnikhiohindggaadoor", sum := "698a01433cf39de1421da89e5b503adcecfcb827ad56c100b8a767e3f9d94bff", func := "sentinel/sentinellaw28.ParityComplement", spec := "parityComplement", inPlace := ["internal/abi.NoEscape"], unfollowed := true, recurses := true, named := ["internal/strconv.uint64pow10", "math/bits.deBruijn32tab", "math/bits.deBruijn64tab"], plainKeys := false, apart := false, laid := [("math/bits.deBruijn32tab", laid_math_bits_deBruijn32tab), ("math/bits.deBruijn64tab", laid_math_bits_deBruijn64tab), ("internal/strconv.uint64pow10", laid_internal_strconv_uint64pow10)] }
def ParityComplementSaid : Prop := parityComplementRow.holds Tryd.pinned (OpenSpec.ofChange parityComplementSpec)

/-- ITS FALSE NEIGHBOUR: 'it returns false'. Refute it at one input. -/
def parityComplementWrong : ChangeSpec := { name := "parityComplement", fn := fun _ => fun
  | [d1, d2] => { results := [.lit (.bool false)], args := [d1, d2] }
  | _ => none }
def ParityComplementWrongFalsely : Prop := parityComplementRow.holds Tryd.pinned (OpenSpec.ofChange parityComplementWrong)

/-- 'sentinellaw28.ParityQuotient': WHATEVER THE INPUT: true; the input reads as it did. -/
def parityQuotientSpec : ChangeSpec := { name := "parityQuotient", fn := fun _ => fun
  | [d1, d2, d3] => { results := [.lit (.bool true)], args := [d1, d2, d3] }
  | _ => none }
def parityQuotientRow : OpenClaim := { program := "ytnikhiohindggaadoor", sum := "698a01433cf39de1421da89e5b503adcecfcb827ad56c100b8a767e3f9d94bff", func := "sentinel/sentinellaw28.ParityQuotient", spec := "parityQuotient", inPlace := ["internal/abi.NoEscape"], unfollowed := true, recurses := true, named := ["internal/strconv.uint64pow10", "math/bits.deBruijn32tab", "math/bits.deBruijn64tab"], plainKeys := false, apart := false, laid := [("math/bits.deBruijn32tab", laid_math_bits_deBruijn32tab), ("math/bits.deBruijn64tab", laid_math_bits_deBruijn64tab), ("internal/strconv.uint64pow10", laid_internal_strconv_uint64pow10)] }
def ParityQuotientSaid : Prop := parityQuotientRow.holds Tryd.pinned (OpenSpec.ofChange parityQuotientSpec)

/-- ITS FALSE NEIGHBOUR: 'it returns false'. Refute it at one input. -/
def parityQuotientWrong : ChangeSpec := { name := "parityQuotient", fn := fun _ => fun
  | [d1, d2, d3] => { results := [.lit (.bool false)], args := [d1, d2, d3] }
  | _ => none }
def ParityQuotientWrongFalsely : Prop := parityQuotientRow.holds Tryd.pinned (OpenSpec.ofChange parityQuotientWrong)

/-- 'sentinellaw28.ParityExamples': WHATEVER THE INPUT: true; the input reads as it did. -/
def parityExamplesSpec : ChangeSpec := { name := "parityExamples", fn := fun _ => fun
  | [] => { results := [.lit (.bool true)], args := [] }
  | _ => none }
def parityExamplesRow : OpenClaim := { program := "ytnikhiohindggaadoor", sum := "698a01433cf39de1421da89e5b503adcecfcb827ad56c100b8a767e3f9d94bff", func := "sentinel/sentinellaw28.ParityExamples", spec := "parityExamples", inPlace := ["internal/abi.NoEscape"], unfollowed := true, recurses := true, named := ["internal/strconv.uint64pow10", "math/bits.deBruijn32tab", "math/bits.deBruijn64tab"], plainKeys := false, apart := false, laid := [("math/bits.deBruijn32tab", laid_math_bits_deBruijn32tab), ("math/bits.deBruijn64tab", laid_math_bits_deBruijn64tab), ("internal/strconv.uint64pow10", laid_internal_strconv_uint64pow10)] }
def ParityExamplesSaid : Prop := parityExamplesRow.holds Tryd.pinned (OpenSpec.ofChange parityExamplesSpec)

/-- ITS FALSE NEIGHBOUR: 'it returns false'. Refute it at one input. -/
def parityExamplesWrong : ChangeSpec := { name := "parityExamples", fn := fun _ => fun
  | [] => { results := [.lit (.bool false)], args := [] }
  | _ => none }
def ParityExamplesWrongFalsely : Prop := parityExamplesRow.holds Tryd.pinned (OpenSpec.ofChange parityExamplesWrong)

/- THE SECOND FORM. 'bulk': how many values and letters a reading holds, each counted each time it is reached (what is shared counts as often as it is met; a slice's spare places count too). A statement '..UptoSaid' is the law's where the arguments, and the package variables that the reading takes, are together of bulk at most 1048576: NARROWER than '..Said'. Prove '..Said' where nothing that the law and all that it calls make is longer than what came in: it says more and counts as full. Else prove '..UptoSaid'. A law counts once. -/
mutual
def uptoBulk {H : Type} : DataW H → Nat
  | .lit (.string bytes) => bytes.length + 1
  | .lit _ => 1
  | .nil => 1
  | .ptr d => uptoBulk d + 1
  | .slice elems spare => uptoBulkAll elems + uptoBulkAll spare + 1
  | .agg parts => uptoBulkAll parts + 1
  | .iface _ d => uptoBulk d + 1
  | .map entries => uptoBulkEntries entries + 1
  | .held _ => 1
def uptoBulkAll {H : Type} : List (DataW H) → Nat
  | [] => 0
  | d :: r => uptoBulk d + uptoBulkAll r
def uptoBulkEntries {H : Type} : List (Lit × DataW H) → Nat
  | [] => 0
  | x :: r => uptoBulkEntry x + uptoBulkEntries r
def uptoBulkEntry {H : Type} : Lit × DataW H → Nat
  | (.string bytes, d) => bytes.length + uptoBulk d + 1
  | (_, d) => uptoBulk d + 1
 end
def uptoSmall : (H : Type) → List (DataW H) → Bool := fun _ ds => decide (uptoBulkAll ds ≤ 1048576)
def OpenSpec.upto (s : _root_.Go.ChangeSpec) : _root_.Go.OpenSpec := { _root_.Go.OpenSpec.ofChange s with cond := some uptoSmall }

/-- 'sentinellaw28.ParityMatches', WHERE WHAT IT READS IS OF BULK AT MOST 1048576: true; the input reads as it did. -/
def parityMatchesUptoRow : OpenClaim := { program := "ytnikhiohindggaadoor", sum := "698a01433cf39de1421da89e5b503adcecfcb827ad56c100b8a767e3f9d94bff", func := "sentinel/sentinellaw28.ParityMatches", spec := "parityMatches", inPlace := ["internal/abi.NoEscape"], unfollowed := true, recurses := true, named := ["internal/strconv.uint64pow10", "math/bits.deBruijn32tab", "math/bits.deBruijn64tab"], plainKeys := false, apart := false, laid := [("math/bits.deBruijn32tab", laid_math_bits_deBruijn32tab), ("math/bits.deBruijn64tab", laid_math_bits_deBruijn64tab), ("internal/strconv.uint64pow10", laid_internal_strconv_uint64pow10)], narrowed := true }
def ParityMatchesUptoSaid : Prop := parityMatchesUptoRow.holds Tryd.pinned (OpenSpec.upto parityMatchesSpec)

/-- 'sentinellaw28.ParityFormsMatch', WHERE WHAT IT READS IS OF BULK AT MOST 1048576: true; the input reads as it did. -/
def parityFormsMatchUptoRow : OpenClaim := { program := "ytnikhiohindggaadoor", sum := "698a01433cf39de1421da89e5b503adcecfcb827ad56c100b8a767e3f9d94bff", func := "sentinel/sentinellaw28.ParityFormsMatch", spec := "parityFormsMatch", inPlace := ["internal/abi.NoEscape"], unfollowed := true, recurses := true, named := ["internal/strconv.uint64pow10", "math/bits.deBruijn32tab", "math/bits.deBruijn64tab"], plainKeys := false, apart := false, laid := [("math/bits.deBruijn32tab", laid_math_bits_deBruijn32tab), ("math/bits.deBruijn64tab", laid_math_bits_deBruijn64tab), ("internal/strconv.uint64pow10", laid_internal_strconv_uint64pow10)], narrowed := true }
def ParityFormsMatchUptoSaid : Prop := parityFormsMatchUptoRow.holds Tryd.pinned (OpenSpec.upto parityFormsMatchSpec)

/-- 'sentinellaw28.ParityDiffers', WHERE WHAT IT READS IS OF BULK AT MOST 1048576: true; the input reads as it did. -/
def parityDiffersUptoRow : OpenClaim := { program := "ytnikhiohindggaadoor", sum := "698a01433cf39de1421da89e5b503adcecfcb827ad56c100b8a767e3f9d94bff", func := "sentinel/sentinellaw28.ParityDiffers", spec := "parityDiffers", inPlace := ["internal/abi.NoEscape"], unfollowed := true, recurses := true, named := ["internal/strconv.uint64pow10", "math/bits.deBruijn32tab", "math/bits.deBruijn64tab"], plainKeys := false, apart := false, laid := [("math/bits.deBruijn32tab", laid_math_bits_deBruijn32tab), ("math/bits.deBruijn64tab", laid_math_bits_deBruijn64tab), ("internal/strconv.uint64pow10", laid_internal_strconv_uint64pow10)], narrowed := true }
def ParityDiffersUptoSaid : Prop := parityDiffersUptoRow.holds Tryd.pinned (OpenSpec.upto parityDiffersSpec)

/-- 'sentinellaw28.ParityReduce', WHERE WHAT IT READS IS OF BULK AT MOST 1048576: true; the input reads as it did. -/
def parityReduceUptoRow : OpenClaim := { program := "ytnikhiohindggaadoor", sum := "698a01433cf39de1421da89e5b503adcecfcb827ad56c100b8a767e3f9d94bff", func := "sentinel/sentinellaw28.ParityReduce", spec := "parityReduce", inPlace := ["internal/abi.NoEscape"], unfollowed := true, recurses := true, named := ["internal/strconv.uint64pow10", "math/bits.deBruijn32tab", "math/bits.deBruijn64tab"], plainKeys := false, apart := false, laid := [("math/bits.deBruijn32tab", laid_math_bits_deBruijn32tab), ("math/bits.deBruijn64tab", laid_math_bits_deBruijn64tab), ("internal/strconv.uint64pow10", laid_internal_strconv_uint64pow10)], narrowed := true }
def ParityReduceUptoSaid : Prop := parityReduceUptoRow.holds Tryd.pinned (OpenSpec.upto parityReduceSpec)

/-- 'sentinellaw28.ParityComplement', WHERE WHAT IT READS IS OF BULK AT MOST 1048576: true; the input reads as it did. -/
def parityComplementUptoRow : OpenClaim := { program := "ytnikhiohindggaadoor", sum := "698a01433cf39de1421da89e5b503adcecfcb827ad56c100b8a767e3f9d94bff", func := "sentinel/sentinellaw28.ParityComplement", spec := "parityComplement", inPlace := ["internal/abi.NoEscape"], unfollowed := true, recurses := true, named := ["internal/strconv.uint64pow10", "math/bits.deBruijn32tab", "math/bits.deBruijn64tab"], plainKeys := false, apart := false, laid := [("math/bits.deBruijn32tab", laid_math_bits_deBruijn32tab), ("math/bits.deBruijn64tab", laid_math_bits_deBruijn64tab), ("internal/strconv.uint64pow10", laid_internal_strconv_uint64pow10)], narrowed := true }
def ParityComplementUptoSaid : Prop := parityComplementUptoRow.holds Tryd.pinned (OpenSpec.upto parityComplementSpec)

/-- 'sentinellaw28.ParityQuotient', WHERE WHAT IT READS IS OF BULK AT MOST 1048576: true; the input reads as it did. -/
def parityQuotientUptoRow : OpenClaim := { program := "ytnikhiohindggaadoor", sum := "698a01433cf39de1421da89e5b503adcecfcb827ad56c100b8a767e3f9d94bff", func := "sentinel/sentinellaw28.ParityQuotient", spec := "parityQuotient", inPlace := ["internal/abi.NoEscape"], unfollowed := true, recurses := true, named := ["internal/strconv.uint64pow10", "math/bits.deBruijn32tab", "math/bits.deBruijn64tab"], plainKeys := false, apart := false, laid := [("math/bits.deBruijn32tab", laid_math_bits_deBruijn32tab), ("math/bits.deBruijn64tab", laid_math_bits_deBruijn64tab), ("internal/strconv.uint64pow10", laid_internal_strconv_uint64pow10)], narrowed := true }
def ParityQuotientUptoSaid : Prop := parityQuotientUptoRow.holds Tryd.pinned (OpenSpec.upto parityQuotientSpec)

/-- 'sentinellaw28.ParityExamples', WHERE WHAT IT READS IS OF BULK AT MOST 1048576: true; the input reads as it did. -/
def parityExamplesUptoRow : OpenClaim := { program := "ytnikhiohindggaadoor", sum := "698a01433cf39de1421da89e5b503adcecfcb827ad56c100b8a767e3f9d94bff", func := "sentinel/sentinellaw28.ParityExamples", spec := "parityExamples", inPlace := ["internal/abi.NoEscape"], unfollowed := true, recurses := true, named := ["internal/strconv.uint64pow10", "math/bits.deBruijn32tab", "math/bits.deBruijn64tab"], plainKeys := false, apart := false, laid := [("math/bits.deBruijn32tab", laid_math_bits_deBruijn32tab), ("math/bits.deBruijn64tab", laid_math_bits_deBruijn64tab), ("internal/strconv.uint64pow10", laid_internal_strconv_uint64pow10)], narrowed := true }
def ParityExamplesUptoSaid : Prop := parityExamplesUptoRow.holds Tryd.pinned (OpenSpec.upto parityExamplesSpec)

end Rows
end Go.Proofs.YtnikhiohindggaaDoor
