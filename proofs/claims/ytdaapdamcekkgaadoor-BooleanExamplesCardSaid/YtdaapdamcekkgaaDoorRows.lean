/-
  NARROWER THAN 'FOR EVERY INPUT', by the rows' own cells (each row's printed sentence says how): BooleanMatches: laid · BooleanWords: laid · BooleanLaws: laid · BooleanInclusion: laid · BooleanDecides: laid · BooleanExamples: laid · BooleanAll: laid.
  DERIVED. THE GIVEN ROWS OF THIS SEAT. 7 by the template 'for every input the law returns true; each argument reads behind the call as it read before'; 0 by the template 'total and deterministic' (their statements: YtdaapdamcekkgaaDoorTotals.lean).
  GIVEN WITH THE SEED: the statements are not yours to turn. If you find one false, say at which input.
  Laid BY PROGRAM, IN A SANDBOX (cutbox-rows.mjs): the forced cells as the released guide's own fill.sh prints them over the translation 743f5fa48028ce7e… (all of the seat's roots in one cut). By AI agents, Wed Nov 11 2026. No macro, syntax, notation, axiom, sorry.
-/
import Derived.Test.YtdaapdamcekkgaaDoorChecked
import GoSem.Claim
import GoSem.ClaimJoined
import GoSem.ClaimMapViews
import Derived.JoinedTies
import Derived.KernelRfl
namespace Go.Proofs.YtdaapdamcekkgaaDoor
/- THE CELL 'sum', in the pinned program and in every row, IS THE sha256 OF THE DUMP (.gsa) THAT YtdaapdamcekkgaaDoorProg.lean LOADS. Nothing in Lean hashes anything: it is a label: what it is worth is what the hold of that sum in a sandbox is worth. -/
noncomputable def Tryd.pinned : Pinned := { name := "ytdaapdamcekkgaadoor", sum := "743f5fa48028ce7ef6fb52e15911882ba90deb4e945f63ca12054bdcb8f6b864", checked := Tryd.checked }
namespace Rows
def none {H : Type} : Left H := { results := [], args := [] }

/- WHAT THE LISTED PACKAGE-LEVEL VARIABLES READ AS WHEN THE CALL BEGINS. Each datum BY PROGRAM (the guide's laid-datum.mjs) off the statement by which the dump's own 'gosem.cut.vars' lays the variable. In a bare row this is a premise. The card (YtdaapdamcekkgaaDoorCards.lean) ties it to the program's text. -/
def laid_math_bits_deBruijn32tab {H : Type} : DataW H := .agg [.lit (.int .u8 0), .lit (.int .u8 1), .lit (.int .u8 28), .lit (.int .u8 2), .lit (.int .u8 29), .lit (.int .u8 14), .lit (.int .u8 24), .lit (.int .u8 3), .lit (.int .u8 30), .lit (.int .u8 22), .lit (.int .u8 20), .lit (.int .u8 15), .lit (.int .u8 25), .lit (.int .u8 17), .lit (.int .u8 4), .lit (.int .u8 8), .lit (.int .u8 31), .lit (.int .u8 27), .lit (.int .u8 13), .lit (.int .u8 23), .lit (.int .u8 21), .lit (.int .u8 19), .lit (.int .u8 16), .lit (.int .u8 7), .lit (.int .u8 26), .lit (.int .u8 12), .lit (.int .u8 18), .lit (.int .u8 6), .lit (.int .u8 11), .lit (.int .u8 5), .lit (.int .u8 10), .lit (.int .u8 9)]
def laid_math_bits_deBruijn64tab {H : Type} : DataW H := .agg [.lit (.int .u8 0), .lit (.int .u8 1), .lit (.int .u8 56), .lit (.int .u8 2), .lit (.int .u8 57), .lit (.int .u8 49), .lit (.int .u8 28), .lit (.int .u8 3), .lit (.int .u8 61), .lit (.int .u8 58), .lit (.int .u8 42), .lit (.int .u8 50), .lit (.int .u8 38), .lit (.int .u8 29), .lit (.int .u8 17), .lit (.int .u8 4), .lit (.int .u8 62), .lit (.int .u8 47), .lit (.int .u8 59), .lit (.int .u8 36), .lit (.int .u8 45), .lit (.int .u8 43), .lit (.int .u8 51), .lit (.int .u8 22), .lit (.int .u8 53), .lit (.int .u8 39), .lit (.int .u8 33), .lit (.int .u8 30), .lit (.int .u8 24), .lit (.int .u8 18), .lit (.int .u8 12), .lit (.int .u8 5), .lit (.int .u8 63), .lit (.int .u8 55), .lit (.int .u8 48), .lit (.int .u8 27), .lit (.int .u8 60), .lit (.int .u8 41), .lit (.int .u8 37), .lit (.int .u8 16), .lit (.int .u8 46), .lit (.int .u8 35), .lit (.int .u8 44), .lit (.int .u8 21), .lit (.int .u8 52), .lit (.int .u8 32), .lit (.int .u8 23), .lit (.int .u8 11), .lit (.int .u8 54), .lit (.int .u8 26), .lit (.int .u8 40), .lit (.int .u8 15), .lit (.int .u8 34), .lit (.int .u8 20), .lit (.int .u8 31), .lit (.int .u8 10), .lit (.int .u8 25), .lit (.int .u8 14), .lit (.int .u8 19), .lit (.int .u8 9), .lit (.int .u8 13), .lit (.int .u8 8), .lit (.int .u8 7), .lit (.int .u8 6)]
def laid_internal_strconv_uint64pow10 {H : Type} : DataW H := .agg [.lit (.int .u64 1), .lit (.int .u64 10), .lit (.int .u64 100), .lit (.int .u64 1000), .lit (.int .u64 10000), .lit (.int .u64 100000), .lit (.int .u64 1000000), .lit (.int .u64 10000000), .lit (.int .u64 100000000), .lit (.int .u64 1000000000), .lit (.int .u64 10000000000), .lit (.int .u64 100000000000), .lit (.int .u64 1000000000000), .lit (.int .u64 10000000000000), .lit (.int .u64 100000000000000), .lit (.int .u64 1000000000000000), .lit (.int .u64 10000000000000000), .lit (.int .u64 100000000000000000), .lit (.int .u64 1000000000000000000), .lit (.int .u64 10000000000000000000)]

/-- 'sentinellaw09.BooleanMatches': WHATEVER THE INPUT: true; the input reads as it did. -/
def booleanMatchesSpec : ChangeSpec := { name := "booleanMatches", fn := fun _ => fun
  | [d1, d2] => { results := [.lit (.bool true)], args := [d1, d2] }
  | _ => none }
def booleanMatchesRow : OpenClaim := { program := "ytdaapdamcekkgaadoor", sum := "743f5fa48028ce7ef6fb52e15911882ba90deb4e945f63ca12054bdcb8f6b864", func := "sentinel/sentinellaw09.BooleanMatches", spec := "booleanMatches", unfollowed := true, recurses := true, named := ["internal/strconv.uint64pow10", "math/bits.deBruijn32tab", "math/bits.deBruijn64tab"], plainKeys := false, apart := false, laid := [("math/bits.deBruijn32tab", laid_math_bits_deBruijn32tab), ("math/bits.deBruijn64tab", laid_math_bits_deBruijn64tab), ("internal/strconv.uint64pow10", laid_internal_strconv_uint64pow10)] }
def BooleanMatchesSaid : Prop := booleanMatchesRow.holds Tryd.pinned (OpenSpec.ofChange booleanMatchesSpec)

/-- ITS FALSE NEIGHBOUR: 'it returns false'. Refute it at one input. -/
def booleanMatchesWrong : ChangeSpec := { name := "booleanMatches", fn := fun _ => fun
  | [d1, d2] => { results := [.lit (.bool false)], args := [d1, d2] }
  | _ => none }
def BooleanMatchesWrongFalsely : Prop := booleanMatchesRow.holds Tryd.pinned (OpenSpec.ofChange booleanMatchesWrong)

/-- 'sentinellaw09.BooleanWords': WHATEVER THE INPUT: true; the input reads as it did. -/
def booleanWordsSpec : ChangeSpec := { name := "booleanWords", fn := fun _ => fun
  | [d1, d2, d3] => { results := [.lit (.bool true)], args := [d1, d2, d3] }
  | _ => none }
def booleanWordsRow : OpenClaim := { program := "ytdaapdamcekkgaadoor", sum := "743f5fa48028ce7ef6fb52e15911882ba90deb4e945f63ca12054bdcb8f6b864", func := "sentinel/sentinellaw09.BooleanWords", spec := "booleanWords", unfollowed := true, recurses := true, named := ["internal/strconv.uint64pow10", "math/bits.deBruijn32tab", "math/bits.deBruijn64tab"], plainKeys := false, apart := false, laid := [("math/bits.deBruijn32tab", laid_math_bits_deBruijn32tab), ("math/bits.deBruijn64tab", laid_math_bits_deBruijn64tab), ("internal/strconv.uint64pow10", laid_internal_strconv_uint64pow10)] }
def BooleanWordsSaid : Prop := booleanWordsRow.holds Tryd.pinned (OpenSpec.ofChange booleanWordsSpec)

/-- ITS FALSE NEIGHBOUR: 'it returns false'. Refute it at one input. -/
def booleanWordsWrong : ChangeSpec := { name := "booleanWords", fn := fun _ => fun
  | [d1, d2, d3] => { results := [.lit (.bool false)], args := [d1, d2, d3] }
  | _ => none }
def BooleanWordsWrongFalsely : Prop := booleanWordsRow.holds Tryd.pinned (OpenSpec.ofChange booleanWordsWrong)

/-- 'sentinellaw09.BooleanLaws': WHATEVER THE INPUT: true; the input reads as it did. -/
def booleanLawsSpec : ChangeSpec := { name := "booleanLaws", fn := fun _ => fun
  | [d1, d2, d3] => { results := [.lit (.bool true)], args := [d1, d2, d3] }
  | _ => none }
def booleanLawsRow : OpenClaim := { program := "ytdaapdamcekkgaadoor", sum := "743f5fa48028ce7ef6fb52e15911882ba90deb4e945f63ca12054bdcb8f6b864", func := "sentinel/sentinellaw09.BooleanLaws", spec := "booleanLaws", unfollowed := true, recurses := true, named := ["internal/strconv.uint64pow10", "math/bits.deBruijn32tab", "math/bits.deBruijn64tab"], plainKeys := false, apart := false, laid := [("math/bits.deBruijn32tab", laid_math_bits_deBruijn32tab), ("math/bits.deBruijn64tab", laid_math_bits_deBruijn64tab), ("internal/strconv.uint64pow10", laid_internal_strconv_uint64pow10)] }
def BooleanLawsSaid : Prop := booleanLawsRow.holds Tryd.pinned (OpenSpec.ofChange booleanLawsSpec)

/-- ITS FALSE NEIGHBOUR: 'it returns false'. Refute it at one input. -/
def booleanLawsWrong : ChangeSpec := { name := "booleanLaws", fn := fun _ => fun
  | [d1, d2, d3] => { results := [.lit (.bool false)], args := [d1, d2, d3] }
  | _ => none }
def BooleanLawsWrongFalsely : Prop := booleanLawsRow.holds Tryd.pinned (OpenSpec.ofChange booleanLawsWrong)

/-- 'sentinellaw09.BooleanInclusion': WHATEVER THE INPUT: true; the input reads as it did. -/
def booleanInclusionSpec : ChangeSpec := { name := "booleanInclusion", fn := fun _ => fun
  | [d1, d2, d3] => { results := [.lit (.bool true)], args := [d1, d2, d3] }
  | _ => none }
def booleanInclusionRow : OpenClaim := { program := "ytdaapdamcekkgaadoor", sum := "743f5fa48028ce7ef6fb52e15911882ba90deb4e945f63ca12054bdcb8f6b864", func := "sentinel/sentinellaw09.BooleanInclusion", spec := "booleanInclusion", unfollowed := true, recurses := true, named := ["internal/strconv.uint64pow10", "math/bits.deBruijn32tab", "math/bits.deBruijn64tab"], plainKeys := false, apart := false, laid := [("math/bits.deBruijn32tab", laid_math_bits_deBruijn32tab), ("math/bits.deBruijn64tab", laid_math_bits_deBruijn64tab), ("internal/strconv.uint64pow10", laid_internal_strconv_uint64pow10)] }
def BooleanInclusionSaid : Prop := booleanInclusionRow.holds Tryd.pinned (OpenSpec.ofChange booleanInclusionSpec)

/-- ITS FALSE NEIGHBOUR: 'it returns false'. Refute it at one input. -/
def booleanInclusionWrong : ChangeSpec := { name := "booleanInclusion", fn := fun _ => fun
  | [d1, d2, d3] => { results := [.lit (.bool false)], args := [d1, d2, d3] }
  | _ => none }
def BooleanInclusionWrongFalsely : Prop := booleanInclusionRow.holds Tryd.pinned (OpenSpec.ofChange booleanInclusionWrong)

/-- 'sentinellaw09.BooleanDecides': WHATEVER THE INPUT: true; the input reads as it did. -/
def booleanDecidesSpec : ChangeSpec := { name := "booleanDecides", fn := fun _ => fun
  | [d1, d2, d3] => { results := [.lit (.bool true)], args := [d1, d2, d3] }
  | _ => none }
def booleanDecidesRow : OpenClaim := { program := "ytdaapdamcekkgaadoor", sum := "743f5fa48028ce7ef6fb52e15911882ba90deb4e945f63ca12054bdcb8f6b864", func := "sentinel/sentinellaw09.BooleanDecides", spec := "booleanDecides", unfollowed := true, recurses := true, named := ["internal/strconv.uint64pow10", "math/bits.deBruijn32tab", "math/bits.deBruijn64tab"], plainKeys := false, apart := false, laid := [("math/bits.deBruijn32tab", laid_math_bits_deBruijn32tab), ("math/bits.deBruijn64tab", laid_math_bits_deBruijn64tab), ("internal/strconv.uint64pow10", laid_internal_strconv_uint64pow10)] }
def BooleanDecidesSaid : Prop := booleanDecidesRow.holds Tryd.pinned (OpenSpec.ofChange booleanDecidesSpec)

/-- ITS FALSE NEIGHBOUR: 'it returns false'. Refute it at one input. -/
def booleanDecidesWrong : ChangeSpec := { name := "booleanDecides", fn := fun _ => fun
  | [d1, d2, d3] => { results := [.lit (.bool false)], args := [d1, d2, d3] }
  | _ => none }
def BooleanDecidesWrongFalsely : Prop := booleanDecidesRow.holds Tryd.pinned (OpenSpec.ofChange booleanDecidesWrong)

/-- 'sentinellaw09.BooleanExamples': WHATEVER THE INPUT: true; the input reads as it did. -/
def booleanExamplesSpec : ChangeSpec := { name := "booleanExamples", fn := fun _ => fun
  | [] => { results := [.lit (.bool true)], args := [] }
  | _ => none }
def booleanExamplesRow : OpenClaim := { program := "ytdaapdamcekkgaadoor", sum := "743f5fa48028ce7ef6fb52e15911882ba90deb4e945f63ca12054bdcb8f6b864", func := "sentinel/sentinellaw09.BooleanExamples", spec := "booleanExamples", unfollowed := true, recurses := true, named := ["internal/strconv.uint64pow10", "math/bits.deBruijn32tab", "math/bits.deBruijn64tab"], plainKeys := false, apart := false, laid := [("math/bits.deBruijn32tab", laid_math_bits_deBruijn32tab), ("math/bits.deBruijn64tab", laid_math_bits_deBruijn64tab), ("internal/strconv.uint64pow10", laid_internal_strconv_uint64pow10)] }
def BooleanExamplesSaid : Prop := booleanExamplesRow.holds Tryd.pinned (OpenSpec.ofChange booleanExamplesSpec)

/-- ITS FALSE NEIGHBOUR: 'it returns false'. Refute it at one input. -/
def booleanExamplesWrong : ChangeSpec := { name := "booleanExamples", fn := fun _ => fun
  | [] => { results := [.lit (.bool false)], args := [] }
  | _ => none }
def BooleanExamplesWrongFalsely : Prop := booleanExamplesRow.holds Tryd.pinned (OpenSpec.ofChange booleanExamplesWrong)

/-- 'sentinellaw09.BooleanAll': WHATEVER THE INPUT: true; the input reads as it did. -/
def booleanAllSpec : ChangeSpec := { name := "booleanAll", fn := fun _ => fun
  | [d1, d2, d3, d4] => { results := [.lit (.bool true)], args := [d1, d2, d3, d4] }
  | _ => none }
def booleanAllRow : OpenClaim := { program := "ytdaapdamcekkgaadoor", sum := "743f5fa48028ce7ef6fb52e15911882ba90deb4e945f63ca12054bdcb8f6b864", func := "sentinel/sentinellaw09.BooleanAll", spec := "booleanAll", unfollowed := true, recurses := true, named := ["internal/strconv.uint64pow10", "math/bits.deBruijn32tab", "math/bits.deBruijn64tab"], plainKeys := false, apart := false, laid := [("math/bits.deBruijn32tab", laid_math_bits_deBruijn32tab), ("math/bits.deBruijn64tab", laid_math_bits_deBruijn64tab), ("internal/strconv.uint64pow10", laid_internal_strconv_uint64pow10)] }
def BooleanAllSaid : Prop := booleanAllRow.holds Tryd.pinned (OpenSpec.ofChange booleanAllSpec)

/-- ITS FALSE NEIGHBOUR: 'it returns false'. Refute it at one input. -/
def booleanAllWrong : ChangeSpec := { name := "booleanAll", fn := fun _ => fun
  | [d1, d2, d3, d4] => { results := [.lit (.bool false)], args := [d1, d2, d3, d4] }
  | _ => none }
def BooleanAllWrongFalsely : Prop := booleanAllRow.holds Tryd.pinned (OpenSpec.ofChange booleanAllWrong)

/- THE SECOND FORM. 'bulk': how many values and letters a reading holds, each counted each time it is reached (what is shared counts as often as it is met; a slice's spare places count too). A statement '..UptoSaid' is the law's where the arguments, and the package variables that the reading takes, are together of bulk at most 1048576: NARROWER than '..Said'. Prove '..Said' where nothing that the law and all that it calls make is longer than what came in: it says more and counts as full. Else prove '..UptoSaid'. A law counts once. -/
mutual
def uptoBulk {H : Type} : DataW H → Nat
  | .lit (.string bytes) => bytes.length + 1
  | .lit _ => 1
  | .nil => 1
  | .ptr d => uptoBulk d + 1
  | .slice elems spare => uptoBulkAll elems + uptoBulkAll spare + 1
  | .agg parts => uptoBulkAll parts + 1
  | .iface _ d => uptoBulk d + 1
  | .map entries => uptoBulkEntries entries + 1
  | .held _ => 1
def uptoBulkAll {H : Type} : List (DataW H) → Nat
  | [] => 0
  | d :: r => uptoBulk d + uptoBulkAll r
def uptoBulkEntries {H : Type} : List (Lit × DataW H) → Nat
  | [] => 0
  | x :: r => uptoBulkEntry x + uptoBulkEntries r
def uptoBulkEntry {H : Type} : Lit × DataW H → Nat
  | (.string bytes, d) => bytes.length + uptoBulk d + 1
  | (_, d) => uptoBulk d + 1
 end
def uptoSmall : (H : Type) → List (DataW H) → Bool := fun _ ds => decide (uptoBulkAll ds ≤ 1048576)
def OpenSpec.upto (s : _root_.Go.ChangeSpec) : _root_.Go.OpenSpec := { _root_.Go.OpenSpec.ofChange s with cond := some uptoSmall }

/-- 'sentinellaw09.BooleanMatches', WHERE WHAT IT READS IS OF BULK AT MOST 1048576: true; the input reads as it did. -/
def booleanMatchesUptoRow : OpenClaim := { program := "ytdaapdamcekkgaadoor", sum := "743f5fa48028ce7ef6fb52e15911882ba90deb4e945f63ca12054bdcb8f6b864", func := "sentinel/sentinellaw09.BooleanMatches", spec := "booleanMatches", unfollowed := true, recurses := true, named := ["internal/strconv.uint64pow10", "math/bits.deBruijn32tab", "math/bits.deBruijn64tab"], plainKeys := false, apart := false, laid := [("math/bits.deBruijn32tab", laid_math_bits_deBruijn32tab), ("math/bits.deBruijn64tab", laid_math_bits_deBruijn64tab), ("internal/strconv.uint64pow10", laid_internal_strconv_uint64pow10)], narrowed := true }
def BooleanMatchesUptoSaid : Prop := booleanMatchesUptoRow.holds Tryd.pinned (OpenSpec.upto booleanMatchesSpec)

/-- 'sentinellaw09.BooleanWords', WHERE WHAT IT READS IS OF BULK AT MOST 1048576: true; the input reads as it did. -/
def booleanWordsUptoRow : OpenClaim := { program := "ytdaapdamcekkgaadoor", sum := "743f5fa48028ce7ef6fb52e15911882ba90deb4e945f63ca12054bdcb8f6b864", func := "sentinel/sentinellaw09.BooleanWords", spec := "booleanWords", unfollowed := true, recurses := true, named := ["internal/strconv.uint64pow10", "math/bits.deBruijn32tab", "math/bits.deBruijn64tab"], plainKeys := false, apart := false, laid := [("math/bits.deBruijn32tab", laid_math_bits_deBruijn32tab), ("math/bits.deBruijn64tab", laid_math_bits_deBruijn64tab), ("internal/strconv.uint64pow10", laid_internal_strconv_uint64pow10)], narrowed := true }
def BooleanWordsUptoSaid : Prop := booleanWordsUptoRow.holds Tryd.pinned (OpenSpec.upto booleanWordsSpec)

/-- 'sentinellaw09.BooleanLaws', WHERE WHAT IT READS IS OF BULK AT MOST 1048576: true; the input reads as it did. -/
def booleanLawsUptoRow : OpenClaim := { program := "ytdaapdamcekkgaadoor", sum := "743f5fa48028ce7ef6fb52e15911882ba90deb4e945f63ca12054bdcb8f6b864", func := "sentinel/sentinellaw09.BooleanLaws", spec := "booleanLaws", unfollowed := true, recurses := true, named := ["internal/strconv.uint64pow10", "math/bits.deBruijn32tab", "math/bits.deBruijn64tab"], plainKeys := false, apart := false, laid := [("math/bits.deBruijn32tab", laid_math_bits_deBruijn32tab), ("math/bits.deBruijn64tab", laid_math_bits_deBruijn64tab), ("internal/strconv.uint64pow10", laid_internal_strconv_uint64pow10)], narrowed := true }
def BooleanLawsUptoSaid : Prop := booleanLawsUptoRow.holds Tryd.pinned (OpenSpec.upto booleanLawsSpec)

/-- 'sentinellaw09.BooleanInclusion', WHERE WHAT IT READS IS OF BULK AT MOST 1048576: true; the input reads as it did. -/
def booleanInclusionUptoRow : OpenClaim := { program := "ytdaapdamcekkgaadoor", sum := "743f5fa48028ce7ef6fb52e15911882ba90deb4e945f63ca12054bdcb8f6b864", func := "sentinel/sentinellaw09.BooleanInclusion", spec := "booleanInclusion", unfollowed := true, recurses := true, named := ["internal/strconv.uint64pow10", "math/bits.deBruijn32tab", "math/bits.deBruijn64tab"], plainKeys := false, apart := false, laid := [("math/bits.deBruijn32tab", laid_math_bits_deBruijn32tab), ("math/bits.deBruijn64tab", laid_math_bits_deBruijn64tab), ("internal/strconv.uint64pow10", laid_internal_strconv_uint64pow10)], narrowed := true }
def BooleanInclusionUptoSaid : Prop := booleanInclusionUptoRow.holds Tryd.pinned (OpenSpec.upto booleanInclusionSpec)

/-- 'sentinellaw09.BooleanDecides', WHERE WHAT IT READS IS OF BULK AT MOST 1048576: true; the input reads as it did. -/
def booleanDecidesUptoRow : OpenClaim := { program := "ytdaapdamcekkgaadoor", sum := "743f5fa48028ce7ef6fb52e15911882ba90deb4e945f63ca12054bdcb8f6b864", func := "sentinel/sentinellaw09.BooleanDecides", spec := "booleanDecides", unfollowed := true, recurses := true, named := ["internal/strconv.uint64pow10", "math/bits.deBruijn32tab", "math/bits.deBruijn64tab"], plainKeys := false, apart := false, laid := [("math/bits.deBruijn32tab", laid_math_bits_deBruijn32tab), ("math/bits.deBruijn64tab", laid_math_bits_deBruijn64tab), ("internal/strconv.uint64pow10", laid_internal_strconv_uint64pow10)], narrowed := true }
def BooleanDecidesUptoSaid : Prop := booleanDecidesUptoRow.holds Tryd.pinned (OpenSpec.upto booleanDecidesSpec)

/-- 'sentinellaw09.BooleanExamples', WHERE WHAT IT READS IS OF BULK AT MOST 1048576: true; the input reads as it did. -/
def booleanExamplesUptoRow : OpenClaim := { program := "ytdaapdamcekkgaadoor", sum := "743f5fa48028ce7ef6fb52e15911882ba90deb4e945f63ca12054bdcb8f6b864", func := "sentinel/sentinellaw09.BooleanExamples", spec := "booleanExamples", unfollowed := true, recurses := true, named := ["internal/strconv.uint64pow10", "math/bits.deBruijn32tab", "math/bits.deBruijn64tab"], plainKeys := false, apart := false, laid := [("math/bits.deBruijn32tab", laid_math_bits_deBruijn32tab), ("math/bits.deBruijn64tab", laid_math_bits_deBruijn64tab), ("internal/strconv.uint64pow10", laid_internal_strconv_uint64pow10)], narrowed := true }
def BooleanExamplesUptoSaid : Prop := booleanExamplesUptoRow.holds Tryd.pinned (OpenSpec.upto booleanExamplesSpec)

/-- 'sentinellaw09.BooleanAll', WHERE WHAT IT READS IS OF BULK AT MOST 1048576: true; the input reads as it did. -/
def booleanAllUptoRow : OpenClaim := { program := "ytdaapdamcekkgaadoor", sum := "743f5fa48028ce7ef6fb52e15911882ba90deb4e945f63ca12054bdcb8f6b864", func := "sentinel/sentinellaw09.BooleanAll", spec := "booleanAll", unfollowed := true, recurses := true, named := ["internal/strconv.uint64pow10", "math/bits.deBruijn32tab", "math/bits.deBruijn64tab"], plainKeys := false, apart := false, laid := [("math/bits.deBruijn32tab", laid_math_bits_deBruijn32tab), ("math/bits.deBruijn64tab", laid_math_bits_deBruijn64tab), ("internal/strconv.uint64pow10", laid_internal_strconv_uint64pow10)], narrowed := true }
def BooleanAllUptoSaid : Prop := booleanAllUptoRow.holds Tryd.pinned (OpenSpec.upto booleanAllSpec)

end Rows
end Go.Proofs.YtdaapdamcekkgaaDoor
