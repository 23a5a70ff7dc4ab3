/-
  NARROWER THAN 'FOR EVERY INPUT', by the rows' own cells (each row's printed sentence says how): ProjectQuantifies: laid · ProjectChanges: laid · ProjectExamples: laid · ProjectVariants: laid · ProjectDrops: laid · ProjectRenames: laid · ProjectDual: laid.
  DERIVED. THE GIVEN ROWS OF THIS SEAT. 7 by the template 'for every input the law returns true; each argument reads behind the call as it read before'; 0 by the template 'total and deterministic' (their statements: YtohkmggbfcnapaaGreatDoorTotals.lean).
  GIVEN WITH THE SEED: the statements are not yours to turn. If you find one false, say at which input.
  Laid BY PROGRAM, IN A SANDBOX (cutbox-rows.mjs): the forced cells as the released guide's own fill.sh prints them over the translation bd3d91068ca120ba… (all of the seat's roots in one cut). By AI agents, Wed Nov 11 2026. No macro, syntax, notation, axiom, sorry.
-/
import Derived.Test.YtohkmggbfcnapaaGreatDoorChecked
import GoSem.Claim
import GoSem.ClaimJoined
import GoSem.ClaimMapViews
import Derived.JoinedTies
import Derived.KernelRfl
namespace Go.Proofs.YtohkmggbfcnapaaGreatDoor
/- THE CELL 'sum', in the pinned program and in every row, IS THE sha256 OF THE DUMP (.gsa) THAT YtohkmggbfcnapaaGreatDoorProg.lean LOADS. Nothing in Lean hashes anything: it is a label: what it is worth is what the hold of that sum in a sandbox is worth. -/
noncomputable def Tryz.pinned : Pinned := { name := "ytohkmggbfcnapaagreatdoor", sum := "bd3d91068ca120ba58df26bfb54f5fbf955d0f22caa7495ef76a22b0e8e8a13a", checked := Tryz.checked }
namespace Rows
def none {H : Type} : Left H := { results := [], args := [] }

/- WHAT THE LISTED PACKAGE-LEVEL VARIABLES READ AS WHEN THE CALL BEGINS. Each datum BY PROGRAM (the guide's laid-datum.mjs) off the statement by which the dump's own 'gosem.cut.vars' lays the variable. In a bare row this is a premise. The card (YtohkmggbfcnapaaGreatDoorCards.lean) ties it to the program's text. -/
def laid_math_bits_deBruijn32tab {H : Type} : DataW H := .agg [.lit (.int .u8 0), .lit (.int .u8 1), .lit (.int .u8 28), .lit (.int .u8 2), .lit (.int .u8 29), .lit (.int .u8 14), .lit (.int .u8 24), .lit (.int .u8 3), .lit (.int .u8 30), .lit (.int .u8 22), .lit (.int .u8 20), .lit (.int .u8 15), .lit (.int .u8 25), .lit (.int .u8 17), .lit (.int .u8 4), .lit (.int .u8 8), .lit (.int .u8 31), .lit (.int .u8 27), .lit (.int .u8 13), .lit (.int .u8 23), .lit (.int .u8 21), .lit (.int .u8 19), .lit (.int .u8 16), .lit (.int .u8 7), .lit (.int .u8 26), .lit (.int .u8 12), .lit (.int .u8 18), .lit (.int .u8 6), .lit (.int .u8 11), .lit (.int .u8 5), .lit (.int .u8 10), .lit (.int .u8 9)]
def laid_math_bits_deBruijn64tab {H : Type} : DataW H := .agg [.lit (.int .u8 0), .lit (.int .u8 1), .lit (.int .u8 56), .lit (.int .u8 2), .lit (.int .u8 57), .lit (.int .u8 49), .lit (.int .u8 28), .lit (.int .u8 3), .lit (.int .u8 61), .lit (.int .u8 58), .lit (.int .u8 42), .lit (.int .u8 50), .lit (.int .u8 38), .lit (.int .u8 29), .lit (.int .u8 17), .lit (.int .u8 4), .lit (.int .u8 62), .lit (.int .u8 47), .lit (.int .u8 59), .lit (.int .u8 36), .lit (.int .u8 45), .lit (.int .u8 43), .lit (.int .u8 51), .lit (.int .u8 22), .lit (.int .u8 53), .lit (.int .u8 39), .lit (.int .u8 33), .lit (.int .u8 30), .lit (.int .u8 24), .lit (.int .u8 18), .lit (.int .u8 12), .lit (.int .u8 5), .lit (.int .u8 63), .lit (.int .u8 55), .lit (.int .u8 48), .lit (.int .u8 27), .lit (.int .u8 60), .lit (.int .u8 41), .lit (.int .u8 37), .lit (.int .u8 16), .lit (.int .u8 46), .lit (.int .u8 35), .lit (.int .u8 44), .lit (.int .u8 21), .lit (.int .u8 52), .lit (.int .u8 32), .lit (.int .u8 23), .lit (.int .u8 11), .lit (.int .u8 54), .lit (.int .u8 26), .lit (.int .u8 40), .lit (.int .u8 15), .lit (.int .u8 34), .lit (.int .u8 20), .lit (.int .u8 31), .lit (.int .u8 10), .lit (.int .u8 25), .lit (.int .u8 14), .lit (.int .u8 19), .lit (.int .u8 9), .lit (.int .u8 13), .lit (.int .u8 8), .lit (.int .u8 7), .lit (.int .u8 6)]
def laid_internal_strconv_uint64pow10 {H : Type} : DataW H := .agg [.lit (.int .u64 1), .lit (.int .u64 10), .lit (.int .u64 100), .lit (.int .u64 1000), .lit (.int .u64 10000), .lit (.int .u64 100000), .lit (.int .u64 1000000), .lit (.int .u64 10000000), .lit (.int .u64 100000000), .lit (.int .u64 1000000000), .lit (.int .u64 10000000000), .lit (.int .u64 100000000000), .lit (.int .u64 1000000000000), .lit (.int .u64 10000000000000), .lit (.int .u64 100000000000000), .lit (.int .u64 1000000000000000), .lit (.int .u64 10000000000000000), .lit (.int .u64 100000000000000000), .lit (.int .u64 1000000000000000000), .lit (.int .u64 10000000000000000000)]

/-- 'sentinellaw11.ProjectQuantifies': WHATEVER THE INPUT: true; the input reads as it did. -/
def projectQuantifiesSpec : ChangeSpec := { name := "projectQuantifies", fn := fun _ => fun
  | [d1, d2, d3] => { results := [.lit (.bool true)], args := [d1, d2, d3] }
  | _ => none }
def projectQuantifiesRow : OpenClaim := { program := "ytohkmggbfcnapaagreatdoor", sum := "bd3d91068ca120ba58df26bfb54f5fbf955d0f22caa7495ef76a22b0e8e8a13a", func := "sentinel/sentinellaw11.ProjectQuantifies", spec := "projectQuantifies", unfollowed := true, recurses := true, named := ["internal/strconv.uint64pow10", "math/bits.deBruijn32tab", "math/bits.deBruijn64tab"], plainKeys := false, apart := false, laid := [("math/bits.deBruijn32tab", laid_math_bits_deBruijn32tab), ("math/bits.deBruijn64tab", laid_math_bits_deBruijn64tab), ("internal/strconv.uint64pow10", laid_internal_strconv_uint64pow10)] }
def ProjectQuantifiesSaid : Prop := projectQuantifiesRow.holds Tryz.pinned (OpenSpec.ofChange projectQuantifiesSpec)

/-- ITS FALSE NEIGHBOUR: 'it returns false'. Refute it at one input. -/
def projectQuantifiesWrong : ChangeSpec := { name := "projectQuantifies", fn := fun _ => fun
  | [d1, d2, d3] => { results := [.lit (.bool false)], args := [d1, d2, d3] }
  | _ => none }
def ProjectQuantifiesWrongFalsely : Prop := projectQuantifiesRow.holds Tryz.pinned (OpenSpec.ofChange projectQuantifiesWrong)

/-- 'sentinellaw11.ProjectChanges': WHATEVER THE INPUT: true; the input reads as it did. -/
def projectChangesSpec : ChangeSpec := { name := "projectChanges", fn := fun _ => fun
  | [d1, d2, d3] => { results := [.lit (.bool true)], args := [d1, d2, d3] }
  | _ => none }
def projectChangesRow : OpenClaim := { program := "ytohkmggbfcnapaagreatdoor", sum := "bd3d91068ca120ba58df26bfb54f5fbf955d0f22caa7495ef76a22b0e8e8a13a", func := "sentinel/sentinellaw11.ProjectChanges", spec := "projectChanges", unfollowed := true, recurses := true, named := ["internal/strconv.uint64pow10", "math/bits.deBruijn32tab", "math/bits.deBruijn64tab"], plainKeys := false, apart := false, laid := [("math/bits.deBruijn32tab", laid_math_bits_deBruijn32tab), ("math/bits.deBruijn64tab", laid_math_bits_deBruijn64tab), ("internal/strconv.uint64pow10", laid_internal_strconv_uint64pow10)] }
def ProjectChangesSaid : Prop := projectChangesRow.holds Tryz.pinned (OpenSpec.ofChange projectChangesSpec)

/-- ITS FALSE NEIGHBOUR: 'it returns false'. Refute it at one input. -/
def projectChangesWrong : ChangeSpec := { name := "projectChanges", fn := fun _ => fun
  | [d1, d2, d3] => { results := [.lit (.bool false)], args := [d1, d2, d3] }
  | _ => none }
def ProjectChangesWrongFalsely : Prop := projectChangesRow.holds Tryz.pinned (OpenSpec.ofChange projectChangesWrong)

/-- 'sentinellaw11.ProjectExamples': WHATEVER THE INPUT: true; the input reads as it did. -/
def projectExamplesSpec : ChangeSpec := { name := "projectExamples", fn := fun _ => fun
  | [] => { results := [.lit (.bool true)], args := [] }
  | _ => none }
def projectExamplesRow : OpenClaim := { program := "ytohkmggbfcnapaagreatdoor", sum := "bd3d91068ca120ba58df26bfb54f5fbf955d0f22caa7495ef76a22b0e8e8a13a", func := "sentinel/sentinellaw11.ProjectExamples", spec := "projectExamples", unfollowed := true, recurses := true, named := ["internal/strconv.uint64pow10", "math/bits.deBruijn32tab", "math/bits.deBruijn64tab"], plainKeys := false, apart := false, laid := [("math/bits.deBruijn32tab", laid_math_bits_deBruijn32tab), ("math/bits.deBruijn64tab", laid_math_bits_deBruijn64tab), ("internal/strconv.uint64pow10", laid_internal_strconv_uint64pow10)] }
def ProjectExamplesSaid : Prop := projectExamplesRow.holds Tryz.pinned (OpenSpec.ofChange projectExamplesSpec)

/-- ITS FALSE NEIGHBOUR: 'it returns false'. Refute it at one input. -/
def projectExamplesWrong : ChangeSpec := { name := "projectExamples", fn := fun _ => fun
  | [] => { results := [.lit (.bool false)], args := [] }
  | _ => none }
def ProjectExamplesWrongFalsely : Prop := projectExamplesRow.holds Tryz.pinned (OpenSpec.ofChange projectExamplesWrong)

/-- 'sentinellaw11.ProjectVariants': WHATEVER THE INPUT: true; the input reads as it did. -/
def projectVariantsSpec : ChangeSpec := { name := "projectVariants", fn := fun _ => fun
  | [d1, d2, d3] => { results := [.lit (.bool true)], args := [d1, d2, d3] }
  | _ => none }
def projectVariantsRow : OpenClaim := { program := "ytohkmggbfcnapaagreatdoor", sum := "bd3d91068ca120ba58df26bfb54f5fbf955d0f22caa7495ef76a22b0e8e8a13a", func := "sentinel/sentinellaw11.ProjectVariants", spec := "projectVariants", unfollowed := true, recurses := true, named := ["internal/strconv.uint64pow10", "math/bits.deBruijn32tab", "math/bits.deBruijn64tab"], plainKeys := false, apart := false, laid := [("math/bits.deBruijn32tab", laid_math_bits_deBruijn32tab), ("math/bits.deBruijn64tab", laid_math_bits_deBruijn64tab), ("internal/strconv.uint64pow10", laid_internal_strconv_uint64pow10)] }
def ProjectVariantsSaid : Prop := projectVariantsRow.holds Tryz.pinned (OpenSpec.ofChange projectVariantsSpec)

/-- ITS FALSE NEIGHBOUR: 'it returns false'. Refute it at one input. -/
def projectVariantsWrong : ChangeSpec := { name := "projectVariants", fn := fun _ => fun
  | [d1, d2, d3] => { results := [.lit (.bool false)], args := [d1, d2, d3] }
  | _ => none }
def ProjectVariantsWrongFalsely : Prop := projectVariantsRow.holds Tryz.pinned (OpenSpec.ofChange projectVariantsWrong)

/-- 'sentinellaw11.ProjectDrops': WHATEVER THE INPUT: true; the input reads as it did. -/
def projectDropsSpec : ChangeSpec := { name := "projectDrops", fn := fun _ => fun
  | [d1, d2] => { results := [.lit (.bool true)], args := [d1, d2] }
  | _ => none }
def projectDropsRow : OpenClaim := { program := "ytohkmggbfcnapaagreatdoor", sum := "bd3d91068ca120ba58df26bfb54f5fbf955d0f22caa7495ef76a22b0e8e8a13a", func := "sentinel/sentinellaw11.ProjectDrops", spec := "projectDrops", unfollowed := true, recurses := true, named := ["internal/strconv.uint64pow10", "math/bits.deBruijn32tab", "math/bits.deBruijn64tab"], plainKeys := false, apart := false, laid := [("math/bits.deBruijn32tab", laid_math_bits_deBruijn32tab), ("math/bits.deBruijn64tab", laid_math_bits_deBruijn64tab), ("internal/strconv.uint64pow10", laid_internal_strconv_uint64pow10)] }
def ProjectDropsSaid : Prop := projectDropsRow.holds Tryz.pinned (OpenSpec.ofChange projectDropsSpec)

/-- ITS FALSE NEIGHBOUR: 'it returns false'. Refute it at one input. -/
def projectDropsWrong : ChangeSpec := { name := "projectDrops", fn := fun _ => fun
  | [d1, d2] => { results := [.lit (.bool false)], args := [d1, d2] }
  | _ => none }
def ProjectDropsWrongFalsely : Prop := projectDropsRow.holds Tryz.pinned (OpenSpec.ofChange projectDropsWrong)

/-- 'sentinellaw11.ProjectRenames': WHATEVER THE INPUT: true; the input reads as it did. -/
def projectRenamesSpec : ChangeSpec := { name := "projectRenames", fn := fun _ => fun
  | [d1, d2, d3, d4] => { results := [.lit (.bool true)], args := [d1, d2, d3, d4] }
  | _ => none }
def projectRenamesRow : OpenClaim := { program := "ytohkmggbfcnapaagreatdoor", sum := "bd3d91068ca120ba58df26bfb54f5fbf955d0f22caa7495ef76a22b0e8e8a13a", func := "sentinel/sentinellaw11.ProjectRenames", spec := "projectRenames", unfollowed := true, recurses := true, named := ["internal/strconv.uint64pow10", "math/bits.deBruijn32tab", "math/bits.deBruijn64tab"], plainKeys := false, apart := false, laid := [("math/bits.deBruijn32tab", laid_math_bits_deBruijn32tab), ("math/bits.deBruijn64tab", laid_math_bits_deBruijn64tab), ("internal/strconv.uint64pow10", laid_internal_strconv_uint64pow10)] }
def ProjectRenamesSaid : Prop := projectRenamesRow.holds Tryz.pinned (OpenSpec.ofChange projectRenamesSpec)

/-- ITS FALSE NEIGHBOUR: 'it returns false'. Refute it at one input. -/
def projectRenamesWrong : ChangeSpec := { name := "projectRenames", fn := fun _ => fun
  | [d1, d2, d3, d4] => { results := [.lit (.bool false)], args := [d1, d2, d3, d4] }
  | _ => none }
def ProjectRenamesWrongFalsely : Prop := projectRenamesRow.holds Tryz.pinned (OpenSpec.ofChange projectRenamesWrong)

/-- 'sentinellaw11.ProjectDual': WHATEVER THE INPUT: true; the input reads as it did. -/
def projectDualSpec : ChangeSpec := { name := "projectDual", fn := fun _ => fun
  | [d1, d2, d3] => { results := [.lit (.bool true)], args := [d1, d2, d3] }
  | _ => none }
def projectDualRow : OpenClaim := { program := "ytohkmggbfcnapaagreatdoor", sum := "bd3d91068ca120ba58df26bfb54f5fbf955d0f22caa7495ef76a22b0e8e8a13a", func := "sentinel/sentinellaw11.ProjectDual", spec := "projectDual", unfollowed := true, recurses := true, named := ["internal/strconv.uint64pow10", "math/bits.deBruijn32tab", "math/bits.deBruijn64tab"], plainKeys := false, apart := false, laid := [("math/bits.deBruijn32tab", laid_math_bits_deBruijn32tab), ("math/bits.deBruijn64tab", laid_math_bits_deBruijn64tab), ("internal/strconv.uint64pow10", laid_internal_strconv_uint64pow10)] }
def ProjectDualSaid : Prop := projectDualRow.holds Tryz.pinned (OpenSpec.ofChange projectDualSpec)

/-- ITS FALSE NEIGHBOUR: 'it returns false'. Refute it at one input. -/
def projectDualWrong : ChangeSpec := { name := "projectDual", fn := fun _ => fun
  | [d1, d2, d3] => { results := [.lit (.bool false)], args := [d1, d2, d3] }
  | _ => none }
def ProjectDualWrongFalsely : Prop := projectDualRow.holds Tryz.pinned (OpenSpec.ofChange projectDualWrong)

/- THE SECOND FORM. 'bulk': how many values and letters a reading holds, each counted each time it is reached (what is shared counts as often as it is met; a slice's spare places count too). A statement '..UptoSaid' is the law's where the arguments, and the package variables that the reading takes, are together of bulk at most 1048576: NARROWER than '..Said'. Prove '..Said' where nothing that the law and all that it calls make is longer than what came in: it says more and counts as full. Else prove '..UptoSaid'. A law counts once. -/
mutual
def uptoBulk {H : Type} : DataW H → Nat
  | .lit (.string bytes) => bytes.length + 1
  | .lit _ => 1
  | .nil => 1
  | .ptr d => uptoBulk d + 1
  | .slice elems spare => uptoBulkAll elems + uptoBulkAll spare + 1
  | .agg parts => uptoBulkAll parts + 1
  | .iface _ d => uptoBulk d + 1
  | .map entries => uptoBulkEntries entries + 1
  | .held _ => 1
def uptoBulkAll {H : Type} : List (DataW H) → Nat
  | [] => 0
  | d :: r => uptoBulk d + uptoBulkAll r
def uptoBulkEntries {H : Type} : List (Lit × DataW H) → Nat
  | [] => 0
  | x :: r => uptoBulkEntry x + uptoBulkEntries r
def uptoBulkEntry {H : Type} : Lit × DataW H → Nat
  | (.string bytes, d) => bytes.length + uptoBulk d + 1
  | (_, d) => uptoBulk d + 1
 end
def uptoSmall : (H : Type) → List (DataW H) → Bool := fun _ ds => decide (uptoBulkAll ds ≤ 1048576)
def OpenSpec.upto (s : _root_.Go.ChangeSpec) : _root_.Go.OpenSpec := { _root_.Go.OpenSpec.ofChange s with cond := some uptoSmall }

/-- 'sentinellaw11.ProjectQuantifies', WHERE WHAT IT READS IS OF BULK AT MOST 1048576: true; the input reads as it did. -/
def projectQuantifiesUptoRow : OpenClaim := { program := "ytohkmggbfcnapaagreatdoor", sum := "bd3d91068ca120ba58df26bfb54f5fbf955d0f22caa7495ef76a22b0e8e8a13a", func := "sentinel/sentinellaw11.ProjectQuantifies", spec := "projectQuantifies", unfollowed := true, recurses := true, named := ["internal/strconv.uint64pow10", "math/bits.deBruijn32tab", "math/bits.deBruijn64tab"], plainKeys := false, apart := false, laid := [("math/bits.deBruijn32tab", laid_math_bits_deBruijn32tab), ("math/bits.deBruijn64tab", laid_math_bits_deBruijn64tab), ("internal/strconv.uint64pow10", laid_internal_strconv_uint64pow10)], narrowed := true }
def ProjectQuantifiesUptoSaid : Prop := projectQuantifiesUptoRow.holds Tryz.pinned (OpenSpec.upto projectQuantifiesSpec)

/-- 'sentinellaw11.ProjectChanges', WHERE WHAT IT READS IS OF BULK AT MOST 1048576: true; the input reads as it did. -/
def projectChangesUptoRow : OpenClaim := { program := "ytohkmggbfcnapaagreatdoor", sum := "bd3d91068ca120ba58df26bfb54f5fbf955d0f22caa7495ef76a22b0e8e8a13a", func := "sentinel/sentinellaw11.ProjectChanges", spec := "projectChanges", unfollowed := true, recurses := true, named := ["internal/strconv.uint64pow10", "math/bits.deBruijn32tab", "math/bits.deBruijn64tab"], plainKeys := false, apart := false, laid := [("math/bits.deBruijn32tab", laid_math_bits_deBruijn32tab), ("math/bits.deBruijn64tab", laid_math_bits_deBruijn64tab), ("internal/strconv.uint64pow10", laid_internal_strconv_uint64pow10)], narrowed := true }
def ProjectChangesUptoSaid : Prop := projectChangesUptoRow.holds Tryz.pinned (OpenSpec.upto projectChangesSpec)

/-- 'sentinellaw11.ProjectExamples', WHERE WHAT IT READS IS OF BULK AT MOST 1048576: true; the input reads as it did. -/
def projectExamplesUptoRow : OpenClaim := { program := "ytohkmggbfcnapaagreatdoor", sum := "bd3d91068ca120ba58df26bfb54f5fbf955d0f22caa7495ef76a22b0e8e8a13a", func := "sentinel/sentinellaw11.ProjectExamples", spec := "projectExamples", unfollowed := true, recurses := true, named := ["internal/strconv.uint64pow10", "math/bits.deBruijn32tab", "math/bits.deBruijn64tab"], plainKeys := false, apart := false, laid := [("math/bits.deBruijn32tab", laid_math_bits_deBruijn32tab), ("math/bits.deBruijn64tab", laid_math_bits_deBruijn64tab), ("internal/strconv.uint64pow10", laid_internal_strconv_uint64pow10)], narrowed := true }
def ProjectExamplesUptoSaid : Prop := projectExamplesUptoRow.holds Tryz.pinned (OpenSpec.upto projectExamplesSpec)

/-- 'sentinellaw11.ProjectVariants', WHERE WHAT IT READS IS OF BULK AT MOST 1048576: true; the input reads as it did. -/
def projectVariantsUptoRow : OpenClaim := { program := "ytohkmggbfcnapaagreatdoor", sum := "bd3d91068ca120ba58df26bfb54f5fbf955d0f22caa7495ef76a22b0e8e8a13a", func := "sentinel/sentinellaw11.ProjectVariants", spec := "projectVariants", unfollowed := true, recurses := true, named := ["internal/strconv.uint64pow10", "math/bits.deBruijn32tab", "math/bits.deBruijn64tab"], plainKeys := false, apart := false, laid := [("math/bits.deBruijn32tab", laid_math_bits_deBruijn32tab), ("math/bits.deBruijn64tab", laid_math_bits_deBruijn64tab), ("internal/strconv.uint64pow10", laid_internal_strconv_uint64pow10)], narrowed := true }
def ProjectVariantsUptoSaid : Prop := projectVariantsUptoRow.holds Tryz.pinned (OpenSpec.upto projectVariantsSpec)

/-- 'sentinellaw11.ProjectDrops', WHERE WHAT IT READS IS OF BULK AT MOST 1048576: true; the input reads as it did. -/
def projectDropsUptoRow : OpenClaim := { program := "ytohkmggbfcnapaagreatdoor", sum := "bd3d91068ca120ba58df26bfb54f5fbf955d0f22caa7495ef76a22b0e8e8a13a", func := "sentinel/sentinellaw11.ProjectDrops", spec := "projectDrops", unfollowed := true, recurses := true, named := ["internal/strconv.uint64pow10", "math/bits.deBruijn32tab", "math/bits.deBruijn64tab"], plainKeys := false, apart := false, laid := [("math/bits.deBruijn32tab", laid_math_bits_deBruijn32tab), ("math/bits.deBruijn64tab", laid_math_bits_deBruijn64tab), ("internal/strconv.uint64pow10", laid_internal_strconv_uint64pow10)], narrowed := true }
def ProjectDropsUptoSaid : Prop := projectDropsUptoRow.holds Tryz.pinned (OpenSpec.upto projectDropsSpec)

/-- 'sentinellaw11.ProjectRenames', WHERE WHAT IT READS IS OF BULK AT MOST 1048576: true; the input reads as it did. -/
def projectRenamesUptoRow : OpenClaim := { program := "ytohkmggbfcnapaagreatdoor", sum := "bd3d91068ca120ba58df26bfb54f5fbf955d0f22caa7495ef76a22b0e8e8a13a", func := "sentinel/sentinellaw11.ProjectRenames", spec := "projectRenames", unfollowed := true, recurses := true, named := ["internal/strconv.uint64pow10", "math/bits.deBruijn32tab", "math/bits.deBruijn64tab"], plainKeys := false, apart := false, laid := [("math/bits.deBruijn32tab", laid_math_bits_deBruijn32tab), ("math/bits.deBruijn64tab", laid_math_bits_deBruijn64tab), ("internal/strconv.uint64pow10", laid_internal_strconv_uint64pow10)], narrowed := true }
def ProjectRenamesUptoSaid : Prop := projectRenamesUptoRow.holds Tryz.pinned (OpenSpec.upto projectRenamesSpec)

/-- 'sentinellaw11.ProjectDual', WHERE WHAT IT READS IS OF BULK AT MOST 1048576: true; the input reads as it did. -/
def projectDualUptoRow : OpenClaim := { program := "ytohkmggbfcnapaagreatdoor", sum := "bd3d91068ca120ba58df26bfb54f5fbf955d0f22caa7495ef76a22b0e8e8a13a", func := "sentinel/sentinellaw11.ProjectDual", spec := "projectDual", unfollowed := true, recurses := true, named := ["internal/strconv.uint64pow10", "math/bits.deBruijn32tab", "math/bits.deBruijn64tab"], plainKeys := false, apart := false, laid := [("math/bits.deBruijn32tab", laid_math_bits_deBruijn32tab), ("math/bits.deBruijn64tab", laid_math_bits_deBruijn64tab), ("internal/strconv.uint64pow10", laid_internal_strconv_uint64pow10)], narrowed := true }
def ProjectDualUptoSaid : Prop := projectDualUptoRow.holds Tryz.pinned (OpenSpec.upto projectDualSpec)

end Rows
end Go.Proofs.YtohkmggbfcnapaaGreatDoor
