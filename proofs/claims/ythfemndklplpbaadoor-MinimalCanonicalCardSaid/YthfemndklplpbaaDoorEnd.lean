/- The closing of the laws: the arguments opened, a world for the witness. -/
import Derived.Test.YthfemndklplpbaaDoorCards
import Derived.Test.YthfemndklplpbaaDoorTie
import Derived.WalkKit
import Derived.ProofKit
import Derived.OpenShut
import Derived.Deep.DeepHandedRow
import Derived.Lib.LaidTab
import Derived.Test.YthfemndklplpbaaDoorClose
import Derived.Test.YthfemndklplpbaaDoorFacts
set_option linter.unusedSectionVars false
set_option linter.unusedSimpArgs false
set_option linter.unusedVariables false
set_option linter.unnecessarySimpa false
namespace Go.Proofs.YthfemndklplpbaaDoor
open Go.ChangeShapes Go.WideShapes Go.ChangeAt Go.RowKit Go.Lx
set_option maxRecDepth 100000

theorem own : ownKnob Tryd.prog.godebug = none := by kernel_rfl
theorem laidOut : laidOutB Tryd.prog = true := by kernel_rfl
theorem reads25 : Tryd.prog.readableRec 25 = true := by kernel_rfl
theorem reads3 : Tryd.prog.readableRec 3 = true := by kernel_rfl
theorem lt25 : 25 < Tryd.prog.types.size := of_decide_eq_true (by kernel_rfl)
theorem lt3 : 3 < Tryd.prog.types.size := of_decide_eq_true (by kernel_rfl)
theorem reads5 : Tryd.prog.readableRec 5 = true := by kernel_rfl
theorem reads42 : Tryd.prog.readableRec 42 = true := by kernel_rfl
theorem lt5 : 5 < Tryd.prog.types.size := of_decide_eq_true (by kernel_rfl)
theorem lt42 : 42 < Tryd.prog.types.size := of_decide_eq_true (by kernel_rfl)
theorem cells_u : Tryd.prog.cellsOf 5 = 1 := by kernel_rfl
theorem bytes_u : 0 < Tryd.prog.bytesOf 5 := of_decide_eq_true (by kernel_rfl)
theorem cells_a : Tryd.prog.cellsOf 25 = 4 := by kernel_rfl
theorem cells_b : Tryd.prog.cellsOf 3 = 1 := by kernel_rfl
theorem cells_c : Tryd.prog.cellsOf 22 = 1 := by kernel_rfl
theorem cells_d : Tryd.prog.cellsOf 33 = 1 := by kernel_rfl
theorem cells_e : Tryd.prog.cellsOf 23 = 1 := by kernel_rfl
theorem cells_f : Tryd.prog.cellsOf 4 = 1 := by kernel_rfl

theorem bytes_a : 0 < Tryd.prog.bytesOf 33 := of_decide_eq_true (by kernel_rfl)
theorem bytes_b : 0 < Tryd.prog.bytesOf 3 := of_decide_eq_true (by kernel_rfl)
theorem bytes_c : 0 < Tryd.prog.bytesOf 4 := of_decide_eq_true (by kernel_rfl)

theorem openD {H : Type} {enc : TypeId × Value → H} {W : World} {v : Value} {d : DataW H} {p : List MemPlace} (hw : ∀ m ∈ d.weights Tryd.prog 25, m ≤ reachBytes) (h : DataW.Trod enc Tryd.prog W 0 (fun _ => true) true 25 v d p) : ∃ D nb fb nc fc vs, DfaIn Tryd.prog W v D nb fb nc fc vs :=
  open_dfa Tryd.underlying25 cells_a rfl rfl rfl rfl rfl rfl rfl rfl Tryd.underlying3 Tryd.underlying22 Tryd.underlying33 Tryd.underlying23 Tryd.underlying4 cells_b cells_c cells_d cells_e cells_f bytes_a bytes_b bytes_c hw h

def fillO (cs : Array Value) : Obj → Obj
  | .cells _ t frozen => .cells cs t frozen
  | o => o

theorem openW {H : Type} {enc : TypeId × Value → H} {W : World} {r : Reach} {base : Nat} {v : Value} {d : DataW H} {p : List MemPlace} (hval : Value.okWide Tryd.prog W r base 42 v) (hw : ∀ m ∈ d.weights Tryd.prog 42, m ≤ reachBytes) (h : DataW.Trod enc Tryd.prog W 0 (fun _ => true) true 42 v d p) :
    ∃ (l : List Nat) (b : Option Addr) (c : Nat), v = .slice b l.length c ∧ (Sl W b (byts l) ∧ ∀ x ∈ l, x < 256) ∧ l.length ≤ reachBytes :=
  open_word Tryd.underlying42 Tryd.underlying5 cells_u bytes_u hval hw h

/-- A world in which the listed tables hold what their initialisers lay. -/
noncomputable def laidWorld (os : Os) : World :=
  { World.holding Tryd.prog os ⟨#[], #[], []⟩ with heap := ((((World.holding Tryd.prog os ⟨#[], #[], []⟩).heap.modify 0 (fillO #[.int .u64 1, .int .u64 10, .int .u64 100, .int .u64 1000, .int .u64 10000, .int .u64 100000, .int .u64 1000000, .int .u64 10000000, .int .u64 100000000, .int .u64 1000000000, .int .u64 10000000000, .int .u64 100000000000, .int .u64 1000000000000, .int .u64 10000000000000, .int .u64 100000000000000, .int .u64 1000000000000000, .int .u64 10000000000000000, .int .u64 100000000000000000, .int .u64 1000000000000000000, .int .u64 10000000000000000000])).modify 1 (fillO #[.int .u8 0, .int .u8 1, .int .u8 28, .int .u8 2, .int .u8 29, .int .u8 14, .int .u8 24, .int .u8 3, .int .u8 30, .int .u8 22, .int .u8 20, .int .u8 15, .int .u8 25, .int .u8 17, .int .u8 4, .int .u8 8, .int .u8 31, .int .u8 27, .int .u8 13, .int .u8 23, .int .u8 21, .int .u8 19, .int .u8 16, .int .u8 7, .int .u8 26, .int .u8 12, .int .u8 18, .int .u8 6, .int .u8 11, .int .u8 5, .int .u8 10, .int .u8 9])).modify 2 (fillO #[.int .u8 0, .int .u8 1, .int .u8 56, .int .u8 2, .int .u8 57, .int .u8 49, .int .u8 28, .int .u8 3, .int .u8 61, .int .u8 58, .int .u8 42, .int .u8 50, .int .u8 38, .int .u8 29, .int .u8 17, .int .u8 4, .int .u8 62, .int .u8 47, .int .u8 59, .int .u8 36, .int .u8 45, .int .u8 43, .int .u8 51, .int .u8 22, .int .u8 53, .int .u8 39, .int .u8 33, .int .u8 30, .int .u8 24, .int .u8 18, .int .u8 12, .int .u8 5, .int .u8 63, .int .u8 55, .int .u8 48, .int .u8 27, .int .u8 60, .int .u8 41, .int .u8 37, .int .u8 16, .int .u8 46, .int .u8 35, .int .u8 44, .int .u8 21, .int .u8 52, .int .u8 32, .int .u8 23, .int .u8 11, .int .u8 54, .int .u8 26, .int .u8 40, .int .u8 15, .int .u8 34, .int .u8 20, .int .u8 31, .int .u8 10, .int .u8 25, .int .u8 14, .int .u8 19, .int .u8 9, .int .u8 13, .int .u8 8, .int .u8 7, .int .u8 6])) }
end Go.Proofs.YthfemndklplpbaaDoor
