/- Contracts of functions of the program (PB): what each call answers and that it leaves memory as it was. Conditions: those each theorem names. -/
import Derived.Test.YtnamoapbienooaaInt
import Derived.Test.YtnamoapbienooaaTr2
import Derived.Test.YtnamoapbienooaaCoreP
set_option linter.unusedSectionVars false
set_option linter.unusedSimpArgs false
set_option linter.unusedVariables false
set_option linter.unnecessarySimpa false
namespace Go.Lx
open Go.RowKit
set_option linter.unusedVariables false
theorem Sub.mid (P A Q S R' R : List Item) (h : Sub (S ++ R') R) : Sub ((A ++ S) ++ ((P ++ Q) ++ R')) ((P ++ (A ++ Q)) ++ R) := by
  refine Sub.tr (Sub.seg A (P ++ Q) S R' R h) (Sub.of_perm (D := []) ?_)
  rw [List.append_nil]
  refine List.Perm.append_right R ?_
  rw [← List.append_assoc, ← List.append_assoc]
  exact List.perm_append_comm.append_right Q
end Go.Lx

