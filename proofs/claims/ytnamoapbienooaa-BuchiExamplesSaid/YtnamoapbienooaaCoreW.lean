/- Contracts of functions of the program (CoreW): what each call answers and that it leaves memory as it was. Conditions: those each theorem names. -/
import Derived.Test.YtnamoapbienooaaCoreU
import Derived.Test.YtnamoapbienooaaCoreV
import Derived.Test.YtnamoapbienooaaDK
set_option linter.unusedSectionVars false
set_option linter.unusedSimpArgs false
set_option linter.unusedVariables false
set_option linter.unnecessarySimpa false
namespace Go.Lx
open Go.RowKit
set_option linter.unusedVariables false
section
variable {P : Program} {base : World} {ρ : Env} {O : List Item} {dst : Option Nat} {t : TypeId} {p : String} {af : Array Edge} {g : Option (Nat × Bool)}
end
structure WtM where
  n : Nat
  k : DK
  k2 : DK
  b : Option Addr
  c : Nat
def WtM.z : WtM := ⟨0, ⟨none, 0, none, 0, []⟩, ⟨none, 0, none, 0, []⟩, none, 0⟩
end Go.Lx

