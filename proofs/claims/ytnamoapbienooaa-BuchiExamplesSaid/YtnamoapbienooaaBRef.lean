/- Contracts of functions of the program (BRef): what each call answers and that it leaves memory as it was. Conditions: those each theorem names. -/
import Derived.Test.YtnamoapbienooaaBChk
set_option linter.unusedSectionVars false
set_option linter.unusedSimpArgs false
set_option linter.unusedVariables false
set_option linter.unnecessarySimpa false
namespace Go.Proofs.Ytnamoapbienooaa
open Go.Lx Go.RowKit
set_option linter.unusedVariables false
set_option linter.unusedSimpArgs false
end Go.Proofs.Ytnamoapbienooaa

