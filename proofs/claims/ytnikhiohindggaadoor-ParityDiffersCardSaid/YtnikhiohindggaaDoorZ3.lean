/- Contracts of functions of the program (Z3): what each call answers and that it leaves memory as it was. Conditions: those each theorem names. -/
import Derived.Test.YtnikhiohindggaaDoorYm
import Derived.Test.YtnikhiohindggaaDoorZg
import Derived.Test.YtnikhiohindggaaDoorYs
set_option linter.unusedSectionVars false
set_option linter.unusedSimpArgs false
set_option linter.unusedVariables false
set_option linter.unnecessarySimpa false
set_option maxHeartbeats 8000000
set_option maxRecDepth 20000
namespace Go.Lx
theorem LaV.ok {p : Par} {l : La} (h : LaV p.d l) : LasOk p l := ⟨h.l0, h.pw, h.lw⟩
end Go.Lx

