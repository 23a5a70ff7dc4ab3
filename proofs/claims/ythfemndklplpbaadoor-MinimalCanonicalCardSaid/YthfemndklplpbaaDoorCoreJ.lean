/- More rules of the logic. -/
import Derived.Test.YthfemndklplpbaaDoorCoreI
set_option linter.unusedSectionVars false
set_option linter.unusedSimpArgs false
set_option linter.unusedVariables false
set_option linter.unnecessarySimpa false
namespace Go.Lx
open Go.RowKit
section
variable {P : Program} {r : Option Nat} {base : World} {n : Nat} {ρ : Env} {O : List Item} {Q : Post}

theorem T.cut1 {x : Code} (K : Env → List Item → Prop) (h : T P r base n x (thn K Q) ρ O) (hk : ∀ ρ O, K ρ O → Q .normal ρ O) : T P r base n x Q ρ O :=
  h.mono fun e ρ O h => by cases e <;> first | exact hk ρ O h | exact h

variable {t : TypeId} {p : String} {af : Array Edge} {g : Option (Nat × Bool)} {dst : Option Nat}
/-- is a slice nil -/
theorem q_eqlNil {x y : Operand} {T E U : TypeId} {b : Option Addr} {n c : Nat} (hu : P.underlying T = some (.slice E)) (hx : ev ρ x = .slice b n c) (hy : ev ρ y = .slice none 0 0) : QT P base ⟨dst, .binOp .eql T x y U, t, p, af, g⟩ ρ O (.bool b.isNone) := fun w _ => by
  have h : (Op.equal T (.slice b n c) (.slice none 0 0)).run P w = .ok b.isNone w := by
    show (Op.equalIn (9999 + 1) T _ _).run P w = _
    rw [Op.equalIn]
    cases b <;> simp [run_underlying' hu]
  simp [execOp, hx, hy, eqGuard, binOp, h]
theorem wrap8 {x : Nat} (h : x < 256) : IntKind.u8.wrap (x : Int) = (x : Int) := by
  simp only [IntKind.wrap, IntKind.signed, IntKind.bits]
  simp
  omega
end
end Go.Lx
