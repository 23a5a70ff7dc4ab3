/- Contracts of functions of the program (CoreU): what each call answers and that it leaves memory as it was. Conditions: those each theorem names. -/
import Derived.Test.YtnamoapbienooaaCoreS
set_option linter.unusedSectionVars false
set_option linter.unusedSimpArgs false
set_option linter.unusedVariables false
set_option linter.unnecessarySimpa false
namespace Go.Lx
open Go.RowKit
set_option linter.unusedVariables false
section
variable {P : Program} {base : World} {ρ : Env} {O : List Item} {dst : Option Nat} {t : TypeId} {p : String} {af : Array Edge} {g : Option (Nat × Bool)}
theorem q_load_part (i : Nat) {x : Operand} {T E : TypeId} {d : TypeDesc} {b o : Nat} {cs vs : List Value} {fr : Nat × Nat} {z : Value} {s by_ : Nat} (hu : P.underlying T = some d) (ha : aggB d = true) (hi : Inf P T z s by_) (hx : ev ρ x = .pointer (some ⟨b, o, none⟩)) (hl : vs.length = s)
    (hO : O[i]? = some (objI b (.cells cs.toArray E fr))) (hv : (cs.drop o).take s = vs) : QT P base ⟨dst, .load T x, t, p, af, g⟩ ρ O (.agg vs.toArray) :=
  q_load_agg hu ha hi hx hl fun w hI j hj => by
    have := hI.objAt hO
    unfold World.cell?
    have e : cs[o + j]? = some vs[j] := by
      have h1 : vs[j]? = some vs[j] := List.getElem?_eq_getElem hj
      rw [← h1, ← hv, List.getElem?_take, if_pos (by omega), List.getElem?_drop]
    simp [this, e]
end
def Rnd (P : Program) (r : Option Nat) (base : World) (n : Nat) (c : Code) (Q : Post) : Nat → Env → List Item → Prop
  | 0, _, _ => False
  | m + 1, ρ, O => T P r base n c (thn (Rnd P r base n c Q m) Q) ρ O
theorem T.round {P : Program} {r : Option Nat} {base : World} {n m : Nat} {c : Code} {Q : Post} {ρ : Env} {O : List Item} (h : T P r base n c (thn (Rnd P r base n c Q m) Q) ρ O) : Rnd P r base n c Q (m + 1) ρ O := h
end Go.Lx

