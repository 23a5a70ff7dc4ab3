/- Contracts of functions of the program (CoreO): what each call answers and that it leaves memory as it was. Conditions: those each theorem names. -/
import Derived.Test.YtnamoapbienooaaBKit
set_option linter.unusedSectionVars false
set_option linter.unusedSimpArgs false
set_option linter.unusedVariables false
set_option linter.unnecessarySimpa false
namespace Go.Lx
open Go.RowKit
section
variable {P : Program} {base : World} {ρ : Env} {O : List Item} {dst : Option Nat} {t : TypeId} {p : String} {af : Array Edge} {g : Option (Nat × Bool)}
theorem q_andNot8 {x y : Operand} {T U : TypeId} {a b : Nat} (hx : ev ρ x = .int .u8 (a : Int)) (hy : ev ρ y = .int .u8 (b : Int)) (ha : a < 256) (hb : b < 256) : QT P base ⟨dst, .binOp .andNot T x y U, t, p, af, g⟩ ρ O (.int .u8 ((a &&& (255 - b) : Nat) : Int)) := fun w _ => by
  have h1 : (a &&& (255 - b)) < 2 ^ IntKind.u8.bits := Nat.lt_of_le_of_lt (Nat.and_le_left (n := a) (m := 255 - b)) ha
  have h2 := UK.u8.wrap h1
  have ha' : a < 2 ^ IntKind.u8.bits := ha
  have hb' : b < 2 ^ IntKind.u8.bits := hb
  have h3 : (BitVec.ofInt IntKind.u8.bits (a : Int) &&& ~~~BitVec.ofInt IntKind.u8.bits (b : Int)).toNat = a &&& (255 - b) := by
    rw [BitVec.toNat_and, BitVec.toNat_not, ofInt_nat ha', ofInt_nat hb']; rfl
  simp only [execOp, hx, hy, eqGuard, binOp, Op.intBits, h3, h2]
  simp
end
theorem disj_andNot {a b L : Nat} (hb : b < 256) : (b &&& L) &&& ((a &&& L) &&& (255 - b)) = 0 := by
  apply Nat.eq_of_testBit_eq
  intro i
  have h : (255 - b).testBit i = (decide (i < 8) && !b.testBit i) := by
    have := Nat.testBit_two_pow_sub_succ (x := b) (n := 8) hb i
    rw [← this]; congr 1; omega
  simp only [Nat.testBit_and, h, Nat.zero_testBit]
  cases b.testBit i <;> simp
end Go.Lx
