/- Contracts of functions of the program (TrmL): what each call answers and that it leaves memory as it was. Conditions: those each theorem names. -/
import Derived.Test.YtnamoapbienooaaBTrm
set_option linter.unusedSectionVars false
set_option linter.unusedSimpArgs false
set_option linter.unusedVariables false
set_option linter.unnecessarySimpa false
namespace Go.Lx
open Go.RowKit
set_option linter.unusedVariables false
theorem Fair.shift {E : Nat → Nat → Prop} {m : Nat} {M : Nat → Nat → Prop} {v : Nat} {r : Nat → Nat} (h : Fair E m M v r) (i : Nat) : Fair E m M (r i) (fun j => r (i + j)) :=
  ⟨rfl, fun j => h.st (i + j), fun k hk N => by
    obtain ⟨j, h1, h2⟩ := h.inf k hk (i + N)
    exact ⟨j - i, by omega, by show M k (r (i + (j - i))); rw [show i + (j - i) = j by omega]; exact h2⟩⟩
theorem Run.fair {b : Bu} (hv : ValidB b) {w : Nat → Nat} {s : Nat} {r : Nat → Nat} (h : Run b w s r) : Fair (autE b) b.sets.length (autM b) s r :=
  ⟨h.s, fun i => by obtain ⟨e, he, h1, h2, _⟩ := h.st i; exact ⟨e, he, h1, h2⟩, fun k hk N => by
    obtain ⟨i, h1, h2⟩ := h.inf b.sets[k] (List.getElem_mem hk) N
    refine ⟨i, h1, ?_, b.sets[k], List.getElem?_eq_getElem hk, h2⟩
    have := hv.se _ (List.getElem_mem hk) _ h2
    omega⟩
end Go.Lx

