/- Contracts of functions of the program (TrmL): what each call answers and that it leaves memory as it was. Conditions: those each theorem names. -/
import Derived.Test.YtnamoapbienooaaTrm
set_option linter.unusedSectionVars false
set_option linter.unusedSimpArgs false
set_option linter.unusedVariables false
set_option linter.unnecessarySimpa false
namespace Go.Lx
open Go.RowKit
set_option linter.unusedVariables false
theorem mem_edK {keep : List Bool} {es : List Ed} {x : Ed} : x ∈ edK keep es ↔ ∃ e ∈ es, keep.getD e.fr.toNat false = true ∧ keep.getD e.to.toNat false = true ∧ x = renE keep e := by
  unfold edK
  rw [List.mem_map]
  constructor
  · rintro ⟨s, h, rfl⟩; obtain ⟨h1, h2⟩ := List.mem_filter.1 h; rw [Bool.and_eq_true] at h2; exact ⟨s, h1, h2.1, h2.2, rfl⟩
  · rintro ⟨s, h1, h2, h3, rfl⟩; exact ⟨s, List.mem_filter.2 ⟨h1, by rw [Bool.and_eq_true]; exact ⟨h2, h3⟩⟩, rfl⟩
theorem Fair.shift {E : Nat → Nat → Prop} {m : Nat} {M : Nat → Nat → Prop} {v : Nat} {r : Nat → Nat} (h : Fair E m M v r) (i : Nat) : Fair E m M (r i) (fun j => r (i + j)) :=
  ⟨rfl, fun j => h.st (i + j), fun k hk N => by
    obtain ⟨j, h1, h2⟩ := h.inf k hk (i + N)
    exact ⟨j - i, by omega, by show M k (r (i + (j - i))); rw [show i + (j - i) = j by omega]; exact h2⟩⟩
theorem Run.fair {b : Bu} (hv : ValidB b) {w : Nat → Nat} {s : Nat} {r : Nat → Nat} (h : Run b w s r) : Fair (autE b) b.sets.length (autM b) s r :=
  ⟨h.s, fun i => by obtain ⟨e, he, h1, h2, _⟩ := h.st i; exact ⟨e, he, h1, h2⟩, fun k hk N => by
    obtain ⟨i, h1, h2⟩ := h.inf b.sets[k] (List.getElem_mem hk) N
    refine ⟨i, h1, ?_, b.sets[k], List.getElem?_eq_getElem hk, h2⟩
    have := hv.se _ (List.getElem_mem hk) _ h2
    omega⟩
theorem trimB_eq {b : Bu} (hv : ValidB b) : trimB b = trimWith b (keepB b) := by unfold trimB; rw [if_pos (checkB_zero.2 hv)]
end Go.Lx

