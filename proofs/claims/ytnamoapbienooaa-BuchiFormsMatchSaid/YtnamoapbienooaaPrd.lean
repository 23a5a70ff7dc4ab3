/- Contracts of functions of the program (Prd): what each call answers and that it leaves memory as it was. Conditions: those each theorem names. -/
import Derived.Test.YtnamoapbienooaaGod
set_option linter.unusedSectionVars false
set_option linter.unusedSimpArgs false
set_option linter.unusedVariables false
set_option linter.unnecessarySimpa false
namespace Go.Lx
open Go.RowKit
set_option linter.unusedVariables false
theorem liveR_states {b : Bu} (hv : ValidB b) {nx : List (List Int)} (hr : RowsP b.states.toNat (autR b.edges) b.edges.length nx) {v : Nat} : liveR b (List.range b.states.toNat) nx v ↔ liveB b v := by
  have hE : adjE nx = autE b := by
    funext u v
    exact propext (hr.adj (fun u y ⟨e, he, h1, _⟩ => by have := (hv.ed e he).1; omega) u v)
  have hM : refM b (List.range b.states.toNat) nx.length = autM b := by
    funext k u
    apply propext
    unfold refM autM
    rw [hr.l]
    constructor
    · rintro ⟨h1, S, h2, h3⟩; exact ⟨h1, S, h2, by simpa [h1] using h3⟩
    · rintro ⟨h1, S, h2, h3⟩; exact ⟨h1, S, h2, by simpa [h1] using h3⟩
  unfold liveR liveB
  rw [hE, hM]
theorem states_ok {b : Bu} (hv : ValidB b) {nx : List (List Int)} (hr : RowsP b.states.toNat (autR b.edges) b.edges.length nx) : okRows nx := fun r hrr x hx => by
  obtain ⟨i, hi, rfl⟩ := List.mem_iff_getElem.1 hrr
  have hl := hr.l
  obtain ⟨e, he, _, rfl⟩ := (hr.h i x (by omega)).1 (by rw [getD_at hi]; exact hx)
  have := (hv.ed e he).2
  omega
end Go.Lx

