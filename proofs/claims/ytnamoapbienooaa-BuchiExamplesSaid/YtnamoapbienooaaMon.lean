/- Contracts of functions of the program (Mon): what each call answers and that it leaves memory as it was. Conditions: those each theorem names. -/
import Derived.Test.YtnamoapbienooaaTrmL
set_option linter.unusedSectionVars false
set_option linter.unusedSimpArgs false
set_option linter.unusedVariables false
set_option linter.unnecessarySimpa false
namespace Go.Lx
open Go.RowKit
set_option linter.unusedVariables false
theorem Acc.more {b c : Bu} {w : Nat → Nat} (hs : ∀ s ∈ b.start, s ∈ c.start) (he : ∀ e ∈ b.edges, e ∈ c.edges) (ht : ∀ S ∈ c.sets, S ∈ b.sets) (h : Acc b w) : Acc c w := by
  obtain ⟨s, h1, r, h2⟩ := h
  refine ⟨s, hs _ h1, r, h2.s, fun i => ?_, fun S hS N => h2.inf S (ht S hS) N⟩
  obtain ⟨e, h3, h4⟩ := h2.st i
  exact ⟨e, he e h3, h4⟩
def pickI (P : Nat → Bool) (k : Nat) : List Int := ((List.range k).filter P).map fun s : Nat => (s : Int)
theorem pickI_yes {P : Nat → Bool} {k : Nat} (h : P k = true) : pickI P (k + 1) = pickI P k ++ [(k : Int)] := by
  unfold pickI; rw [List.range_succ, List.filter_append, List.map_append]; simp [h]
theorem pickI_no {P : Nat → Bool} {k : Nat} (h : ¬ P k = true) : pickI P (k + 1) = pickI P k := by
  unfold pickI; rw [List.range_succ, List.filter_append, List.map_append]; simp [h]
theorem pickI_len (P : Nat → Bool) (k : Nat) : (pickI P k).length ≤ k := by
  unfold pickI
  rw [List.length_map]
  exact Nat.le_trans (List.length_filter_le _ _) (by simp)
theorem ValidB.edge {b : Bu} (h : ValidB b) {x : Ed} (h1 : (0 ≤ x.fr ∧ x.fr < b.states) ∧ (0 ≤ x.to ∧ x.to < b.states)) (h2 : x.pos < 2 ^ b.vars.toNat ∧ x.neg < 2 ^ b.vars.toNat ∧ x.pos &&& x.neg = 0) : ValidB { b with edges := b.edges ++ [x] } :=
  { v0 := h.v0, v6 := h.v6, n0 := h.n0, n4 := h.n4, m8 := h.m8, se := h.se, sse := h.sse, sst := h.sst, st := h.st
    ed := fun e he => by
      rcases List.mem_append.1 he with he | he
      · exact h.ed e he
      · rw [List.mem_singleton] at he; subst he; exact h1
    cu := fun e he => by
      rcases List.mem_append.1 he with he | he
      · exact h.cu e he
      · rw [List.mem_singleton] at he; subst he; exact h2 }
end Go.Lx

