/- The automata, in plain terms: what Check answers. -/
import Derived.Test.YthfemndklplpbaaDoorCoreF
set_option linter.unusedSectionVars false
set_option linter.unusedSimpArgs false
set_option linter.unusedVariables false
set_option linter.unnecessarySimpa false
namespace Go.Lx

/-- A state's row, of an automaton of n states. -/
def rowOk (n : Nat) (r : List Int) : Bool := r.all fun x => decide (0 ≤ x) && decide (x < (n : Int))

def rowsE (L n : Nat) : List (List Int) → Nat
  | [] => 0
  | r :: rs => if r.length ≠ L then 2 else if rowOk n r = true then rowsE L n rs else 8

/-- The error number of Check. -/
def checkD (d : DFA) : Nat :=
  if ¬ (0 ≤ d.vars ∧ d.vars ≤ 6) then 7
  else if d.next.length = 0 then 3
  else if 4096 < d.next.length then 4
  else if d.final.length ≠ d.next.length then 2
  else if d.start < 0 ∨ (d.next.length : Int) ≤ d.start then 8
  else rowsE (2 ^ d.vars.toNat) d.next.length d.next

theorem rowsE_at {L n : Nat} {rs : List (List Int)} {k : Nat} (hk : k < rs.length) : rowsE L n (rs.drop k) = if rs[k].length ≠ L then 2 else if rowOk n rs[k] = true then rowsE L n (rs.drop (k + 1)) else 8 := by
  rw [List.drop_eq_getElem_cons hk]; rfl

theorem rowsE_end {L n : Nat} {rs : List (List Int)} {k : Nat} (hk : rs.length ≤ k) : rowsE L n (rs.drop k) = 0 := by
  rw [List.drop_eq_nil_of_le hk]; rfl

theorem rowOk_step {n : Nat} {r : List Int} {j : Nat} (hj : j < r.length) (h : rowOk n (r.take j) = true) (h0 : ¬ r[j] < 0) (h1 : ¬ (n : Int) ≤ r[j]) : rowOk n (r.take (j + 1)) = true := by
  rw [List.take_succ_eq_append_getElem hj]
  simp only [rowOk, List.all_append, Bool.and_eq_true] at h ⊢
  refine ⟨h, ?_⟩
  simp; omega

theorem rowOk_bad {n : Nat} {r : List Int} {j : Nat} (hj : j < r.length) (h : r[j] < 0 ∨ (n : Int) ≤ r[j]) : ¬ rowOk n r = true := by
  intro hh
  simp only [rowOk, List.all_eq_true, Bool.and_eq_true, decide_eq_true_eq] at hh
  have := hh _ (List.getElem_mem hj)
  omega

theorem rowOk_full {n : Nat} {r : List Int} {j : Nat} (hj : r.length ≤ j) (h : rowOk n (r.take j) = true) : rowOk n r = true := by
  rwa [List.take_of_length_le hj] at h

/-- What a valid automaton is. -/
structure Valid (d : DFA) : Prop where
  v0 : 0 ≤ d.vars
  v6 : d.vars ≤ 6
  n0 : 0 < d.next.length
  n4 : d.next.length ≤ 4096
  fin : d.final.length = d.next.length
  s0 : 0 ≤ d.start
  s1 : d.start < (d.next.length : Int)
  len : ∀ r ∈ d.next, r.length = 2 ^ d.vars.toNat
  ok : ∀ r ∈ d.next, ∀ x ∈ r, 0 ≤ x ∧ x < (d.next.length : Int)

theorem rowsE_zero {L n : Nat} : ∀ {rs : List (List Int)}, rowsE L n rs = 0 ↔ (∀ r ∈ rs, r.length = L) ∧ ∀ r ∈ rs, ∀ x ∈ r, 0 ≤ x ∧ x < (n : Int)
  | [] => by simp [rowsE]
  | r :: rs => by
    have ih := rowsE_zero (L := L) (n := n) (rs := rs)
    simp only [rowsE]
    by_cases h : r.length = L
    · by_cases h2 : rowOk n r = true
      · simp only [h, ne_eq, not_true_eq_false, if_false, h2, if_true, ih, List.mem_cons, forall_eq_or_imp, true_and]
        have h3 : ∀ x ∈ r, 0 ≤ x ∧ x < (n : Int) := by simpa [rowOk] using h2
        exact ⟨fun q => ⟨q.1, h3, q.2⟩, fun q => ⟨q.1, q.2.2⟩⟩
      · simp only [h, ne_eq, not_true_eq_false, if_false, h2]
        refine ⟨fun q => by simp at q, fun q => (h2 ?_).elim⟩
        have := q.2 r (by simp)
        simpa [rowOk] using this
    · simp only [ne_eq, h, not_false_eq_true, if_true]
      exact ⟨fun q => by simp at q, fun q => (h (q.1 r (by simp))).elim⟩

theorem checkD_zero {d : DFA} : checkD d = 0 ↔ Valid d := by
  unfold checkD
  constructor
  · intro h
    split at h; · cases h
    split at h; · cases h
    split at h; · cases h
    split at h; · cases h
    split at h; · cases h
    rename_i h1 h2 h3 h4 h5
    obtain ⟨h6, h7⟩ := rowsE_zero.1 h
    simp only [Classical.not_not] at h1 h4
    exact ⟨h1.1, h1.2, by omega, by omega, h4, by omega, by omega, h6, h7⟩
  · intro h
    rw [if_neg (by have := h.v0; have := h.v6; simp; omega), if_neg (by have := h.n0; omega), if_neg (by have := h.n4; omega), if_neg (by simp [h.fin]), if_neg (by have := h.s0; have := h.s1; omega)]
    exact rowsE_zero.2 ⟨h.len, h.ok⟩

theorem Valid.width {d : DFA} (h : Valid d) : 2 ^ d.vars.toNat ≤ 64 :=
  Nat.le_trans (Nat.pow_le_pow_right (by omega) (show d.vars.toNat ≤ 6 by have := h.v0; have := h.v6; omega)) (by decide)

theorem Valid.bound {d : DFA} (h : Valid d) : ∀ r ∈ d.next, r.length < 9223372036854775807 := fun r hr => by
  have := h.len r hr; have := h.width; omega

end Go.Lx
