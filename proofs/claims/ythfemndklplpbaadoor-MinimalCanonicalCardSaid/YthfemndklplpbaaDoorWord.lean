/- Running an automaton on a word: what Run and Accepts answer, in plain terms. -/
import Derived.Test.YthfemndklplpbaaDoorRnd
set_option linter.unusedSectionVars false
set_option linter.unusedSimpArgs false
set_option linter.unusedVariables false
set_option linter.unnecessarySimpa false
namespace Go.Lx
set_option linter.unusedVariables false

/-- The error of Run. -/
def runE (d : DFA) (w : List Nat) : Nat := if checkD d ≠ 0 then checkD d else if 64 < w.length then 4 else if w.any (fun x => decide (2 ^ d.vars.toNat ≤ x)) = true then 1 else 0
def runV (d : DFA) (w : List Nat) : Nat := if runE d w = 0 then runN d d.start.toNat w else 0
def accV (d : DFA) (w : List Nat) : Bool := if runE d w = 0 then finN d (runN d d.start.toNat w) else false

theorem runE_zero {d : DFA} {w : List Nat} : runE d w = 0 ↔ Valid d ∧ w.length ≤ 64 ∧ Wd d w := by
  unfold runE
  by_cases h : checkD d = 0
  · rw [if_neg (by simp [h])]
    by_cases h2 : 64 < w.length
    · rw [if_pos h2]; exact ⟨fun h => absurd h (by decide), fun h => by omega⟩
    · rw [if_neg h2]
      by_cases h3 : w.any (fun x => decide (2 ^ d.vars.toNat ≤ x)) = true
      · rw [if_pos h3]
        refine ⟨fun h => absurd h (by decide), fun h => ?_⟩
        obtain ⟨x, hx, hx2⟩ := List.any_eq_true.1 h3
        have := h.2.2 x hx
        simp at hx2
        unfold letN at this
        omega
      · rw [if_neg h3]
        refine ⟨fun _ => ⟨checkD_zero.1 h, by omega, fun x hx => ?_⟩, fun _ => rfl⟩
        rcases Nat.lt_or_ge x (letN d) with h4 | h4
        · exact h4
        · exact absurd (List.any_eq_true.2 ⟨x, hx, decide_eq_true h4⟩) h3
  · rw [if_pos h]; exact ⟨fun e => absurd e h, fun hh => absurd (checkD_zero.2 hh.1) h⟩

theorem runN_take {d : DFA} {s : Nat} {w : List Nat} {k : Nat} (hk : k < w.length) : runN d s (w.take (k + 1)) = toN d (runN d s (w.take k)) w[k] := by
  rw [List.take_succ_eq_append_getElem hk, runN_snoc]

end Go.Lx
