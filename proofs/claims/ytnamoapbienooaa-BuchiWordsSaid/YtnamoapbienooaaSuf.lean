/- Contracts of functions of the program (Suf): what each call answers and that it leaves memory as it was. Conditions: those each theorem names. -/
import Derived.Test.YtnamoapbienooaaMon
import Derived.Test.YtnamoapbienooaaKmp
set_option linter.unusedSectionVars false
set_option linter.unusedSimpArgs false
set_option linter.unusedVariables false
set_option linter.unnecessarySimpa false
namespace Go.Lx
open Go.RowKit
set_option linter.unusedVariables false
def sufL (l : La) (i : Nat) : La := if l.pre.length ≤ l.ix i then ⟨[], l.loop.drop (l.ix i - l.pre.length) ++ l.loop.take (l.ix i - l.pre.length)⟩ else ⟨l.pre.drop (l.ix i), l.loop⟩
theorem La.ix_add {l : La} (i : Nat) : ∀ j, l.ix (l.ix i + j) = l.ix (i + j)
  | 0 => by
    show l.ix (l.ix i) = l.ix i
    unfold La.ix
    by_cases h : i < l.pre.length
    · simp [h]
    · simp only [h, if_false]
      rw [if_neg (by omega), Nat.add_sub_cancel_left, Nat.mod_mod]
  | j + 1 => by
    rw [← Nat.add_assoc, ← La.ix_succ, La.ix_add i j, La.ix_succ, Nat.add_assoc]
theorem La.at_add {l : La} (i j : Nat) : l.at (l.ix i + j) = l.at (i + j) := by rw [← La.at_ix (l := l) (l.ix i + j), La.ix_add, La.at_ix]
theorem La.ix_lt2 {l : La} (h : 0 < l.loop.length) (i : Nat) : l.ix i < l.pre.length + l.loop.length := La.ix_lt h i
theorem sufL_at {l : La} (h : 0 < l.loop.length) (i j : Nat) : (sufL l i).at j = l.at (i + j) := by
  rw [← La.at_add]
  have hlt := La.ix_lt2 h i
  unfold sufL
  generalize l.ix i = k at hlt
  split
  · rename_i hk
    obtain ⟨m, rfl⟩ := Nat.exists_eq_add_of_le hk
    rw [Nat.add_sub_cancel_left]
    have hl : (l.loop.drop m ++ l.loop.take m).length = l.loop.length := by rw [List.length_append, List.length_drop, List.length_take]; omega
    unfold La.at
    simp only [List.length_nil, Nat.not_lt_zero, if_false, Nat.sub_zero, hl]
    rw [if_neg (by omega), show max l.loop.length 1 = l.loop.length by omega, rot_get (by omega) _ (Nat.mod_lt _ (by omega)), Nat.add_mod_mod]
    congr 2; omega
  · rename_i hk
    unfold La.at
    simp only [List.length_drop]
    by_cases hj : j < l.pre.length - k
    · rw [if_pos hj, if_pos (by omega), List.getD_eq_getElem?_getD, List.getD_eq_getElem?_getD, List.getElem?_drop]
    · rw [if_neg hj, if_neg (by omega)]
      congr 2; omega
theorem sufL_len {l : La} (h : 0 < l.loop.length) (i : Nat) : (sufL l i).pre.length ≤ l.pre.length ∧ (sufL l i).loop.length = l.loop.length := by
  have hlt := La.ix_lt2 h i
  unfold sufL
  split
  · simp; omega
  · simp
theorem sufL_mem {l : La} (i x : Nat) : (x ∈ (sufL l i).pre → x ∈ l.pre) ∧ (x ∈ (sufL l i).loop → x ∈ l.loop) := by
  unfold sufL
  by_cases hk : l.pre.length ≤ l.ix i
  · rw [if_pos hk]
    refine ⟨fun h => (by cases h), fun h => ?_⟩
    rcases List.mem_append.1 h with h | h
    · exact List.mem_of_mem_drop h
    · exact List.mem_of_mem_take h
  · rw [if_neg hk]
    exact ⟨fun h => List.mem_of_mem_drop h, id⟩
theorem CanonOf.check {v : Int} {l m c : La} (hl : checkLV v l = 0) (hc : CanonOf m c) (h1 : m.pre.length ≤ l.pre.length) (h2 : m.loop.length ≤ l.loop.length) (h3 : ∀ x ∈ m.pre, x ∈ l.pre ∨ x ∈ l.loop) (h4 : ∀ x ∈ m.loop, x ∈ l.pre ∨ x ∈ l.loop) : checkLV v c = 0 := by
  obtain ⟨a0, a1, a2, _⟩ := checkL_loop hl
  have := hc.pre; have := hc.loop
  exact checkLV_sub hl hc.can.1 (by omega) (by omega) (fun x hx => h3 x (hc.mp x hx)) (fun x hx => h4 x (hc.ml x hx))
end Go.Lx
