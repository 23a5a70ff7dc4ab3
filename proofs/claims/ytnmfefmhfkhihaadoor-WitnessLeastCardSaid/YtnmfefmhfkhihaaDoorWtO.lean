/- Contracts of functions of the program (WtO): what each call answers and that it leaves memory as it was. Conditions: those each theorem names. -/
import Derived.Test.YtnmfefmhfkhihaaDoorWtE
set_option linter.unusedSectionVars false
set_option linter.unusedSimpArgs false
set_option linter.unusedVariables false
set_option linter.unnecessarySimpa false
namespace Go.Lx
set_option linter.unusedVariables false
theorem none_of9 {α : Type} {x : Option α} (h : (!x.isSome) = true) : x = none := by cases x <;> simp_all
theorem some_of9 {α : Type} {x : Option α} (h : (!x.isSome) = false) : ∃ u, x = some u := by cases x <;> simp_all
theorem acc_word {a : DFA} {o : List Nat} (h : accV a o = true) : Valid a ∧ o.length ≤ 64 ∧ Wd a o ∧ acc a o = true := by
  unfold accV at h
  split at h
  · rename_i he
    obtain ⟨h1, h2, h3⟩ := runE_zero.1 he
    exact ⟨h1, h2, h3, h⟩
  · cases h
theorem word_acc {a : DFA} {o : List Nat} (hv : Valid a) (hl : o.length ≤ 64) (hw : Wd a o) (ha : acc a o = true) : accV a o = true := by
  unfold accV
  rw [if_pos (runE_zero.2 ⟨hv, hl, hw⟩)]; exact ha
section
variable {a : DFA} {k : Nat} {u v o : List Nat}
theorem acc_wd (h : accV a o = true) : ∀ x ∈ o, x < 64 := Wd.lt64 (acc_word h).1.toVal (acc_word h).2.2.1
end
theorem least_none_acc {a : DFA} {o : List Nat} (h : LeastA a none) : accV a o = false := by
  cases hc : accV a o with
  | false => rfl
  | true =>
    obtain ⟨_, _, h2, h3⟩ := acc_word hc
    rw [h o h2] at h3; cases h3
theorem least_acc {a : DFA} {u : List Nat} (hv : Valid a) (hn : a.next.length ≤ 12) (h : LeastA a (some u)) : accV a u = true := by
  have := least_lt hv.toVal h
  exact word_acc hv (by omega) h.1 h.2.1
end Go.Lx

