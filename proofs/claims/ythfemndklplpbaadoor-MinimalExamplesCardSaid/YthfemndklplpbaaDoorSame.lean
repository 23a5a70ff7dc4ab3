/- The automaton with a single class, of the chapter's examples. -/
import Derived.Test.YthfemndklplpbaaDoorDR
set_option linter.unusedSectionVars false
set_option linter.unusedSimpArgs false
set_option linter.unusedVariables false
set_option linter.unnecessarySimpa false
namespace Go.Lx
def sameD : DFA := ⟨0, 2, [[1], [0], [2]], [true, true, true]⟩
def sameM : DFA := ⟨0, 0, [[0]], [true]⟩
theorem same_valid : Valid sameD := checkD_zero.1 (by decide)
theorem same_it : itF sameD 3 = [0, 0, 0] := by rw [← labN_itF same_valid]; decide
theorem same_min : minD sameD = sameM := by
  have h : itF sameD sameD.next.length = [0, 0, 0] := same_it
  unfold minD
  rw [h]
  decide
theorem two_it3 : itF twoD 3 = [0, 1, 2] := by rw [← labN_itF two_valid]; decide
theorem two_far : itF twoD (9223372036854775807 : Int).toNat = [0, 1, 2] := by
  rw [itF_stab two_valid _ (show twoD.next.length ≤ _ by decide)]; exact two_it3
theorem two_low : itF twoD (-9223372036854775808 : Int).toNat = [0, 0, 1] := by
  rw [show (-9223372036854775808 : Int).toNat = 0 by decide]; exact two_it0
end Go.Lx
