/- Contracts of functions of the program (Z7): what each call answers and that it leaves memory as it was. Conditions: those each theorem names. -/
import Derived.Test.YtnikhiohindggaaDoorZa
import Derived.Test.YtnikhiohindggaaDoorZ3
set_option linter.unusedSectionVars false
set_option linter.unusedSimpArgs false
set_option linter.unusedVariables false
set_option linter.unnecessarySimpa false
set_option maxHeartbeats 8000000
set_option maxRecDepth 20000
namespace Go.Lx
open Go.RowKit
theorem numsK_snoc {qs : List Rec} {q : Rec} : nums (qs ++ [q]) = nums qs ++ [q.xs] := by simp [nums]
theorem Inv.atRows {base w : World} {O : List Item} {II I : TypeId} {p : Par} {nb fb : Option Addr} {nc fc : Nat} {qs : List Rec} (hI : Inv base O w) (h1 : rowI nb nc II 1 (vals qs) ∈ O) (h2 : rowI fb fc I 1 (ints p.prio) ∈ O) (h3 : ∀ q ∈ qs, Rec.itm I q ∈ O) (h4 : nums qs = p.next) : AtP w p ⟨nb, nc, fb, fc, qs⟩ := by
 refine ⟨hI.slOf h1, ?_, hI.slOf h2⟩
 rw [← h4]
 refine ⟨by simp, fun i x hx => ?_⟩
 rw [List.getElem?_map] at hx
 obtain ⟨q, hq, rfl⟩ := Option.map_eq_some_iff.1 hx
 exact ⟨q.b, q.c, by rw [List.getElem?_map, hq]; rfl, hI.slOf (h3 q (List.mem_of_getElem? hq))⟩
end Go.Lx

