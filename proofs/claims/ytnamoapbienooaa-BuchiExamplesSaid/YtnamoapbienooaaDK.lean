/- Contracts of functions of the program (DK): what each call answers and that it leaves memory as it was. Conditions: those each theorem names. -/
import Derived.Test.YtnamoapbienooaaBChk
import Derived.Test.YtnamoapbienooaaCoreK
set_option linter.unusedSectionVars false
set_option linter.unusedSimpArgs false
set_option linter.unusedVariables false
set_option linter.unnecessarySimpa false
namespace Go.Lx
open Go.RowKit
set_option linter.unusedVariables false
def packI (φ : Prop) (L : List Item) : Item where
  blocks := L.flatMap Item.blocks
  P w := φ ∧ ∀ it ∈ L, it.P w
  loc w w' h := fun hp => ⟨hp.1, fun it hi => it.loc w w' (fun b hb => h b (List.mem_flatMap.2 ⟨it, hi, hb⟩)) (hp.2 it hi)⟩
section
variable {P : Program} {r : Option Nat} {base : World} {n : Nat} {c : Code} {Q : Post} {ρ : Env} {φ : Prop} {L M : List Item} {f : FuncId} {args : List Value}
end
structure DK where
  nb : Option Addr
  nc : Nat
  fb : Option Addr
  fc : Nat
  qs : List Rec
abbrev At (w : World) (d : DFA) (k : DK) : Prop := DfaAt w d k.nb (vals k.qs) k.fb
def dI (II Bo I : TypeId) (d : DFA) (k : DK) : Item := packI (nums k.qs = d.next) ([rowI k.nb k.nc II 1 (vals k.qs), rowI k.fb k.fc Bo 1 (bools d.final)] ++ itms I k.qs)
theorem Inv.at {base w : World} {O : List Item} {II Bo I : TypeId} {d : DFA} {k : DK} (hI : Inv base O w) (h : dI II Bo I d k ∈ O) : At w d k := by
  have h0 := hI.holds _ h
  have g : ∀ it ∈ [rowI k.nb k.nc II 1 (vals k.qs), rowI k.fb k.fc Bo 1 (bools d.final)] ++ itms I k.qs, it.P w := h0.2
  refine ⟨rowP.sl (g (rowI k.nb k.nc II 1 (vals k.qs)) (by simp)), ?_, rowP.sl (g (rowI k.fb k.fc Bo 1 (bools d.final)) (by simp))⟩
  rw [← h0.1]
  refine ⟨by simp, fun i x hx => ?_⟩
  rw [List.getElem?_map] at hx
  obtain ⟨q, hq, rfl⟩ := Option.map_eq_some_iff.1 hx
  refine ⟨q.b, q.c, by rw [List.getElem?_map, hq]; rfl, ?_⟩
  have : (Rec.itm I q).P w := g _ (List.mem_append_right _ (List.mem_map_of_mem (List.mem_of_getElem? hq)))
  exact rowP.sl this
end Go.Lx

