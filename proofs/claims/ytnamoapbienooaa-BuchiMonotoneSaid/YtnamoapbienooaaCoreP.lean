/- Contracts of functions of the program (CoreP): what each call answers and that it leaves memory as it was. Conditions: those each theorem names. -/
import Derived.Test.YtnamoapbienooaaBTrc
set_option linter.unusedSectionVars false
set_option linter.unusedSimpArgs false
set_option linter.unusedVariables false
set_option linter.unnecessarySimpa false
namespace Go.Lx
open Go.RowKit
set_option linter.unusedVariables false
section
variable {P : Program} {r : Option Nat} {base : World} {n : Nat} {ops : Array Oper} {S S2 : List Item} {tail tail2 : List Nat} {K : Env → List Item → Prop} {ρ : Env} {O : List Item}
theorem RO.passedL {fuel : Nat} {listed : Array Bool} (i : Nat) {o : Oper} {d j0 tj : Nat} {want : Bool} (hi : ops[i]? = some o) (hg : o.guard = some (j0, want)) (hd : o.dst = some d) (hj0 : (ops[j0]?).bind (·.dst) = some tj) (hw : (yOf (ρ tj) == some want) = false) (hn : Nat.blt d n = true) (hr : Region.ready .any ops listed = [i])
    (h : RO P r base n ops S tail S2 tail2 fuel (listed.setIfInBounds i true) K (upd ρ d undef) O) : RO P r base n ops S tail S2 tail2 (fuel + 1) listed K ρ O := by
  intro Q a w M D hq hp ha hI hcl hS
  refine ⟨fun h0 => (by rw [hr] at h0; cases h0), fun j hj => ?_⟩
  rw [hr] at hj
  obtain rfl : j = i := by simpa using hj
  have hj' : j ∈ Region.ready .any ops listed := by rw [hr]; simp
  have hy := yielded_eq (ops := ops) ha hj0
  have hwant : Region.wanted o (yielded ops a.tmps) = false := by unfold Region.wanted; rw [hg]; simp only [hy]; exact hw
  unfold wpOpIn
  simp only [hi]
  rw [if_neg (by rw [hwant]; decide)]
  have hcl' : classT base S tail S2 tail2 (listed.setIfInBounds j true) w := ⟨hS.emp, hS.one.imp up_any id, hS.two.imp up_any id⟩
  refine ⟨fun _ _ => trivial, hcl', ?_⟩
  rw [hd]
  exact h Q _ w M D hq hp (ha.put hn undef) hI (closed_step hcl hj') hcl'
theorem DO.passedL {l : List (Nat × Nat)} {i mo : Nat} {o : Oper} {d j0 tj : Nat} {want : Bool} (hmo : mo = 1 ∨ mo = 2) (hi : ops[i]? = some o) (hg : o.guard = some (j0, want)) (hd : o.dst = some d) (hj0 : (ops[j0]?).bind (·.dst) = some tj) (hw : (yOf (ρ tj) == some want) = false)
    (h : DO P r base n ops S tail S2 tail2 l K (upd ρ d undef) O) (hn : Nat.blt d n = true := by rfl) : DO P r base n ops S tail S2 tail2 ((i, mo) :: l) K ρ O := fun hs hnd hl listed hb => by
  have hb' : (Region.ready .any ops listed == [i]) = true ∧ walkB ops tail tail2 l (listed.setIfInBounds i true) = true := by
    rcases hmo with rfl | rfl <;> simpa only [walkB, Bool.and_eq_true] using hb
  exact RO.passedL i hi hg hd hj0 hw hn (by simpa using hb'.1) (h hs hnd (fun q hq => hl q (List.mem_cons_of_mem _ hq)) _ hb'.2)
end
theorem Sub.k {A B : List Item} {a : Item} (h : Sub A B) : Sub (a :: A) (a :: B) := by
  obtain ⟨l, h1, h2⟩ := h; exact ⟨a :: l, h1.cons a, .cons_cons a h2⟩
theorem Sub.d {A B : List Item} {a : Item} (h : Sub A B) : Sub A (a :: B) := by
  obtain ⟨l, h1, h2⟩ := h; exact ⟨l, h1, .cons a h2⟩
theorem Sub.z {B : List Item} : Sub [] B := Sub.of (List.nil_sublist _)
theorem Sub.rf {B : List Item} : Sub B B := Sub.of (List.Sublist.refl _)
end Go.Lx
