/- Contracts of functions of the program (CoreP): what each call answers and that it leaves memory as it was. Conditions: those each theorem names. -/
import Derived.Test.YtnamoapbienooaaTrm
set_option linter.unusedSectionVars false
set_option linter.unusedSimpArgs false
set_option linter.unusedVariables false
set_option linter.unnecessarySimpa false
namespace Go.Lx
open Go.RowKit
set_option linter.unusedVariables false
section
variable {P : Program} {r : Option Nat} {base : World} {n : Nat} {ops : Array Oper} {S S2 : List Item} {tail tail2 : List Nat} {K : Env → List Item → Prop} {ρ : Env} {O : List Item}
end
theorem Sub.k {A B : List Item} {a : Item} (h : Sub A B) : Sub (a :: A) (a :: B) := by
  obtain ⟨l, h1, h2⟩ := h; exact ⟨a :: l, h1.cons a, .cons_cons a h2⟩
theorem Sub.d {A B : List Item} {a : Item} (h : Sub A B) : Sub A (a :: B) := by
  obtain ⟨l, h1, h2⟩ := h; exact ⟨l, h1, .cons a h2⟩
theorem Sub.z {B : List Item} : Sub [] B := Sub.of (List.nil_sublist _)
theorem Sub.rf {B : List Item} : Sub B B := Sub.of (List.Sublist.refl _)
theorem Sub.swap3 (A B S : List Item) : Sub ((A ++ B) ++ S) ((A ++ S) ++ B) := by
  refine ⟨(A ++ S) ++ B, ?_, List.Sublist.refl _⟩
  rw [List.append_assoc, List.append_assoc]
  exact List.Perm.append_left A List.perm_append_comm
theorem Sub.swap4 (A B S R : List Item) : Sub ((A ++ B) ++ (S ++ R)) ((A ++ S) ++ (B ++ R)) := by
  refine ⟨(A ++ S) ++ (B ++ R), ?_, List.Sublist.refl _⟩
  have h : (B ++ (S ++ R)).Perm (S ++ (B ++ R)) := by
    rw [← List.append_assoc, ← List.append_assoc]
    exact List.perm_append_comm.append_right R
  rw [List.append_assoc, List.append_assoc]
  exact List.Perm.append_left A h
theorem sub_perm {l B : List Item} (h : l.Sublist B) : ∃ D, (l ++ D).Perm B := by
  induction h with
  | slnil => exact ⟨[], List.Perm.refl _⟩
  | cons a _ ih => obtain ⟨D, hD⟩ := ih; exact ⟨a :: D, List.perm_middle.trans (hD.cons a)⟩
  | cons_cons a _ ih => obtain ⟨D, hD⟩ := ih; exact ⟨D, hD.cons a⟩
theorem Sub.perm {A B : List Item} (h : Sub A B) : ∃ D, (A ++ D).Perm B := by
  obtain ⟨l, p, s⟩ := h
  obtain ⟨D, hD⟩ := sub_perm s
  exact ⟨D, (p.append_right D).trans hD⟩
theorem Sub.tr {A B C : List Item} (h1 : Sub A B) (h2 : Sub B C) : Sub A C := by
  obtain ⟨D, p⟩ := h1.perm
  obtain ⟨E, q⟩ := h2.perm
  exact Sub.of_perm (D := D ++ E) (by rw [← List.append_assoc]; exact (p.append_right E).trans q)
end Go.Lx

