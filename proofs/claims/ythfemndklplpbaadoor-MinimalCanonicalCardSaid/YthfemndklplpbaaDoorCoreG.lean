/- The items put in another order, some of them forgotten. -/
import Derived.Test.YthfemndklplpbaaDoorCoreF
set_option linter.unusedSectionVars false
set_option linter.unusedSimpArgs false
set_option linter.unusedVariables false
set_option linter.unnecessarySimpa false
namespace Go.Lx
open Go.RowKit

/-- How often an item stands in a list. -/
noncomputable def one (a b : Item) : Nat := open Classical in if b = a then 1 else 0

noncomputable def cnt (a : Item) : List Item → Nat
  | [] => 0
  | b :: l => one a b + cnt a l

theorem cnt_nil (a : Item) : cnt a [] = 0 := rfl
theorem cnt_cons (a b : Item) (l : List Item) : cnt a (b :: l) = one a b + cnt a l := rfl
theorem cnt_append (a : Item) (l m : List Item) : cnt a (l ++ m) = cnt a l + cnt a m := by
  induction l with
  | nil => simp [cnt]
  | cons b l ih => rw [List.cons_append, cnt_cons, ih, cnt_cons]; omega

theorem cnt_pos {a : Item} {l : List Item} (h : 0 < cnt a l) : ∃ l1 l2, l = l1 ++ a :: l2 := by
  induction l with
  | nil => simp [cnt] at h
  | cons b l ih =>
    by_cases e : b = a
    · subst e; exact ⟨[], l, rfl⟩
    · obtain ⟨l1, l2, rfl⟩ := ih (by simpa [cnt, one, e] using h)
      exact ⟨b :: l1, l2, rfl⟩

theorem perm_of_cnt : ∀ {l m : List Item}, (∀ a, cnt a l = cnt a m) → l.Perm m
  | [], m, h => by
    cases m with
    | nil => exact List.Perm.refl _
    | cons b m => have := h b; simp [cnt, one] at this; omega
  | b :: l, m, h => by
    obtain ⟨m1, m2, rfl⟩ := cnt_pos (a := b) (l := m) (by rw [← h b]; simp [cnt, one]; omega)
    have h' : ∀ a, cnt a l = cnt a (m1 ++ m2) := fun a => by
      have := h a
      rw [cnt_cons, cnt_append, cnt_cons] at this
      rw [cnt_append]; omega
    exact (List.Perm.cons b (perm_of_cnt h')).trans List.perm_middle.symm

/-- What is kept and what is dropped make up the whole. -/
theorem Sub.cnt {O' O : List Item} (D : List Item) (h : ∀ a, Lx.cnt a (O' ++ D) = Lx.cnt a O) : Sub O' O := by
  have hp := perm_of_cnt h
  obtain ⟨l, h1, h2⟩ := List.exists_perm_sublist (List.sublist_append_left O' D) hp
  exact ⟨l, h1.symm, h2⟩

/-- The item at place i; the others. -/
def getI : List Item → Nat → List Item
  | [], _ => []
  | a :: _, 0 => [a]
  | _ :: l, i + 1 => getI l i

def dropI : List Item → Nat → List Item
  | [], _ => []
  | _ :: l, 0 => l
  | a :: l, i + 1 => a :: dropI l i

/-- Items taken out one after the other, each by its place among those that are left. -/
def pickL : List Nat → List Item → List Item
  | [], _ => []
  | i :: is, L => getI L i ++ pickL is (dropI L i)

def restL : List Nat → List Item → List Item
  | [], L => L
  | i :: is, L => restL is (dropI L i)

theorem getI_drop : ∀ (L : List Item) (i : Nat), (getI L i ++ dropI L i).Perm L
  | [], i => List.Perm.refl _
  | a :: l, 0 => List.Perm.refl _
  | a :: l, i + 1 => by
    have ih := getI_drop l i
    show (getI l i ++ a :: dropI l i).Perm (a :: l)
    exact List.perm_middle.trans (List.Perm.cons a ih)

theorem pick_perm : ∀ (is : List Nat) (L : List Item), (pickL is L ++ restL is L).Perm L
  | [], L => List.Perm.refl _
  | i :: is, L => by
    show ((getI L i ++ pickL is (dropI L i)) ++ restL is (dropI L i)).Perm L
    rw [List.append_assoc]
    exact ((pick_perm is (dropI L i)).append_left _).trans (getI_drop L i)

theorem Sub.of_perm {O' D O : List Item} (h : (O' ++ D).Perm O) : Sub O' O := by
  obtain ⟨l, h1, h2⟩ := List.exists_perm_sublist (List.sublist_append_left O' D) h
  exact ⟨l, h1.symm, h2⟩

/-- Some of the items, by their places. -/
theorem Sub.pick (is : List Nat) {L O' : List Item} (h : pickL is L = O') : Sub O' L := h ▸ Sub.of_perm (pick_perm is L)
/-- .. the others behind them as they are -/
theorem Sub.pickR (is : List Nat) (L R : List Item) {O' O : List Item} (h : pickL is L ++ R = O') (h2 : L ++ R = O) : Sub O' O := by
  subst h; subst h2; exact (Sub.pick is rfl).app
/-- .. the others behind them given up -/
theorem Sub.pick0 (is : List Nat) (L R : List Item) {O' O : List Item} (h : pickL is L = O') (h2 : L ++ R = O) : Sub O' O := by
  subst h; subst h2; exact Sub.of_perm (D := restL is L ++ R) (by rw [← List.append_assoc]; exact (pick_perm is L).append_right R)

section
variable {P : Program} {r : Option Nat} {base : World} {n : Nat} {ρ : Env} {O O' S : List Item} {K : Env → List Item → Prop} {ops : Array Oper} {l : List Oper} {tail : List Nat} {od : List (Nat × Nat)}

theorem TO.sub (hs : Sub O' O) (h : TO P r base n ops l K ρ O') : TO P r base n ops l K ρ O := fun Q a w M D hk ha hi => h Q a w M D hk ha (hi.subp hs.app)
theorem DO.sub {S2 : List Item} {tail2 : List Nat} (hs : Sub O' O) (h : DO P r base n ops S tail S2 tail2 od K ρ O') : DO P r base n ops S tail S2 tail2 od K ρ O :=
  fun h1 hnd h3 listed h4 Q a w M D hq hp ha hI hcl hS => h h1 hnd h3 listed h4 Q a w M D hq hp ha (hI.subp hs.app) hcl hS
theorem CallT.sub {f : FuncId} {args : List Value} {R : Value → List Item → Prop} (hs : Sub O' O) (h : CallT P base f args O' R) : CallT P base f args O R := fun w M hI => h w M (hI.subp hs.app)

/-- Facts that a world in which the items are as said bears out. -/
theorem T.have {c : Code} {Q : Post} {φ : Prop} (hf : ∀ w, Inv base O w → φ) (h : φ → T P r base n c Q ρ O) : T P r base n c Q ρ O := fun a w M D hM ha hi => h (hf w hi.left) a w M D hM ha hi

end
end Go.Lx
