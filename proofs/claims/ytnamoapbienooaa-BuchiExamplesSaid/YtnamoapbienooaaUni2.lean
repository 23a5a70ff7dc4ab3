/- Contracts of functions of the program (Uni2): what each call answers and that it leaves memory as it was. Conditions: those each theorem names. -/
import Derived.Test.YtnamoapbienooaaTr2
set_option linter.unusedSectionVars false
set_option linter.unusedSimpArgs false
set_option linter.unusedVariables false
set_option linter.unnecessarySimpa false
namespace Go.Lx
open Go.RowKit
set_option linter.unusedVariables false
def pairE (a b : Bu) : Nat := if checkB a ≠ 0 then checkB a else if checkB b ≠ 0 then checkB b else if a.vars ≠ b.vars then 7 else 0
theorem pairE_zero {a b : Bu} (h : pairE a b = 0) : ValidB a ∧ ValidB b ∧ a.vars = b.vars := by
  unfold pairE at h
  by_cases h1 : checkB a = 0
  · rw [if_neg (fun q => q h1)] at h
    by_cases h2 : checkB b = 0
    · rw [if_neg (fun q => q h2)] at h
      by_cases h3 : a.vars = b.vars
      · exact ⟨checkB_zero.1 h1, checkB_zero.1 h2, h3⟩
      · rw [if_pos h3] at h; cases h
    · rw [if_pos h2] at h; exact absurd h h2
  · rw [if_pos h1] at h; exact absurd h h1
def shE (n : Nat) (e : Ed) : Ed := ⟨e.fr + ((n : Nat) : Int), e.to + ((n : Nat) : Int), e.pos, e.neg⟩
def set0 (b : Bu) : List Int := b.sets.getD 0 []
def joinB (x y : Bu) : Bu := ⟨x.vars, ((x.states.toNat + y.states.toNat : Nat) : Int), x.start ++ y.start.map (fun s => s + ((x.states.toNat : Nat) : Int)), x.edges ++ y.edges.map (shE x.states.toNat), [set0 x ++ (set0 y).map (fun s => s + ((x.states.toNat : Nat) : Int))]⟩
def unE (a b : Bu) : Nat := if pairE a b ≠ 0 then pairE a b else if degE a ≠ 0 then degE a else if degE b ≠ 0 then degE b else if 4096 < (degB a).states.toNat + (degB b).states.toNat then 10 else 0
def unB (a b : Bu) : Bu := if unE a b = 0 then joinB (degB a) (degB b) else zeroBu
def joT (x y : Bu) (k : Nat) : List Ed := x.edges ++ (y.edges.take k).map (shE x.states.toNat)
theorem joT_succ {x y : Bu} {k : Nat} (h : k < y.edges.length) : joT x y (k + 1) = joT x y k ++ [shE x.states.toNat y.edges[k]] := by
  unfold joT; rw [List.take_succ_eq_append_getElem h, List.map_append, ← List.append_assoc]; rfl
theorem joT_len {x y : Bu} (k : Nat) : (joT x y k).length ≤ x.edges.length + y.edges.length := by
  unfold joT; rw [List.length_append, List.length_map, List.length_take]; omega
theorem joT_all (x y : Bu) : joT x y y.edges.length = (joinB x y).edges := by unfold joT joinB; rw [List.take_length]
theorem deg_sets (b : Bu) : ∃ S, (degB b).sets = [S] := by
  by_cases hz : b.sets.length = 0
  · exact ⟨_, if_pos hz⟩
  · exact ⟨_, if_neg hz⟩
theorem deg_len (b : Bu) : (degB b).sets.length = 1 := by obtain ⟨S, h⟩ := deg_sets b; rw [h]; rfl
end Go.Lx

