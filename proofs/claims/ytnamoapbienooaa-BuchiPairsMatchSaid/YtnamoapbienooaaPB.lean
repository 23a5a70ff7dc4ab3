/- Contracts of functions of the program (PB): what each call answers and that it leaves memory as it was. Conditions: those each theorem names. -/
import Derived.Test.YtnamoapbienooaaInt
import Derived.Test.YtnamoapbienooaaTr2
import Derived.Test.YtnamoapbienooaaLv
set_option linter.unusedSectionVars false
set_option linter.unusedSimpArgs false
set_option linter.unusedVariables false
set_option linter.unnecessarySimpa false
namespace Go.Lx
open Go.RowKit
set_option linter.unusedVariables false
theorem degB_sz {b : Bu} (hB : BuB b) (hv : ValidB b) (hs : b.start.length ≤ 40) (he : b.edges.length ≤ 60) (hr : ∀ r ∈ b.sets, r.length ≤ 40) :
  (degB b).start.length ≤ 40 ∧ (degB b).edges.length ≤ 480 ∧ (∀ r ∈ (degB b).sets, r.length ≤ 4096) ∧ ∀ e ∈ (degB b).edges, e.pos < 256 ∧ e.neg < 256 := by
 have hm8 := hv.m8; have hv4 := hv.n4
 by_cases hz : b.sets.length = 0
 ·have e1 : (degB b).edges = b.edges := if_pos hz
  have e2 : (degB b).sets = [allI b.states.toNat] := if_pos hz
  refine ⟨hs, by rw [e1]; omega, fun r hr => ?_, fun e he => hB.pn e (by rw [e1] at he; exact he)⟩
  rw [e2, List.mem_singleton] at hr
  subst hr
  rw [allI_len]; omega
 ·have e1 : (degB b).edges = degEs b b.sets.length := if_neg hz
  have e2 : (degB b).sets = [lastB b] := if_neg hz
  refine ⟨hs, ?_, fun r hr => ?_, fun e he => ?_⟩
  ·rw [e1, degEs_len]
   have := Nat.mul_le_mul hm8 he; omega
  ·rw [e2, List.mem_singleton] at hr
   subst hr
   unfold lastB; rw [List.length_map]
   have := hr _ (getD_mem (l := b.sets) (k := b.sets.length - 1) (by omega)); omega
  ·rw [e1] at he
   obtain ⟨k, _, x, hx, rfl⟩ := mem_degEs.1 he
   exact hB.pn x hx
theorem unB_B {a b : Bu} (hA : BuB a) (hB : BuB b) (hsa : a.start.length ≤ 40) (hsb : b.start.length ≤ 40) (hea : a.edges.length ≤ 60) (heb : b.edges.length ≤ 60) (hra : ∀ r ∈ a.sets, r.length ≤ 40) (hrb : ∀ r ∈ b.sets, r.length ≤ 40) : BuB (unB a b) := by
 unfold unB
 by_cases he : unE a b = 0
 ·rw [if_pos he]
  obtain ⟨hva, hvb⟩ : ValidB a ∧ ValidB b := by
   unfold unE at he
   by_cases h1 : pairE a b = 0
   ·exact ⟨(pairE_zero h1).1, (pairE_zero h1).2.1⟩
   ·rw [if_pos h1] at he; exact absurd he h1
  obtain ⟨a1, a2, a3, a4⟩ := degB_sz hA hva hsa hea hra
  obtain ⟨b1, b2, b3, b4⟩ := degB_sz hB hvb hsb heb hrb
  have hset : ∀ c : Bu, (∀ r ∈ (degB c).sets, r.length ≤ 4096) → (set0 (degB c)).length ≤ 4096 := fun c hc => by
   obtain ⟨S, hS⟩ := deg_sets c
   unfold set0; rw [hS]; exact hc S (by rw [hS]; simp)
  have ha0 := hset a a3; have hb0 := hset b b3
  refine ⟨?_, ?_, ?_, fun r hr => ?_, fun e he => ?_⟩
  ·show ((degB a).start ++ _).length ≤ _; rw [List.length_append, List.length_map]; omega
  ·show ((degB a).edges ++ _).length ≤ _; rw [List.length_append, List.length_map]; omega
  ·show [_].length ≤ _; simp
  ·rw [show (joinB (degB a) (degB b)).sets = [set0 (degB a) ++ (set0 (degB b)).map (fun s => s + (((degB a).states.toNat : Nat) : Int))] from rfl, List.mem_singleton] at hr
   subst hr
   rw [List.length_append, List.length_map]; omega
  ·rcases List.mem_append.1 (show e ∈ (degB a).edges ++ (degB b).edges.map (shE (degB a).states.toNat) from he) with h | h
   ·exact a4 e h
   ·obtain ⟨x, hx, rfl⟩ := List.mem_map.1 h
    exact b4 x hx
 ·rw [if_neg he]; exact zeroBu_B
theorem inrB_B {a b : Bu} (hA : BuB a) (hB : BuB b) (hea : a.edges.length ≤ 60) (heb : b.edges.length ≤ 60) : BuB (inrB a b) := by
 unfold inrB
 by_cases he : inE a b = 0
 ·rw [if_pos he]
  obtain ⟨h4, h8⟩ : inAll a b ≤ 4096 ∧ a.sets.length + b.sets.length ≤ 8 := by
   unfold inE at he
   by_cases h1 : pairE a b = 0
   ·rw [if_neg (fun h => h h1)] at he
    by_cases h2 : 4096 < inAll a b
    ·rw [if_pos h2] at he; cases he
    ·rw [if_neg h2] at he
     by_cases h3 : 8 < a.sets.length + b.sets.length
     ·rw [if_pos h3] at he; cases he
     ·omega
   ·rw [if_pos h1] at he; exact absurd he h1
  refine ⟨?_, ?_, ?_, fun r hr => ?_, fun e he => ?_⟩
  ·show (pickI _ (inAll a b)).length ≤ _; have := pickI_len (stP a b) (inAll a b); omega
  ·show (inEs _ a.edges b.edges).length ≤ _
   have h1 := inEs_len b.states.toNat a.edges b.edges
   have h2 : a.edges.length * b.edges.length ≤ 60 * 60 := Nat.mul_le_mul hea heb
   omega
  ·show (inSets a b _).length ≤ _; unfold inSets; rw [List.length_append, List.length_map, List.length_map]; omega
  ·obtain ⟨P, rfl⟩ : ∃ P, r = pickI P (inAll a b) := by
    rcases List.mem_append.1 (show r ∈ inSets a b (inAll a b) from hr) with h | h
    ·obtain ⟨S, _, rfl⟩ := List.mem_map.1 h; exact ⟨_, rfl⟩
    ·obtain ⟨S, _, rfl⟩ := List.mem_map.1 h; exact ⟨_, rfl⟩
   have := pickI_len P (inAll a b); omega
  ·obtain ⟨x, hx, y, hy, _, rfl⟩ := mem_inEs.1 (show e ∈ inEs b.states.toNat a.edges b.edges from he)
   exact ⟨Nat.or_lt_two_pow (n := 8) (hA.pn x hx).1 (hB.pn y hy).1, Nat.or_lt_two_pow (n := 8) (hA.pn x hx).2 (hB.pn y hy).2⟩
 ·rw [if_neg he]; exact zeroBu_B
theorem Sub.mid (P A Q S R' R : List Item) (h : Sub (S ++ R') R) : Sub ((A ++ S) ++ ((P ++ Q) ++ R')) ((P ++ (A ++ Q)) ++ R) := by
 refine Sub.tr (Sub.seg A (P ++ Q) S R' R h) (Sub.of_perm (D := []) ?_)
 rw [List.append_nil]
 refine List.Perm.append_right R ?_
 rw [← List.append_assoc, ← List.append_assoc]
 exact List.perm_append_comm.append_right Q
end Go.Lx
