/- Contracts of functions of the program (Deg): what each call answers and that it leaves memory as it was. Conditions: those each theorem names. -/
import Derived.Test.YtnamoapbienooaaMon
set_option linter.unusedSectionVars false
set_option linter.unusedSimpArgs false
set_option linter.unusedVariables false
set_option linter.unnecessarySimpa false
namespace Go.Lx
open Go.RowKit
set_option linter.unusedVariables false
def degNext (b : Bu) (k : Nat) (x : Int) : Nat := if x ∈ b.sets.getD k [] ∧ 1 < b.sets.length then (k + 1) % b.sets.length else k
def degE1 (b : Bu) (k : Nat) (e : Ed) : Ed := ⟨e.fr + ((k * b.states.toNat : Nat) : Int), e.to + ((degNext b k e.fr * b.states.toNat : Nat) : Int), e.pos, e.neg⟩
def degEs (b : Bu) (n : Nat) : List Ed := (List.range n).flatMap fun k => b.edges.map (degE1 b k)
def lastB (b : Bu) : List Int := (b.sets.getD (b.sets.length - 1) []).map fun x => x + (((b.sets.length - 1) * b.states.toNat : Nat) : Int)
def allI (n : Nat) : List Int := (List.range n).map fun s : Nat => (s : Int)
def degB (b : Bu) : Bu := ⟨b.vars, ((b.states.toNat * max b.sets.length 1 : Nat) : Int), b.start, if b.sets.length = 0 then b.edges else degEs b b.sets.length, if b.sets.length = 0 then [allI b.states.toNat] else [lastB b]⟩
def degE (b : Bu) : Nat := if checkB b ≠ 0 then checkB b else if 4096 < b.sets.length * b.states.toNat then 10 else 0
def dgB (b : Bu) : Bu := if degE b = 0 then degB b else zeroBu
theorem degEs_succ (b : Bu) (k : Nat) : degEs b (k + 1) = degEs b k ++ b.edges.map (degE1 b k) := by
  unfold degEs; rw [List.range_succ, List.flatMap_append]; simp
theorem degEs_len (b : Bu) (k : Nat) : (degEs b k).length = k * b.edges.length := by
  induction k with
  | zero => simp [degEs]
  | succ k ih => rw [degEs_succ, List.length_append, List.length_map, ih, Nat.succ_mul]
theorem mem_degEs {b : Bu} {n : Nat} {x : Ed} : x ∈ degEs b n ↔ ∃ k, k < n ∧ ∃ e ∈ b.edges, x = degE1 b k e := by
  unfold degEs
  simp only [List.mem_flatMap, List.mem_range, List.mem_map]
  constructor
  · rintro ⟨k, h1, e, h2, rfl⟩; exact ⟨k, h1, e, h2, rfl⟩
  · rintro ⟨k, h1, e, h2, rfl⟩; exact ⟨k, h1, e, h2, rfl⟩
theorem degE_zero {b : Bu} (h : degE b = 0) : ValidB b ∧ b.sets.length * b.states.toNat ≤ 4096 := by
  unfold degE at h
  by_cases hc : checkB b = 0
  · rw [if_neg (fun q => q hc)] at h
    split at h
    · cases h
    · exact ⟨checkB_zero.1 hc, by omega⟩
  · rw [if_pos hc] at h; exact absurd h hc
theorem degNext_lt {b : Bu} {k : Nat} {x : Int} (hk : k < b.sets.length) : degNext b k x < b.sets.length := by
  unfold degNext; split
  · exact Nat.mod_lt _ (by omega)
  · exact hk
theorem mul_lt {k n N s : Nat} (hk : k < n) (hs : s < N) : s + k * N < n * N := by
  have := Nat.mul_le_mul_right N (show k + 1 ≤ n by omega)
  rw [Nat.succ_mul] at this; omega
theorem mem_allI {n : Nat} {x : Int} : x ∈ allI n ↔ 0 ≤ x ∧ x < n := by
  unfold allI
  rw [List.mem_map]
  constructor
  · rintro ⟨s, h, rfl⟩; have := List.mem_range.1 h; omega
  · rintro ⟨h1, h2⟩; exact ⟨x.toNat, List.mem_range.2 (by omega), by omega⟩
theorem getD_mem {l : List (List Int)} {k : Nat} (h : k < l.length) : l.getD k [] ∈ l := by
  rw [List.getD_eq_getElem?_getD, List.getElem?_eq_getElem h]; exact List.getElem_mem h
theorem deg_valid {b : Bu} (hv : ValidB b) (hn : b.sets.length * b.states.toNat ≤ 4096) : ValidB (degB b) := by
  have hN := hv.n0
  have h4 := hv.n4
  have hmx : b.states.toNat ≤ b.states.toNat * max b.sets.length 1 := Nat.le_mul_of_pos_right _ (by omega)
  have hst : ∀ s ∈ b.start, 0 ≤ s ∧ s < ((b.states.toNat * max b.sets.length 1 : Nat) : Int) := fun s hs => by have := hv.st s hs; omega
  have h0 : (0 : Int) ≤ ((b.states.toNat * max b.sets.length 1 : Nat) : Int) := by omega
  have h9 : ((b.states.toNat * max b.sets.length 1 : Nat) : Int) ≤ 4096 := by
    by_cases hz : b.sets.length = 0
    · rw [hz]; simp; omega
    · rw [show max b.sets.length 1 = b.sets.length by omega, Nat.mul_comm]; omega
  by_cases hz : b.sets.length = 0
  · have e1 : max b.sets.length 1 = 1 := by omega
    refine { v0 := hv.v0, v6 := hv.v6, n0 := h0, n4 := h9, m8 := ?_, st := hst, sst := hv.sst, se := ?_, sse := ?_, ed := ?_, cu := ?_ }
    · show (if b.sets.length = 0 then [allI b.states.toNat] else [lastB b]).length ≤ 8; rw [if_pos hz]; simp
    · intro l hl s hs
      rw [show (degB b).sets = [allI b.states.toNat] from if_pos hz, List.mem_singleton] at hl
      subst hl
      have := mem_allI.1 hs
      show 0 ≤ s ∧ s < ((b.states.toNat * max b.sets.length 1 : Nat) : Int); omega
    · intro l hl
      rw [show (degB b).sets = [allI b.states.toNat] from if_pos hz, List.mem_singleton] at hl
      subst hl
      unfold allI; rw [List.pairwise_map]; exact List.pairwise_lt_range.imp (fun h => by omega)
    · intro e he
      rw [show (degB b).edges = b.edges from if_pos hz] at he
      have := hv.ed e he
      show (0 ≤ e.fr ∧ e.fr < ((b.states.toNat * max b.sets.length 1 : Nat) : Int)) ∧ 0 ≤ e.to ∧ e.to < ((b.states.toNat * max b.sets.length 1 : Nat) : Int); omega
    · intro e he
      rw [show (degB b).edges = b.edges from if_pos hz] at he
      exact hv.cu e he
  · have e1 : max b.sets.length 1 = b.sets.length := by omega
    have hle : ∀ k, k < b.sets.length → ∀ s : Int, 0 ≤ s → s < b.states → 0 ≤ s + ((k * b.states.toNat : Nat) : Int) ∧ s + ((k * b.states.toNat : Nat) : Int) < ((b.states.toNat * max b.sets.length 1 : Nat) : Int) := fun k hk s h1 h2 => by
      rw [e1, Nat.mul_comm b.states.toNat]
      have := mul_lt (N := b.states.toNat) (s := s.toNat) hk (by omega); omega
    refine { v0 := hv.v0, v6 := hv.v6, n0 := h0, n4 := h9, m8 := ?_, st := hst, sst := hv.sst, se := ?_, sse := ?_, ed := ?_, cu := ?_ }
    · show (if b.sets.length = 0 then [allI b.states.toNat] else [lastB b]).length ≤ 8; rw [if_neg hz]; simp
    · intro l hl s hs
      rw [show (degB b).sets = [lastB b] from if_neg hz, List.mem_singleton] at hl
      subst hl
      obtain ⟨x, hx, rfl⟩ := List.mem_map.1 hs
      have := hv.se _ (getD_mem (show b.sets.length - 1 < b.sets.length by omega)) x hx
      exact hle _ (by omega) x this.1 this.2
    · intro l hl
      rw [show (degB b).sets = [lastB b] from if_neg hz, List.mem_singleton] at hl
      subst hl
      unfold lastB; rw [List.pairwise_map]
      exact (hv.sse _ (getD_mem (show b.sets.length - 1 < b.sets.length by omega))).imp (fun h => by omega)
    · intro x hx
      rw [show (degB b).edges = degEs b b.sets.length from if_neg hz] at hx
      obtain ⟨k, hk, e, he, rfl⟩ := mem_degEs.1 hx
      have h1 := hv.ed e he
      exact ⟨hle k hk _ h1.1.1 h1.1.2, hle _ (degNext_lt hk) _ h1.2.1 h1.2.2⟩
    · intro x hx
      rw [show (degB b).edges = degEs b b.sets.length from if_neg hz] at hx
      obtain ⟨k, hk, e, he, rfl⟩ := mem_degEs.1 hx
      exact hv.cu e he
def degT (b : Bu) (k i : Nat) : List Ed := degEs b k ++ (b.edges.take i).map (degE1 b k)
theorem degT_succ {b : Bu} {k i : Nat} (h : i < b.edges.length) : degT b k (i + 1) = degT b k i ++ [degE1 b k b.edges[i]] := by
  unfold degT; rw [List.take_succ_eq_append_getElem h, List.map_append, ← List.append_assoc]; rfl
theorem degT_zero (b : Bu) (k : Nat) : degT b k 0 = degEs b k := by unfold degT; simp
theorem degT_all (b : Bu) (k : Nat) : degT b k b.edges.length = degT b (k + 1) 0 := by
  rw [degT_zero, degEs_succ]; unfold degT; rw [List.take_length]
theorem degT_len {b : Bu} {k i : Nat} (hi : i ≤ b.edges.length) (hk : k ≤ 8) (hE : b.edges.length ≤ 1000000) : (degT b k i).length ≤ 9000000 := by
  unfold degT
  rw [List.length_append, degEs_len, List.length_map, List.length_take]
  have := Nat.mul_le_mul hk hE
  omega
theorem deg_bit {b : Bu} {k : Nat} {x : Int} (hk : k < b.sets.length) : ((((mkN b.sets x >>> k) &&& 1 : Nat) : Int) = 1) ↔ x ∈ b.sets.getD k [] := by
  have h1 : ((((mkN b.sets x >>> k) &&& 1 : Nat) : Int) = 1) ↔ (mkN b.sets x).testBit k = true := by
    rw [← bit_and9]; exact decide_eq_true_iff.symm
  rw [h1, mkN_test, List.getElem?_eq_getElem hk]
  have hg : b.sets.getD k [] = b.sets[k] := by simp [hk]
  rw [hg]
  constructor
  · rintro ⟨S, h1, h2⟩; cases h1; exact h2
  · intro h2; exact ⟨_, rfl, h2⟩
theorem degNext_bit {b : Bu} {k : Nat} {x : Int} (hk : k < b.sets.length) : degNext b k x = if ((((mkN b.sets x >>> k) &&& 1 : Nat) : Int) = 1) ∧ 1 < b.sets.length then (k + 1) % b.sets.length else k := by
  unfold degNext
  simp only [deg_bit hk]
theorem lastB_eq {b : Bu} (h : b.sets.length - 1 < b.sets.length) : lastB b = b.sets[b.sets.length - 1].map fun x => x + (((b.sets.length - 1) * b.states.toNat : Nat) : Int) := by
  unfold lastB
  rw [show b.sets.getD (b.sets.length - 1) [] = b.sets[b.sets.length - 1] by simp [h]]
theorem allI_succ (k : Nat) : allI (k + 1) = allI k ++ [(k : Int)] := by unfold allI; rw [List.range_succ, List.map_append]; rfl
theorem allI_len (k : Nat) : (allI k).length = k := by unfold allI; simp
theorem take_set_snoc {α : Type} {l : List α} {k : Nat} (h : k < l.length) (v : α) : (l.set k v).take (k + 1) = l.take k ++ [v] := by
  rw [List.take_succ_eq_append_getElem (by simpa using h), List.getElem_set_self, List.take_set_of_le (Nat.le_refl _)]
end Go.Lx

