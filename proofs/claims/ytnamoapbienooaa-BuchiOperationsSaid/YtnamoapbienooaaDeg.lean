/- Contracts of functions of the program (Deg): what each call answers and that it leaves memory as it was. Conditions: those each theorem names. -/
import Derived.Test.YtnamoapbienooaaMon
set_option linter.unusedSectionVars false
set_option linter.unusedSimpArgs false
set_option linter.unusedVariables false
set_option linter.unnecessarySimpa false
namespace Go.Lx
open Go.RowKit
set_option linter.unusedVariables false
def degNext (b : Bu) (k : Nat) (x : Int) : Nat := if x ∈ b.sets.getD k [] ∧ 1 < b.sets.length then (k + 1) % b.sets.length else k
def degE1 (b : Bu) (k : Nat) (e : Ed) : Ed := ⟨e.fr + ((k * b.states.toNat : Nat) : Int), e.to + ((degNext b k e.fr * b.states.toNat : Nat) : Int), e.pos, e.neg⟩
def degEs (b : Bu) (n : Nat) : List Ed := (List.range n).flatMap fun k => b.edges.map (degE1 b k)
def lastB (b : Bu) : List Int := (b.sets.getD (b.sets.length - 1) []).map fun x => x + (((b.sets.length - 1) * b.states.toNat : Nat) : Int)
def allI (n : Nat) : List Int := (List.range n).map fun s : Nat => (s : Int)
def degB (b : Bu) : Bu := ⟨b.vars, ((b.states.toNat * max b.sets.length 1 : Nat) : Int), b.start, if b.sets.length = 0 then b.edges else degEs b b.sets.length, if b.sets.length = 0 then [allI b.states.toNat] else [lastB b]⟩
def degE (b : Bu) : Nat := if checkB b ≠ 0 then checkB b else if 4096 < b.sets.length * b.states.toNat then 10 else 0
def dgB (b : Bu) : Bu := if degE b = 0 then degB b else zeroBu
theorem degEs_succ (b : Bu) (k : Nat) : degEs b (k + 1) = degEs b k ++ b.edges.map (degE1 b k) := by
  unfold degEs; rw [List.range_succ, List.flatMap_append]; simp
theorem degEs_len (b : Bu) (k : Nat) : (degEs b k).length = k * b.edges.length := by
  induction k with
  | zero => simp [degEs]
  | succ k ih => rw [degEs_succ, List.length_append, List.length_map, ih, Nat.succ_mul]
theorem mem_degEs {b : Bu} {n : Nat} {x : Ed} : x ∈ degEs b n ↔ ∃ k, k < n ∧ ∃ e ∈ b.edges, x = degE1 b k e := by
  unfold degEs
  simp only [List.mem_flatMap, List.mem_range, List.mem_map]
  constructor
  · rintro ⟨k, h1, e, h2, rfl⟩; exact ⟨k, h1, e, h2, rfl⟩
  · rintro ⟨k, h1, e, h2, rfl⟩; exact ⟨k, h1, e, h2, rfl⟩
theorem degE_zero {b : Bu} (h : degE b = 0) : ValidB b ∧ b.sets.length * b.states.toNat ≤ 4096 := by
  unfold degE at h
  by_cases hc : checkB b = 0
  · rw [if_neg (fun q => q hc)] at h
    split at h
    · cases h
    · exact ⟨checkB_zero.1 hc, by omega⟩
  · rw [if_pos hc] at h; exact absurd h hc
theorem degNext_lt {b : Bu} {k : Nat} {x : Int} (hk : k < b.sets.length) : degNext b k x < b.sets.length := by
  unfold degNext; split
  · exact Nat.mod_lt _ (by omega)
  · exact hk
theorem mul_lt {k n N s : Nat} (hk : k < n) (hs : s < N) : s + k * N < n * N := by
  have := Nat.mul_le_mul_right N (show k + 1 ≤ n by omega)
  rw [Nat.succ_mul] at this; omega
theorem mem_allI {n : Nat} {x : Int} : x ∈ allI n ↔ 0 ≤ x ∧ x < n := by
  unfold allI
  rw [List.mem_map]
  constructor
  · rintro ⟨s, h, rfl⟩; have := List.mem_range.1 h; omega
  · rintro ⟨h1, h2⟩; exact ⟨x.toNat, List.mem_range.2 (by omega), by omega⟩
theorem getD_mem {l : List (List Int)} {k : Nat} (h : k < l.length) : l.getD k [] ∈ l := by
  rw [List.getD_eq_getElem?_getD, List.getElem?_eq_getElem h]; exact List.getElem_mem h
theorem deg_valid {b : Bu} (hv : ValidB b) (hn : b.sets.length * b.states.toNat ≤ 4096) : ValidB (degB b) := by
  have hN := hv.n0
  have h4 := hv.n4
  have hmx : b.states.toNat ≤ b.states.toNat * max b.sets.length 1 := Nat.le_mul_of_pos_right _ (by omega)
  have hst : ∀ s ∈ b.start, 0 ≤ s ∧ s < ((b.states.toNat * max b.sets.length 1 : Nat) : Int) := fun s hs => by have := hv.st s hs; omega
  have h0 : (0 : Int) ≤ ((b.states.toNat * max b.sets.length 1 : Nat) : Int) := by omega
  have h9 : ((b.states.toNat * max b.sets.length 1 : Nat) : Int) ≤ 4096 := by
    by_cases hz : b.sets.length = 0
    · rw [hz]; simp; omega
    · rw [show max b.sets.length 1 = b.sets.length by omega, Nat.mul_comm]; omega
  by_cases hz : b.sets.length = 0
  · have e1 : max b.sets.length 1 = 1 := by omega
    refine { v0 := hv.v0, v6 := hv.v6, n0 := h0, n4 := h9, m8 := ?_, st := hst, sst := hv.sst, se := ?_, sse := ?_, ed := ?_, cu := ?_ }
    · show (if b.sets.length = 0 then [allI b.states.toNat] else [lastB b]).length ≤ 8; rw [if_pos hz]; simp
    · intro l hl s hs
      rw [show (degB b).sets = [allI b.states.toNat] from if_pos hz, List.mem_singleton] at hl
      subst hl
      have := mem_allI.1 hs
      show 0 ≤ s ∧ s < ((b.states.toNat * max b.sets.length 1 : Nat) : Int); omega
    · intro l hl
      rw [show (degB b).sets = [allI b.states.toNat] from if_pos hz, List.mem_singleton] at hl
      subst hl
      unfold allI; rw [List.pairwise_map]; exact List.pairwise_lt_range.imp (fun h => by omega)
    · intro e he
      rw [show (degB b).edges = b.edges from if_pos hz] at he
      have := hv.ed e he
      show (0 ≤ e.fr ∧ e.fr < ((b.states.toNat * max b.sets.length 1 : Nat) : Int)) ∧ 0 ≤ e.to ∧ e.to < ((b.states.toNat * max b.sets.length 1 : Nat) : Int); omega
    · intro e he
      rw [show (degB b).edges = b.edges from if_pos hz] at he
      exact hv.cu e he
  · have e1 : max b.sets.length 1 = b.sets.length := by omega
    have hle : ∀ k, k < b.sets.length → ∀ s : Int, 0 ≤ s → s < b.states → 0 ≤ s + ((k * b.states.toNat : Nat) : Int) ∧ s + ((k * b.states.toNat : Nat) : Int) < ((b.states.toNat * max b.sets.length 1 : Nat) : Int) := fun k hk s h1 h2 => by
      rw [e1, Nat.mul_comm b.states.toNat]
      have := mul_lt (N := b.states.toNat) (s := s.toNat) hk (by omega); omega
    refine { v0 := hv.v0, v6 := hv.v6, n0 := h0, n4 := h9, m8 := ?_, st := hst, sst := hv.sst, se := ?_, sse := ?_, ed := ?_, cu := ?_ }
    · show (if b.sets.length = 0 then [allI b.states.toNat] else [lastB b]).length ≤ 8; rw [if_neg hz]; simp
    · intro l hl s hs
      rw [show (degB b).sets = [lastB b] from if_neg hz, List.mem_singleton] at hl
      subst hl
      obtain ⟨x, hx, rfl⟩ := List.mem_map.1 hs
      have := hv.se _ (getD_mem (show b.sets.length - 1 < b.sets.length by omega)) x hx
      exact hle _ (by omega) x this.1 this.2
    · intro l hl
      rw [show (degB b).sets = [lastB b] from if_neg hz, List.mem_singleton] at hl
      subst hl
      unfold lastB; rw [List.pairwise_map]
      exact (hv.sse _ (getD_mem (show b.sets.length - 1 < b.sets.length by omega))).imp (fun h => by omega)
    · intro x hx
      rw [show (degB b).edges = degEs b b.sets.length from if_neg hz] at hx
      obtain ⟨k, hk, e, he, rfl⟩ := mem_degEs.1 hx
      have h1 := hv.ed e he
      exact ⟨hle k hk _ h1.1.1 h1.1.2, hle _ (degNext_lt hk) _ h1.2.1 h1.2.2⟩
    · intro x hx
      rw [show (degB b).edges = degEs b b.sets.length from if_neg hz] at hx
      obtain ⟨k, hk, e, he, rfl⟩ := mem_degEs.1 hx
      exact hv.cu e he
theorem step_ivt {n : Nat} {c : Nat → Nat} {V : Nat → Nat → Prop} (hs : ∀ i, c (i + 1) = c i ∨ (V (c i) i ∧ c (i + 1) = (c i + 1) % n)) {a j : Nat} (ha : c a ≤ j) : ∀ L, j < c (a + L) → ∃ t, a ≤ t ∧ c t = j ∧ V j t
  | 0, h => by rw [Nat.add_zero] at h; omega
  | L + 1, h => by
    by_cases hj : j < c (a + L)
    · exact step_ivt hs ha L hj
    · rcases hs (a + L) with h1 | ⟨h1, h2⟩
      · rw [← Nat.add_assoc, h1] at h; omega
      · rw [← Nat.add_assoc, h2] at h
        have := Nat.mod_le (c (a + L) + 1) n
        have e : c (a + L) = j := by omega
        exact ⟨a + L, by omega, e, by rw [e] at h1; exact h1⟩
theorem least_ge {P : Nat → Prop} {a t : Nat} (h : a ≤ t) (hp : P t) : ∃ u, a ≤ u ∧ P u ∧ ∀ i, a ≤ i → i < u → ¬ P i := by
  classical
  by_cases hx : ∃ i, a ≤ i ∧ i < t ∧ P i
  · obtain ⟨i, h1, h2, h3⟩ := hx
    exact least_ge h1 h3
  · exact ⟨t, h, hp, fun i h1 h2 h3 => hx ⟨i, h1, h2, h3⟩⟩
  termination_by t
theorem acc_deg {b : Bu} (hv : ValidB b) (hn : b.sets.length * b.states.toNat ≤ 4096) {w : Nat → Nat} : Acc (degB b) w ↔ Acc b w := by
  have hN := hv.n0
  by_cases hz : b.sets.length = 0
  · have hb : b.sets = [] := List.eq_nil_of_length_eq_zero hz
    have he : (degB b).edges = b.edges := if_pos hz
    have hs : (degB b).sets = [allI b.states.toNat] := if_pos hz
    constructor
    · rintro ⟨s, h1, r, hr⟩
      refine ⟨s, h1, r, hr.s, fun i => ?_, fun S hS => by rw [hb] at hS; cases hS⟩
      have := hr.st i
      rwa [he] at this
    · rintro ⟨s, h1, r, hr⟩
      refine ⟨s, h1, r, hr.s, fun i => by rw [he]; exact hr.st i, fun S hS N => ?_⟩
      rw [hs, List.mem_singleton] at hS
      subst hS
      refine ⟨N, Nat.le_refl _, mem_allI.2 ?_⟩
      obtain ⟨e, h2, h3, _, _⟩ := hr.st N
      have := hv.ed e h2; omega
  · have he : (degB b).edges = degEs b b.sets.length := if_neg hz
    have hs : (degB b).sets = [lastB b] := if_neg hz
    have hst : (degB b).start = b.start := rfl
    constructor
    · rintro ⟨s, h1, r', hr⟩
      rw [hst] at h1
      have hsN := hv.st _ h1
      have hN0 : 0 < b.states.toNat := by omega
      have hstep : ∀ i, ∃ k, k < b.sets.length ∧ ∃ e ∈ b.edges, (r' i : Int) = e.fr + ((k * b.states.toNat : Nat) : Int) ∧ (r' (i + 1) : Int) = e.to + ((degNext b k e.fr * b.states.toNat : Nat) : Int) ∧ mtch e (w i) := fun i => by
        obtain ⟨x, hx, h2, h3, h4⟩ := hr.st i
        rw [he] at hx
        obtain ⟨k, hk, e, hem, rfl⟩ := mem_degEs.1 hx
        exact ⟨k, hk, e, hem, h2.symm, h3.symm, h4⟩
      have hdm : ∀ (x : Int) (k : Nat) (v : Nat), 0 ≤ x → x < b.states → (v : Int) = x + ((k * b.states.toNat : Nat) : Int) → v % b.states.toNat = x.toNat ∧ v / b.states.toNat = k := fun x k v h2 h3 h4 => by
        have e1 : v = b.states.toNat * k + x.toNat := by rw [Nat.mul_comm]; omega
        rw [e1]
        exact ⟨by rw [Nat.mul_add_mod, Nat.mod_eq_of_lt (by omega)], by rw [Nat.mul_add_div hN0, Nat.div_eq_of_lt (by omega), Nat.add_zero]⟩
      have hfr : ∀ i, ∃ e ∈ b.edges, e.fr = ((r' i % b.states.toNat : Nat) : Int) ∧ e.to = ((r' (i + 1) % b.states.toNat : Nat) : Int) ∧ mtch e (w i) ∧ r' (i + 1) / b.states.toNat = degNext b (r' i / b.states.toNat) ((r' i % b.states.toNat : Nat) : Int) := fun i => by
        obtain ⟨k, hk, e, hem, h2, h3, h4⟩ := hstep i
        have h5 := hv.ed e hem
        have h6 := hdm _ _ _ h5.1.1 h5.1.2 h2
        have h7 := hdm _ _ _ h5.2.1 h5.2.2 h3
        refine ⟨e, hem, by rw [h6.1, Int.toNat_of_nonneg h5.1.1], by rw [h7.1, Int.toNat_of_nonneg h5.2.1], h4, ?_⟩
        rw [h7.2, h6.2, h6.1, Int.toNat_of_nonneg h5.1.1]
      have hV : ∀ i, r' (i + 1) / b.states.toNat = r' i / b.states.toNat ∨ (((r' i % b.states.toNat : Nat) : Int) ∈ b.sets.getD (r' i / b.states.toNat) [] ∧ r' (i + 1) / b.states.toNat = (r' i / b.states.toNat + 1) % b.sets.length) := fun i => by
        obtain ⟨_, _, _, _, _, h2⟩ := hfr i
        unfold degNext at h2
        split at h2
        · rename_i h3; exact .inr ⟨h3.1, h2⟩
        · exact .inl h2
      have hlast : ∀ M, ∃ i, M ≤ i ∧ r' i / b.states.toNat = b.sets.length - 1 ∧ ((r' i % b.states.toNat : Nat) : Int) ∈ b.sets.getD (b.sets.length - 1) [] := fun M => by
        obtain ⟨i, h2, h3⟩ := hr.inf (lastB b) (by rw [hs]; simp) M
        obtain ⟨x, hx, h4⟩ := List.mem_map.1 h3
        have h5 := hv.se _ (getD_mem (show b.sets.length - 1 < b.sets.length by omega)) x hx
        have h6 := hdm x _ _ h5.1 h5.2 h4.symm
        exact ⟨i, h2, h6.2, by rw [h6.1, Int.toNat_of_nonneg h5.1]; exact hx⟩
      refine ⟨s, h1, fun i => r' i % b.states.toNat, ?_, fun i => ?_, fun S hS M => ?_⟩
      · show r' 0 % _ = s
        rw [hr.s, Nat.mod_eq_of_lt (by omega)]
      · obtain ⟨e, h2, h3, h4, h5, _⟩ := hfr i; exact ⟨e, h2, h3, h4, h5⟩
      · obtain ⟨j, hj, rfl⟩ := List.mem_iff_getElem.1 hS
        have hg : b.sets.getD j [] = b.sets[j] := by simp [hj]
        by_cases hjn : j = b.sets.length - 1
        · obtain ⟨i, h2, _, h4⟩ := hlast M
          rw [← hjn, hg] at h4
          exact ⟨i, h2, h4⟩
        · obtain ⟨i, h2, h3, h4⟩ := hlast M
          have h5 : r' (i + 1) / b.states.toNat = 0 := by
            obtain ⟨_, _, _, _, _, h6⟩ := hfr i
            rw [h6, h3]
            unfold degNext
            rw [if_pos ⟨h4, by omega⟩, show b.sets.length - 1 + 1 = b.sets.length by omega, Nat.mod_self]
          obtain ⟨i2, h6, h7, _⟩ := hlast (i + 1)
          obtain ⟨L, rfl⟩ := Nat.exists_eq_add_of_le h6
          obtain ⟨t, h8, h9, h10⟩ := step_ivt (n := b.sets.length) (c := fun i => r' i / b.states.toNat) (V := fun k i => ((r' i % b.states.toNat : Nat) : Int) ∈ b.sets.getD k []) hV (a := i + 1) (j := j) (by show r' (i + 1) / _ ≤ j; omega) L (by show j < r' (i + 1 + L) / _; omega)
          rw [hg] at h10
          exact ⟨t, by omega, h10⟩
    · rintro ⟨s, h1, r, hr⟩
      obtain ⟨c, hc0, hcs⟩ : ∃ c : Nat → Nat, c 0 = 0 ∧ ∀ i, c (i + 1) = degNext b (c i) (r i) :=
        ⟨fun i => Nat.rec 0 (fun i k => degNext b k (r i)) i, rfl, fun i => rfl⟩
      have hlt : ∀ i, c i < b.sets.length := fun i => by
        induction i with
        | zero => rw [hc0]; omega
        | succ i ih => rw [hcs]; exact degNext_lt ih
      have hfirst : ∀ a, ∃ t, a ≤ t ∧ c t = c a ∧ ((r t : Nat) : Int) ∈ b.sets.getD (c a) [] := fun a => by
        obtain ⟨t0, h2, h3⟩ := hr.inf _ (getD_mem (hlt a)) a
        obtain ⟨u, h4, h5, h6⟩ := least_ge (P := fun i => ((r i : Nat) : Int) ∈ b.sets.getD (c a) []) h2 h3
        refine ⟨u, h4, ?_, h5⟩
        have key : ∀ L, a + L ≤ u → c (a + L) = c a := fun L => by
          induction L with
          | zero => intro _; rfl
          | succ L ih =>
            intro hL
            have h7 := ih (by omega)
            rw [← Nat.add_assoc, hcs, h7]
            unfold degNext
            rw [if_neg (fun q => h6 (a + L) (by omega) (by omega) q.1)]
        obtain ⟨L, rfl⟩ := Nat.exists_eq_add_of_le h4
        exact key L (Nat.le_refl _)
      have hlast : ∀ d a, b.sets.length - 1 - c a = d → ∃ t, a ≤ t ∧ c t = b.sets.length - 1 ∧ ((r t : Nat) : Int) ∈ b.sets.getD (b.sets.length - 1) [] := fun d => by
        induction d with
        | zero =>
          intro a ha
          have h2 := hlt a
          obtain ⟨t, h3, h4, h5⟩ := hfirst a
          have h6 : c a = b.sets.length - 1 := by omega
          rw [h6] at h4 h5
          exact ⟨t, h3, h4, h5⟩
        | succ d ih =>
          intro a ha
          have h2 := hlt a
          obtain ⟨t, h3, h4, h5⟩ := hfirst a
          have h6 : c (t + 1) = c a + 1 := by
            rw [hcs, h4]
            unfold degNext
            rw [if_pos ⟨h5, by omega⟩, Nat.mod_eq_of_lt (by omega)]
          obtain ⟨t2, h7, h8⟩ := ih (t + 1) (by omega)
          exact ⟨t2, by omega, h8⟩
      refine ⟨s, h1, fun i => r i + c i * b.states.toNat, by show r 0 + c 0 * _ = s; rw [hr.s, hc0]; simp, fun i => ?_, fun S hS M => ?_⟩
      · obtain ⟨e, h2, h3, h4, h5⟩ := hr.st i
        refine ⟨degE1 b (c i) e, by rw [he]; exact mem_degEs.2 ⟨c i, hlt i, e, h2, rfl⟩, ?_, ?_, h5⟩
        · show e.fr + _ = ((r i + c i * b.states.toNat : Nat) : Int); rw [h3]; omega
        · show e.to + ((degNext b (c i) e.fr * b.states.toNat : Nat) : Int) = ((r (i + 1) + c (i + 1) * b.states.toNat : Nat) : Int); rw [h4, h3, hcs]; omega
      · rw [hs, List.mem_singleton] at hS
        subst hS
        obtain ⟨t, h2, h3, h4⟩ := hlast _ M rfl
        refine ⟨t, h2, List.mem_map.2 ⟨_, h4, ?_⟩⟩
        show ((r t : Nat) : Int) + _ = ((r t + c t * b.states.toNat : Nat) : Int)
        rw [h3]; omega
def degT (b : Bu) (k i : Nat) : List Ed := degEs b k ++ (b.edges.take i).map (degE1 b k)
theorem degT_succ {b : Bu} {k i : Nat} (h : i < b.edges.length) : degT b k (i + 1) = degT b k i ++ [degE1 b k b.edges[i]] := by
  unfold degT; rw [List.take_succ_eq_append_getElem h, List.map_append, ← List.append_assoc]; rfl
theorem degT_zero (b : Bu) (k : Nat) : degT b k 0 = degEs b k := by unfold degT; simp
theorem degT_all (b : Bu) (k : Nat) : degT b k b.edges.length = degT b (k + 1) 0 := by
  rw [degT_zero, degEs_succ]; unfold degT; rw [List.take_length]
theorem degT_len {b : Bu} {k i : Nat} (hi : i ≤ b.edges.length) (hk : k ≤ 8) (hE : b.edges.length ≤ 1000000) : (degT b k i).length ≤ 9000000 := by
  unfold degT
  rw [List.length_append, degEs_len, List.length_map, List.length_take]
  have := Nat.mul_le_mul hk hE
  omega
theorem deg_bit {b : Bu} {k : Nat} {x : Int} (hk : k < b.sets.length) : ((((mkN b.sets x >>> k) &&& 1 : Nat) : Int) = 1) ↔ x ∈ b.sets.getD k [] := by
  have h1 : ((((mkN b.sets x >>> k) &&& 1 : Nat) : Int) = 1) ↔ (mkN b.sets x).testBit k = true := by
    rw [← bit_and9]; exact decide_eq_true_iff.symm
  rw [h1, mkN_test, List.getElem?_eq_getElem hk]
  have hg : b.sets.getD k [] = b.sets[k] := by simp [hk]
  rw [hg]
  constructor
  · rintro ⟨S, h1, h2⟩; cases h1; exact h2
  · intro h2; exact ⟨_, rfl, h2⟩
theorem degNext_bit {b : Bu} {k : Nat} {x : Int} (hk : k < b.sets.length) : degNext b k x = if ((((mkN b.sets x >>> k) &&& 1 : Nat) : Int) = 1) ∧ 1 < b.sets.length then (k + 1) % b.sets.length else k := by
  unfold degNext
  simp only [deg_bit hk]
theorem lastB_eq {b : Bu} (h : b.sets.length - 1 < b.sets.length) : lastB b = b.sets[b.sets.length - 1].map fun x => x + (((b.sets.length - 1) * b.states.toNat : Nat) : Int) := by
  unfold lastB
  rw [show b.sets.getD (b.sets.length - 1) [] = b.sets[b.sets.length - 1] by simp [h]]
theorem allI_succ (k : Nat) : allI (k + 1) = allI k ++ [(k : Int)] := by unfold allI; rw [List.range_succ, List.map_append]; rfl
theorem allI_len (k : Nat) : (allI k).length = k := by unfold allI; simp
theorem take_set_snoc {α : Type} {l : List α} {k : Nat} (h : k < l.length) (v : α) : (l.set k v).take (k + 1) = l.take k ++ [v] := by
  rw [List.take_succ_eq_append_getElem (by simpa using h), List.getElem_set_self, List.take_set_of_le (Nat.le_refl _)]
end Go.Lx

