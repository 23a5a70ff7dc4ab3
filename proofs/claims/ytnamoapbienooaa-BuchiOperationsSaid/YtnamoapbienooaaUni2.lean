/- Contracts of functions of the program (Uni2): what each call answers and that it leaves memory as it was. Conditions: those each theorem names. -/
import Derived.Test.YtnamoapbienooaaTr2
set_option linter.unusedSectionVars false
set_option linter.unusedSimpArgs false
set_option linter.unusedVariables false
set_option linter.unnecessarySimpa false
namespace Go.Lx
open Go.RowKit
set_option linter.unusedVariables false
def pairE (a b : Bu) : Nat := if checkB a ≠ 0 then checkB a else if checkB b ≠ 0 then checkB b else if a.vars ≠ b.vars then 7 else 0
theorem pairE_zero {a b : Bu} (h : pairE a b = 0) : ValidB a ∧ ValidB b ∧ a.vars = b.vars := by
  unfold pairE at h
  by_cases h1 : checkB a = 0
  · rw [if_neg (fun q => q h1)] at h
    by_cases h2 : checkB b = 0
    · rw [if_neg (fun q => q h2)] at h
      by_cases h3 : a.vars = b.vars
      · exact ⟨checkB_zero.1 h1, checkB_zero.1 h2, h3⟩
      · rw [if_pos h3] at h; cases h
    · rw [if_pos h2] at h; exact absurd h h2
  · rw [if_pos h1] at h; exact absurd h h1
def shE (n : Nat) (e : Ed) : Ed := ⟨e.fr + ((n : Nat) : Int), e.to + ((n : Nat) : Int), e.pos, e.neg⟩
def set0 (b : Bu) : List Int := b.sets.getD 0 []
def joinB (x y : Bu) : Bu := ⟨x.vars, ((x.states.toNat + y.states.toNat : Nat) : Int), x.start ++ y.start.map (fun s => s + ((x.states.toNat : Nat) : Int)), x.edges ++ y.edges.map (shE x.states.toNat), [set0 x ++ (set0 y).map (fun s => s + ((x.states.toNat : Nat) : Int))]⟩
def unE (a b : Bu) : Nat := if pairE a b ≠ 0 then pairE a b else if degE a ≠ 0 then degE a else if degE b ≠ 0 then degE b else if 4096 < (degB a).states.toNat + (degB b).states.toNat then 10 else 0
def unB (a b : Bu) : Bu := if unE a b = 0 then joinB (degB a) (degB b) else zeroBu
def joT (x y : Bu) (k : Nat) : List Ed := x.edges ++ (y.edges.take k).map (shE x.states.toNat)
theorem joT_succ {x y : Bu} {k : Nat} (h : k < y.edges.length) : joT x y (k + 1) = joT x y k ++ [shE x.states.toNat y.edges[k]] := by
  unfold joT; rw [List.take_succ_eq_append_getElem h, List.map_append, ← List.append_assoc]; rfl
theorem joT_len {x y : Bu} (k : Nat) : (joT x y k).length ≤ x.edges.length + y.edges.length := by
  unfold joT; rw [List.length_append, List.length_map, List.length_take]; omega
theorem joT_all (x y : Bu) : joT x y y.edges.length = (joinB x y).edges := by unfold joT joinB; rw [List.take_length]
theorem deg_sets (b : Bu) : ∃ S, (degB b).sets = [S] := by
  by_cases hz : b.sets.length = 0
  · exact ⟨_, if_pos hz⟩
  · exact ⟨_, if_neg hz⟩
theorem deg_len (b : Bu) : (degB b).sets.length = 1 := by obtain ⟨S, h⟩ := deg_sets b; rw [h]; rfl
theorem join_valid {x y : Bu} (hx : ValidB x) (hy : ValidB y) (hv : x.vars = y.vars) (h : x.states.toNat + y.states.toNat ≤ 4096) (h1 : x.sets.length = 1) (h2 : y.sets.length = 1) : ValidB (joinB x y) := by
  have a0 := hx.n0; have b0 := hy.n0
  have hs0 : ∀ z : Bu, z.sets.length = 1 → set0 z ∈ z.sets := fun z hz => getD_mem (by omega)
  have hst : ∀ (l r : List Int), (∀ s ∈ l, 0 ≤ s ∧ s < x.states) → (∀ s ∈ r, 0 ≤ s ∧ s < y.states) → ∀ s ∈ l ++ r.map (fun s => s + ((x.states.toNat : Nat) : Int)), 0 ≤ s ∧ s < ((x.states.toNat + y.states.toNat : Nat) : Int) := fun l r hl hr s hs => by
    rcases List.mem_append.1 hs with hs | hs
    · have := hl s hs; omega
    · obtain ⟨t, ht, rfl⟩ := List.mem_map.1 hs
      have := hr t ht; omega
  have hso : ∀ (l r : List Int), (∀ s ∈ l, 0 ≤ s ∧ s < x.states) → (∀ s ∈ r, 0 ≤ s ∧ s < y.states) → l.Pairwise (· < ·) → r.Pairwise (· < ·) → (l ++ r.map (fun s => s + ((x.states.toNat : Nat) : Int))).Pairwise (· < ·) := fun l r hl hr p1 p2 => by
    rw [List.pairwise_append]
    refine ⟨p1, by rw [List.pairwise_map]; exact p2.imp (fun h => by omega), fun s hs t ht => ?_⟩
    obtain ⟨u, hu, rfl⟩ := List.mem_map.1 ht
    have := hl s hs; have := hr u hu; omega
  refine { v0 := hx.v0, v6 := hx.v6, n0 := ?_, n4 := ?_, m8 := ?_, st := hst _ _ hx.st hy.st, sst := hso _ _ hx.st hy.st hx.sst hy.sst, se := ?_, sse := ?_, ed := ?_, cu := ?_ }
  · show (0 : Int) ≤ ((x.states.toNat + y.states.toNat : Nat) : Int); omega
  · show ((x.states.toNat + y.states.toNat : Nat) : Int) ≤ 4096; omega
  · show ([_] : List (List Int)).length ≤ 8; simp
  · intro l hl
    rw [show (joinB x y).sets = [_] from rfl, List.mem_singleton] at hl
    subst hl
    exact hst _ _ (hx.se _ (hs0 x h1)) (hy.se _ (hs0 y h2))
  · intro l hl
    rw [show (joinB x y).sets = [_] from rfl, List.mem_singleton] at hl
    subst hl
    exact hso _ _ (hx.se _ (hs0 x h1)) (hy.se _ (hs0 y h2)) (hx.sse _ (hs0 x h1)) (hy.sse _ (hs0 y h2))
  · intro e he
    rcases List.mem_append.1 he with he | he
    · have := hx.ed e he
      show (0 ≤ e.fr ∧ e.fr < ((x.states.toNat + y.states.toNat : Nat) : Int)) ∧ 0 ≤ e.to ∧ e.to < ((x.states.toNat + y.states.toNat : Nat) : Int); omega
    · obtain ⟨z, hz, rfl⟩ := List.mem_map.1 he
      have := hy.ed z hz
      show (0 ≤ z.fr + ((x.states.toNat : Nat) : Int) ∧ z.fr + ((x.states.toNat : Nat) : Int) < ((x.states.toNat + y.states.toNat : Nat) : Int)) ∧ 0 ≤ z.to + ((x.states.toNat : Nat) : Int) ∧ z.to + ((x.states.toNat : Nat) : Int) < ((x.states.toNat + y.states.toNat : Nat) : Int); omega
  · intro e he
    rcases List.mem_append.1 he with he | he
    · exact hx.cu e he
    · obtain ⟨z, hz, rfl⟩ := List.mem_map.1 he
      have := hy.cu z hz
      show z.pos < 2 ^ x.vars.toNat ∧ z.neg < 2 ^ x.vars.toNat ∧ _
      rw [hv]; exact this
theorem acc_join {x y : Bu} (hx : ValidB x) (hy : ValidB y) (h1 : x.sets.length = 1) (h2 : y.sets.length = 1) {w : Nat → Nat} : Acc (joinB x y) w ↔ Acc x w ∨ Acc y w := by
  have a0 := hx.n0; have b0 := hy.n0
  obtain ⟨S, hS⟩ : ∃ S, x.sets = [S] := List.length_eq_one_iff.1 h1
  obtain ⟨R, hR⟩ : ∃ R, y.sets = [R] := List.length_eq_one_iff.1 h2
  have hSm : S ∈ x.sets := by rw [hS]; simp
  have hRm : R ∈ y.sets := by rw [hR]; simp
  have e0 : set0 x = S := by unfold set0; rw [hS]; rfl
  have e1 : set0 y = R := by unfold set0; rw [hR]; rfl
  constructor
  · rintro ⟨s, hs, r, hr⟩
    have hset : ∀ N, ∃ i, N ≤ i ∧ ((r i : Nat) : Int) ∈ S ++ R.map (fun s => s + ((x.states.toNat : Nat) : Int)) := fun N => by
      have := hr.inf (set0 x ++ (set0 y).map (fun s => s + ((x.states.toNat : Nat) : Int))) (by show _ ∈ [_]; simp) N
      rwa [e0, e1] at this
    by_cases hlt : s < x.states.toNat
    · -- within the first
      have hin : ∀ i, r i < x.states.toNat := fun i => by
        induction i with
        | zero => rw [hr.s]; exact hlt
        | succ i ih =>
          obtain ⟨e, he, h3, h4, _⟩ := hr.st i
          rcases List.mem_append.1 he with he | he
          · have := hx.ed e he; omega
          · obtain ⟨z, hz, rfl⟩ := List.mem_map.1 he
            have := hy.ed z hz
            have : z.fr + ((x.states.toNat : Nat) : Int) = r i := h3
            omega
      refine .inl ⟨s, ?_, r, hr.s, fun i => ?_, fun T hT N => ?_⟩
      · rcases List.mem_append.1 hs with hs | hs
        · exact hs
        · obtain ⟨t, ht, h3⟩ := List.mem_map.1 hs
          have := hy.st t ht; omega
      · obtain ⟨e, he, h3, h4, h5⟩ := hr.st i
        rcases List.mem_append.1 he with he | he
        · exact ⟨e, he, h3, h4, h5⟩
        · obtain ⟨z, hz, rfl⟩ := List.mem_map.1 he
          have := hy.ed z hz; have := hin i
          have : z.fr + ((x.states.toNat : Nat) : Int) = r i := h3
          omega
      · rw [hS, List.mem_singleton] at hT
        subst hT
        obtain ⟨i, h3, h4⟩ := hset N
        rcases List.mem_append.1 h4 with h4 | h4
        · exact ⟨i, h3, h4⟩
        · obtain ⟨t, ht, h5⟩ := List.mem_map.1 h4
          have := hy.se R hRm t ht; have := hin i; omega
    · have hin : ∀ i, x.states.toNat ≤ r i := fun i => by
        induction i with
        | zero => rw [hr.s]; omega
        | succ i ih =>
          obtain ⟨e, he, h3, h4, _⟩ := hr.st i
          rcases List.mem_append.1 he with he | he
          · have := hx.ed e he; omega
          · obtain ⟨z, hz, rfl⟩ := List.mem_map.1 he
            have := hy.ed z hz
            have : z.to + ((x.states.toNat : Nat) : Int) = r (i + 1) := h4
            omega
      refine .inr ⟨s - x.states.toNat, ?_, fun i => r i - x.states.toNat, by show r 0 - _ = _; rw [hr.s], fun i => ?_, fun T hT N => ?_⟩
      · rcases List.mem_append.1 hs with hs | hs
        · have := hx.st _ hs; omega
        · obtain ⟨t, ht, h3⟩ := List.mem_map.1 hs
          have : ((s - x.states.toNat : Nat) : Int) = t := by have := hy.st t ht; omega
          rw [this]; exact ht
      · obtain ⟨e, he, h3, h4, h5⟩ := hr.st i
        have h6 := hin i; have h7 := hin (i + 1)
        rcases List.mem_append.1 he with he | he
        · have := hx.ed e he; omega
        · obtain ⟨z, hz, rfl⟩ := List.mem_map.1 he
          have h8 : z.fr + ((x.states.toNat : Nat) : Int) = r i := h3
          have h9 : z.to + ((x.states.toNat : Nat) : Int) = r (i + 1) := h4
          exact ⟨z, hz, by show z.fr = ((r i - x.states.toNat : Nat) : Int); omega, by show z.to = ((r (i + 1) - x.states.toNat : Nat) : Int); omega, h5⟩
      · rw [hR, List.mem_singleton] at hT
        subst hT
        obtain ⟨i, h3, h4⟩ := hset N
        have h6 := hin i
        rcases List.mem_append.1 h4 with h4 | h4
        · have := hx.se S hSm _ h4; omega
        · obtain ⟨t, ht, h5⟩ := List.mem_map.1 h4
          refine ⟨i, h3, ?_⟩
          have : ((r i - x.states.toNat : Nat) : Int) = t := by omega
          show ((r i - x.states.toNat : Nat) : Int) ∈ T
          rw [this]; exact ht
  · rintro (⟨s, hs, r, hr⟩ | ⟨s, hs, r, hr⟩)
    · refine ⟨s, List.mem_append_left _ hs, r, hr.s, fun i => ?_, fun T hT N => ?_⟩
      · obtain ⟨e, he, h3⟩ := hr.st i; exact ⟨e, List.mem_append_left _ he, h3⟩
      · rw [show (joinB x y).sets = [_] from rfl, List.mem_singleton] at hT
        subst hT
        obtain ⟨i, h3, h4⟩ := hr.inf S hSm N
        exact ⟨i, h3, by rw [e0]; exact List.mem_append_left _ h4⟩
    · refine ⟨s + x.states.toNat, List.mem_append_right _ (List.mem_map.2 ⟨_, hs, by omega⟩), fun i => r i + x.states.toNat, by show r 0 + _ = _; rw [hr.s], fun i => ?_, fun T hT N => ?_⟩
      · obtain ⟨e, he, h3, h4, h5⟩ := hr.st i
        exact ⟨shE x.states.toNat e, List.mem_append_right _ (List.mem_map.2 ⟨e, he, rfl⟩), by show e.fr + ((x.states.toNat : Nat) : Int) = ((r i + x.states.toNat : Nat) : Int); omega, by show e.to + ((x.states.toNat : Nat) : Int) = ((r (i + 1) + x.states.toNat : Nat) : Int); omega, h5⟩
      · rw [show (joinB x y).sets = [_] from rfl, List.mem_singleton] at hT
        subst hT
        obtain ⟨i, h3, h4⟩ := hr.inf R hRm N
        exact ⟨i, h3, by rw [e1]; exact List.mem_append_right _ (List.mem_map.2 ⟨_, h4, by show _ = ((r i + x.states.toNat : Nat) : Int); omega⟩)⟩
end Go.Lx

