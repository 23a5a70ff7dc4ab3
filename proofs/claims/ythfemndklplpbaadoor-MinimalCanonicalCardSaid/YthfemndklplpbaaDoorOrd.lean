/- The reachable states by first visit: what the reference's loops keep. -/
import Derived.Test.YthfemndklplpbaaDoorLaw2
import Derived.Test.YthfemndklplpbaaDoorCoreJ
set_option linter.unusedSectionVars false
set_option linter.unusedSimpArgs false
set_option linter.unusedVariables false
set_option linter.unnecessarySimpa false
namespace Go.Lx
open Go.RowKit
set_option linter.unusedVariables false

theorem foldl_add_ok {n : Nat} : ∀ (l ks : List Nat), ks.Nodup → (∀ k ∈ ks, k < n) → (∀ k ∈ l, k < n) → (l.foldl add ks).Nodup ∧ ∀ k ∈ l.foldl add ks, k < n
  | [], ks, h1, h2, _ => ⟨h1, h2⟩
  | a :: l, ks, h1, h2, h3 => foldl_add_ok l (add ks a) (add_nodup h1) (fun k hk => (mem_add.1 hk).elim (h2 k) fun e => e ▸ h3 a (by simp)) fun k hk => h3 k (by simp [hk])

theorem sucs_lt {d : DFA} (hv : Valid d) {o : Nat} (ho : o < d.next.length) : ∀ t ∈ sucs d o, t < d.next.length := fun t ht => by
  obtain ⟨x, hx, rfl⟩ := List.mem_map.1 ht
  exact (hv.toN_lt ho (List.mem_range.1 hx)).1

theorem bfsN_ok {d : DFA} (hv : Valid d) : ∀ i, (bfsN d i).Nodup ∧ ∀ o ∈ bfsN d i, o < d.next.length
  | 0 => by
    refine ⟨by simp [bfsN], fun o ho => ?_⟩
    simp only [bfsN, List.mem_singleton] at ho
    have := hv.s0; have := hv.s1; omega
  | i + 1 => by
    obtain ⟨h1, h2⟩ := bfsN_ok hv i
    rw [bfsN]
    split
    · rename_i hi
      refine foldl_add_ok _ _ h1 h2 (sucs_lt hv (h2 _ ?_))
      rw [List.getD_eq_getElem?_getD, List.getElem?_eq_getElem hi]
      exact List.getElem_mem hi
    · exact ⟨h1, h2⟩

theorem bfsN_len {d : DFA} (hv : Valid d) (i : Nat) : (bfsN d i).length ≤ d.next.length := nodup_bound (bfsN_ok hv i).1 (bfsN_ok hv i).2

theorem bfsN_succ {d : DFA} {i o : Nat} (h : (bfsN d i)[i]? = some o) : bfsN d (i + 1) = (sucs d o).foldl add (bfsN d i) := by
  have hi := (List.getElem?_eq_some_iff.1 h).1
  rw [bfsN, if_pos hi, List.getD_eq_getElem?_getD, h]; rfl

/-- .. on the way: after x letters. -/
def bfsM (d : DFA) (i o x : Nat) : List Nat := ((List.range x).map (toN d o)).foldl add (bfsN d i)

theorem bfsM_step (d : DFA) (i o x : Nat) : bfsM d i o (x + 1) = add (bfsM d i o x) (toN d o x) := foldl_add_snoc _ _ _

theorem bfsM_len {d : DFA} (hv : Valid d) {i o x : Nat} (ho : o < d.next.length) (hx : x ≤ 2 ^ d.vars.toNat) : (bfsM d i o x).length ≤ d.next.length ∧ (bfsN d i).length ≤ (bfsM d i o x).length := by
  obtain ⟨h1, h2⟩ := bfsN_ok hv i
  obtain ⟨h3, h4⟩ := foldl_add_ok ((List.range x).map (toN d o)) _ h1 h2 (fun t ht => by
    obtain ⟨y, hy, rfl⟩ := List.mem_map.1 ht
    exact (hv.toN_lt ho (by have := List.mem_range.1 hy; omega)).1)
  exact ⟨nodup_bound h3 h4, (foldl_prefix _ _).length_le⟩

theorem order_len {d : DFA} (hv : Valid d) : (order d).length ≤ d.next.length := bfsN_len hv _
theorem order_lt {d : DFA} (hv : Valid d) : ∀ o ∈ order d, o < d.next.length := (bfsN_ok hv _).2

/-- All successors of what is reached are reached. -/
theorem order_stop {d : DFA} (hv : Valid d) : ∃ N, N ≤ d.next.length ∧ (bfsN d N).length = N ∧ (∀ j, j < N → j < (bfsN d j).length) := by
  have step : ∀ k, (∃ N, N ≤ k ∧ (bfsN d N).length = N ∧ ∀ j, j < N → j < (bfsN d j).length) ∨ ((∀ j, j < k → j < (bfsN d j).length) ∧ k ≤ (bfsN d k).length) := by
    intro k
    induction k with
    | zero => exact .inr ⟨fun j hj => absurd hj (by omega), Nat.zero_le _⟩
    | succ k ih =>
      rcases ih with ⟨N, h1, h2⟩ | ⟨h1, h2⟩
      · exact .inl ⟨N, by omega, h2⟩
      · by_cases e : (bfsN d k).length = k
        · exact .inl ⟨k, by omega, e, h1⟩
        · refine .inr ⟨fun j hj => ?_, ?_⟩
          · by_cases ej : j = k
            · subst ej; omega
            · exact h1 j (by omega)
          · have hi : k < (bfsN d k).length := by omega
            rw [bfsN_succ (List.getElem?_eq_getElem hi)]
            have := (foldl_prefix (sucs d (bfsN d k)[k]) (bfsN d k)).length_le
            omega
  rcases step d.next.length with h | ⟨h1, h2⟩
  · exact h
  · exact ⟨d.next.length, Nat.le_refl _, by have := bfsN_len hv d.next.length; omega, h1⟩

theorem bfsN_prefix (d : DFA) : ∀ (i m : Nat), i ≤ m → bfsN d i <+: bfsN d m := by
  intro i m h
  induction h with
  | refl => exact List.prefix_refl _
  | @step m _ ih =>
    refine ih.trans ?_
    rw [bfsN]
    split
    · exact foldl_prefix _ _
    · exact List.prefix_refl _

theorem order_closed {d : DFA} (hv : Valid d) : ∀ o ∈ order d, ∀ t ∈ sucs d o, t ∈ order d := by
  obtain ⟨N, hN, hl, hj⟩ := order_stop hv
  have e := order_eq hl hN
  intro o ho t ht
  rw [e] at ho ⊢
  obtain ⟨j, hjo⟩ := List.getElem?_of_mem ho
  have hjl := (List.getElem?_eq_some_iff.1 hjo).1
  have hjj := hj j (by omega)
  have hp := bfsN_prefix d j N (by omega)
  have hjo' : (bfsN d j)[j]? = some o := by
    obtain ⟨r, hr⟩ := hp
    rw [← hr, List.getElem?_append_left hjj] at hjo
    exact hjo
  have hp2 := bfsN_prefix d (j + 1) N (by omega)
  refine hp2.subset ?_
  rw [bfsN_succ hjo']
  exact (mem_foldl_add _ _).2 (.inr ht)

theorem ix_le {α : Type} [DecidableEq α] {x : α} : ∀ {ks : List α} {k : Nat}, ks[k]? = some x → ix x ks ≤ k
  | [], k, h => by simp at h
  | a :: ks, k, h => by
    simp only [ix]
    split
    · omega
    · rename_i hne
      cases k with
      | zero => simp at h; exact absurd h.symm hne
      | succ k => have := ix_le (ks := ks) (k := k) (by simpa using h); omega

theorem sucs_length (d : DFA) (o : Nat) : (sucs d o).length = 2 ^ d.vars.toNat := by simp [sucs]
theorem sucs_get {d : DFA} {o x : Nat} (h : x < 2 ^ d.vars.toNat) : (sucs d o)[x]? = some (toN d o x) := by simp [sucs, h]

/-- A row of the automaton numbered anew. -/
def renRow (d : DFA) (o : Nat) : List Nat := (sucs d o).map fun t => ix t (order d)
theorem renRow_length (d : DFA) (o : Nat) : (renRow d o).length = 2 ^ d.vars.toNat := by simp [renRow, sucs]
theorem renRow_step {d : DFA} {o x : Nat} (h : x < 2 ^ d.vars.toNat) : (renRow d o).take (x + 1) = (renRow d o).take x ++ [ix (toN d o x) (order d)] := by
  rw [List.take_succ_eq_append_getElem (by rw [renRow_length]; exact h)]
  congr 2
  have := sucs_get (d := d) (o := o) h
  have h2 : (renRow d o)[x]? = some (ix (toN d o x) (order d)) := by rw [renRow, List.getElem?_map, this]; rfl
  rw [List.getElem?_eq_getElem (by rw [renRow_length]; exact h)] at h2
  exact Option.some.inj h2

theorem renum_next (d : DFA) : (renum d).next = (order d).map fun o => (renRow d o).map fun x : Nat => (x : Int) := by
  simp [renum, renRow, Function.comp_def]

end Go.Lx
