/- Contracts of functions of the program (Prd): what each call answers and that it leaves memory as it was. Conditions: those each theorem names. -/
import Derived.Test.YtnamoapbienooaaGod
set_option linter.unusedSectionVars false
set_option linter.unusedSimpArgs false
set_option linter.unusedVariables false
set_option linter.unnecessarySimpa false
namespace Go.Lx
open Go.RowKit
set_option linter.unusedVariables false
def prodK (es : List Ed) (l : La) (k i : Nat) (u : Nat) (y : Int) : Prop := (∃ e ∈ es.take k, ∃ j, j < l.n ∧ prodP l e j u y) ∨ ∃ e, es[k]? = some e ∧ ∃ j, j < i ∧ prodP l e j u y
theorem prodK_start {es : List Ed} {l : La} {u : Nat} {y : Int} : ¬ prodK es l 0 0 u y := by
  rintro (⟨e, he, _⟩ | ⟨e, _, j, hj, _⟩)
  · simp at he
  · omega
theorem prodK_hit {es : List Ed} {l : La} {k i : Nat} (hk : k < es.length) {u : Nat} {y : Int} : prodK es l k (i + 1) u y ↔ prodK es l k i u y ∨ prodP l es[k] i u y := by
  unfold prodK
  rw [List.getElem?_eq_getElem hk]
  constructor
  · rintro (h | ⟨e, h1, j, h2, h3⟩)
    · exact .inl (.inl h)
    · by_cases e2 : j = i
      · subst e2; cases h1; exact .inr h3
      · exact .inl (.inr ⟨e, h1, j, by omega, h3⟩)
  · rintro ((h | ⟨e, h1, j, h2, h3⟩) | h)
    · exact .inl h
    · exact .inr ⟨e, h1, j, by omega, h3⟩
    · exact .inr ⟨_, rfl, i, by omega, h⟩
theorem prodK_row {es : List Ed} {l : La} {k : Nat} (hk : k < es.length) {u : Nat} {y : Int} : prodK es l (k + 1) 0 u y ↔ prodK es l k l.n u y := by
  unfold prodK
  rw [List.take_succ_eq_append_getElem hk, List.getElem?_eq_getElem hk]
  constructor
  · rintro (⟨e, h1, h2⟩ | ⟨e, _, j, hj, _⟩)
    · rcases List.mem_append.1 h1 with h1 | h1
      · exact .inl ⟨e, h1, h2⟩
      · rw [List.mem_singleton] at h1; subst h1; exact .inr ⟨_, rfl, h2⟩
    · omega
  · rintro (⟨e, h1, h2⟩ | ⟨e, h1, h2⟩)
    · exact .inl ⟨e, List.mem_append_left _ h1, h2⟩
    · cases h1; exact .inl ⟨_, List.mem_append_right _ (by simp), h2⟩
theorem prodK_done {es : List Ed} {l : La} {u : Nat} {y : Int} : prodK es l es.length 0 u y ↔ prodR es l l.n 0 u y := by
  unfold prodK prodR
  rw [List.take_length, List.take_zero]
  constructor
  · rintro (⟨e, h1, j, h2, h3⟩ | ⟨e, _, j, hj, _⟩)
    · exact .inl ⟨j, h2, e, h1, h3⟩
    · omega
  · rintro (⟨j, h2, e, h1, h3⟩ | ⟨e, he, _⟩)
    · exact .inl ⟨e, h1, j, h2, h3⟩
    · simp at he
def prdA (L m : Nat) : List Nat := (List.range m).map (· / L)
theorem prdA_succ (L m : Nat) : prdA L (m + 1) = prdA L m ++ [m / L] := by simp [prdA, List.range_succ]
theorem prdA_len (L m : Nat) : (prdA L m).length = m := by simp [prdA]
theorem prdA_get {L m v : Nat} (h : v < m) : (prdA L m).getD v 0 = v / L := by simp [prdA, h]
theorem div_at {L s i : Nat} (hi : i < L) : (s * L + i) / L = s := by
  rw [Nat.add_comm, Nat.add_mul_div_right _ _ (by omega), Nat.div_eq_of_lt hi, Nat.zero_add]
theorem La.ix_end {l : La} (h : 0 < l.loop.length) {i : Nat} (hi : i + 1 = l.n) : l.ix (i + 1) = l.pre.length := by
  have hn : l.n = l.pre.length + l.loop.length := rfl
  rw [La.ix_loop h (by omega), show i + 1 - l.pre.length = l.loop.length by omega, Nat.mod_self, Nat.add_zero]
theorem liveR_states {b : Bu} (hv : ValidB b) {nx : List (List Int)} (hr : RowsP b.states.toNat (autR b.edges) b.edges.length nx) {v : Nat} : liveR b (List.range b.states.toNat) nx v ↔ liveB b v := by
  have hE : adjE nx = autE b := by
    funext u v
    exact propext (hr.adj (fun u y ⟨e, he, h1, _⟩ => by have := (hv.ed e he).1; omega) u v)
  have hM : refM b (List.range b.states.toNat) nx.length = autM b := by
    funext k u
    apply propext
    unfold refM autM
    rw [hr.l]
    constructor
    · rintro ⟨h1, S, h2, h3⟩; exact ⟨h1, S, h2, by simpa [h1] using h3⟩
    · rintro ⟨h1, S, h2, h3⟩; exact ⟨h1, S, h2, by simpa [h1] using h3⟩
  unfold liveR liveB
  rw [hE, hM]
theorem states_ok {b : Bu} (hv : ValidB b) {nx : List (List Int)} (hr : RowsP b.states.toNat (autR b.edges) b.edges.length nx) : okRows nx := fun r hrr x hx => by
  obtain ⟨i, hi, rfl⟩ := List.mem_iff_getElem.1 hrr
  have hl := hr.l
  obtain ⟨e, he, _, rfl⟩ := (hr.h i x (by omega)).1 (by rw [getD_at hi]; exact hx)
  have := (hv.ed e he).2
  omega
theorem liveR_prod {b : Bu} {l : La} (hv : ValidB b) (hl : 0 < l.loop.length) {B : Nat} {nx : List (List Int)} (hr : RowsP (b.states.toNat * l.n) (prodR b.edges l l.n 0) B nx) {v : Nat} : liveR b (prdA l.n (b.states.toNat * l.n)) nx v ↔ LiveG (PE b l) b.sets.length (PM b l) v := by
  have hE : adjE nx = PE b l := by
    funext u v
    refine propext ((hr.adj (fun u y hR => ?_) u v).trans (prod_pe hv))
    have hy : 0 ≤ y := by
      rcases hR with ⟨j, hj, e, he, _, _, h3⟩ | ⟨e, he, _⟩
      · have := (hv.ed e he).2
        rw [h3]
        exact Int.add_nonneg (Int.mul_nonneg (by omega) (by omega)) (by omega)
      · simp at he
    rw [← Int.toNat_of_nonneg hy] at hR
    exact (PE.lt hv hl ((prod_pe (l := l) (u := u) (v := y.toNat) hv).1 hR)).1
  have hM : refM b (prdA l.n (b.states.toNat * l.n)) nx.length = PM b l := by
    funext k u
    apply propext
    unfold refM PM
    rw [hr.l]
    constructor
    · rintro ⟨h1, S, h2, h3⟩; exact ⟨h1, S, h2, by rwa [prdA_get h1] at h3⟩
    · rintro ⟨h1, S, h2, h3⟩; exact ⟨h1, S, h2, by rwa [prdA_get h1]⟩
  unfold liveR
  rw [hE, hM]
theorem prod_ok {b : Bu} {l : La} (hv : ValidB b) (hl : 0 < l.loop.length) {B : Nat} {nx : List (List Int)} (hr : RowsP (b.states.toNat * l.n) (prodR b.edges l l.n 0) B nx) : okRows nx := fun r hrr x hx => by
  obtain ⟨i, hi, rfl⟩ := List.mem_iff_getElem.1 hrr
  have hll := hr.l
  have hR := (hr.h i x (by omega)).1 (by rw [getD_at hi]; exact hx)
  have hx0 : 0 ≤ x := by
    rcases hR with ⟨j, hj, e, he, _, _, h3⟩ | ⟨e, he, _⟩
    · have := (hv.ed e he).2
      rw [h3]
      exact Int.add_nonneg (Int.mul_nonneg (by omega) (by omega)) (by omega)
    · simp at he
  have := (prod_pe (v := x.toNat) hv).1 (by rw [Int.toNat_of_nonneg hx0]; exact hR)
  have := (PE.lt hv hl this).2
  omega
end Go.Lx
