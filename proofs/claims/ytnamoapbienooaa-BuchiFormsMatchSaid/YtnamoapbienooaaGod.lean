/- Contracts of functions of the program (God): what each call answers and that it leaves memory as it was. Conditions: those each theorem names. -/
import Derived.Test.YtnamoapbienooaaEndB
set_option linter.unusedSectionVars false
set_option linter.unusedSimpArgs false
set_option linter.unusedVariables false
set_option linter.unnecessarySimpa false
namespace Go.Lx
open Go.RowKit
set_option linter.unusedVariables false
structure BR where
  b : Option Addr
  c : Nat
  xs : List Bool
def BR.val (q : BR) : Value := .slice q.b q.xs.length q.c
def BR.itm (E : TypeId) (q : BR) : Item := rowI q.b q.c E 1 (bools q.xs)
abbrev bvs (qs : List BR) : List Value := qs.map BR.val
abbrev bis (E : TypeId) (qs : List BR) : List Item := qs.map (BR.itm E)
theorem bvs_at {qs : List BR} {c : Nat} (h : c < qs.length) : (bvs qs)[c]? = some (.slice qs[c].b qs[c].xs.length qs[c].c) := by simp [h, BR.val]
theorem bis_at {E : TypeId} {qs : List BR} {c : Nat} (h : c < qs.length) {X : List Item} : rowI qs[c].b qs[c].c E 1 (bools qs[c].xs) ∈ X ++ bis E qs := List.mem_append_right _ (List.mem_map.2 ⟨qs[c], List.getElem_mem h, rfl⟩)
theorem fill_row {A : List Value} {n k : Nat} {z v : Value} (hA : A.length = k) (hk : k < n) : putL (A ++ List.replicate (n - k) z) k [v] = (A ++ [v]) ++ List.replicate (n - (k + 1)) z := by
  show (A ++ List.replicate (n - k) z).set k v = _
  rw [List.set_append, if_neg (by omega), hA, Nat.sub_self, show n - k = (n - (k + 1)) + 1 by omega, List.replicate_succ, List.set_cons_zero, List.append_assoc]
  rfl
theorem bvs_fill {qs : List BR} {n k : Nat} {b : Option Addr} {c : Nat} {rs : List Bool} {z : Value} (hA : qs.length = k) (hk : k < n) : putL (bvs qs ++ List.replicate (n - k) z) k [.slice b rs.length c] = (bvs (qs ++ [⟨b, c, rs⟩])) ++ List.replicate (n - (k + 1)) z := by
  rw [fill_row (by simpa using hA) hk]; simp [bvs, BR.val]
def RP (E : Nat → Nat → Prop) (v x : Nat) : Prop := ∃ u, E v u ∧ Rch E u x
structure AllP (nx : List (List Int)) (k : Nat) (qs : List BR) : Prop where
  l : qs.length = k
  h : ∀ i (h : i < qs.length), qs[i].xs.length = nx.length ∧ ∀ x, x < nx.length → (qs[i].xs.getD x false = true ↔ RP (adjE nx) i x)
theorem AllP.snoc {nx : List (List Int)} {k : Nat} {qs : List BR} (h : AllP nx k qs) {b : Option Addr} {c : Nat} {rs : List Bool} (hl : rs.length = nx.length) (hr : ∀ x, x < nx.length → (rs.getD x false = true ↔ RP (adjE nx) k x)) : AllP nx (k + 1) (qs ++ [⟨b, c, rs⟩]) := by
  have hl9 := h.l
  refine ⟨by simp [h.l], fun i hi => ?_⟩
  by_cases e : i < qs.length
  · rw [List.getElem_append_left e]; exact h.h i e
  · have : i = k := by rw [List.length_append, List.length_singleton] at hi; omega
    subst this
    rw [List.getElem_append_right (by omega)]
    simp only [hl9, Nat.sub_self, List.getElem_cons_zero]
    exact ⟨hl, hr⟩
theorem AllP.ln {nx : List (List Int)} {k : Nat} {qs : List BR} (h : AllP nx k qs) {i : Nat} (hi : i < qs.length) : qs[i].xs.length = nx.length := (h.h i hi).1
theorem AllP.at {nx : List (List Int)} {k : Nat} {qs : List BR} (h : AllP nx k qs) {i x : Nat} (hi : i < qs.length) (hx : x < qs[i].xs.length) : qs[i].xs[x] = true ↔ RP (adjE nx) i x := by
  have h1 := h.h i hi
  rw [← h1.2 x (by rw [← h1.1]; exact hx), gb hx]
section
variable {E : Nat → Nat → Prop} {M : Nat → Nat → Prop} {m : Nat}
def HasK (E : Nat → Nat → Prop) (M : Nat → Nat → Prop) (v k x : Nat) : Prop := M k x ∧ (x = v ∨ RP E v x ∧ RP E x v)
theorem RP.rch {u v : Nat} (h : RP E u v) : Rch E u v := by obtain ⟨x, h1, h2⟩ := h; exact .step h1 h2
theorem rch_rp {u v : Nat} (h : Rch E u v) : u = v ∨ RP E u v := by
  cases h with
  | refl => exact .inl rfl
  | step e h => exact .inr ⟨_, e, h⟩
theorem core_rp {v : Nat} : Core E m M v ↔ RP E v v ∧ ∀ k, k < m → ∃ x, HasK E M v k x := by
  unfold Core
  constructor
  · rintro ⟨h1, h2⟩
    refine ⟨h1, fun k hk => ?_⟩
    obtain ⟨u, h3, h4, h5⟩ := h2 k hk
    refine ⟨u, h3, ?_⟩
    rcases rch_rp h4 with e | e
    · exact .inl e.symm
    · rcases rch_rp h5 with e2 | e2
      · exact .inl e2
      · exact .inr ⟨e, e2⟩
  · rintro ⟨h1, h2⟩
    refine ⟨h1, fun k hk => ?_⟩
    obtain ⟨u, h3, h4⟩ := h2 k hk
    rcases h4 with rfl | ⟨h4, h5⟩
    · exact ⟨u, h3, .refl _, .refl _⟩
    · exact ⟨u, h3, h4.rch, h5.rch⟩
theorem live_rp {v : Nat} : LiveG E m M v ↔ Core E m M v ∨ ∃ x, RP E v x ∧ Core E m M x := by
  unfold LiveG
  constructor
  · rintro ⟨u, h1, h2⟩
    rcases rch_rp h1 with rfl | e
    · exact .inl h2
    · exact .inr ⟨u, e, h2⟩
  · rintro (h | ⟨x, h1, h2⟩)
    · exact ⟨v, .refl _, h⟩
    · exact ⟨x, h1.rch, h2⟩
end
def refM (b : Bu) (sa : List Nat) (n : Nat) (k u : Nat) : Prop := u < n ∧ ∃ S, b.sets[k]? = some S ∧ ((sa.getD u 0 : Nat) : Int) ∈ S
theorem RP.lt {nx : List (List Int)} (hok : okRows nx) {u v : Nat} (h : RP (adjE nx) u v) : v < nx.length := by
  obtain ⟨x, h1, h2⟩ := h
  have h3 := (adjE_lt hok h1).2
  clear h1
  induction h2 with
  | refl => exact h3
  | step e h ih => exact ih (adjE_lt hok e).2
section
variable {b : Bu} {sa : List Nat} {nx : List (List Int)} {qs : List BR}
abbrev coreR (b : Bu) (sa : List Nat) (nx : List (List Int)) (v : Nat) : Prop := Core (adjE nx) b.sets.length (refM b sa nx.length) v
abbrev liveR (b : Bu) (sa : List Nat) (nx : List (List Int)) (v : Nat) : Prop := LiveG (adjE nx) b.sets.length (refM b sa nx.length) v
def FoP (b : Bu) (sa : List Nat) (nx : List (List Int)) (v i u : Nat) (fo : Bool) : Prop := fo = true ↔ ∃ x, x < u ∧ HasK (adjE nx) (refM b sa nx.length) v i x
theorem FoP.start {v i : Nat} : FoP b sa nx v i 0 false := ⟨fun h => (by cases h), fun ⟨x, h, _⟩ => by omega⟩
theorem has_iff (ha : AllP nx nx.length qs) (hsl : sa.length = nx.length) {v i u : Nat} (hv : v < qs.length) (hu : u < qs.length) (hi : i < b.sets.length) (h1 : u < qs[v].xs.length) (h2 : v < qs[u].xs.length) (h3 : u < sa.length) : HasK (adjE nx) (refM b sa nx.length) v i u ↔ ((sa[u] : Nat) : Int) ∈ b.sets[i] ∧ (u = v ∨ (qs[v].xs[u] = true ∧ qs[u].xs[v] = true)) := by
  unfold HasK refM
  rw [ha.at hv h1, ha.at hu h2, List.getElem?_eq_getElem hi, gd h3]
  constructor
  · rintro ⟨⟨_, S, h, h4⟩, h5⟩; cases h; exact ⟨h4, h5⟩
  · rintro ⟨h4, h5⟩; exact ⟨⟨by omega, _, rfl, h4⟩, h5⟩
theorem FoP.step {v i u : Nat} {fo fo' : Bool} (h : FoP b sa nx v i u fo) (hf : ¬ fo = true) (hn : fo' = true ↔ HasK (adjE nx) (refM b sa nx.length) v i u) : FoP b sa nx v i (u + 1) fo' := by
  unfold FoP at h ⊢
  rw [hn]
  constructor
  · intro q; exact ⟨u, by omega, q⟩
  · rintro ⟨x, h1, h2⟩
    by_cases e : x = u
    · subst e; exact h2
    · exact absurd (h.2 ⟨x, by omega, h2⟩) hf
theorem FoP.done {v i u : Nat} {fo : Bool} (h : FoP b sa nx v i u fo) (he : fo = true ∨ nx.length ≤ u) : fo = true ↔ ∃ x, HasK (adjE nx) (refM b sa nx.length) v i x := by
  constructor
  · intro q; obtain ⟨x, _, h2⟩ := h.1 q; exact ⟨x, h2⟩
  · rintro ⟨x, h2⟩
    rcases he with he | he
    · exact he
    · exact h.2 ⟨x, by have := h2.1.1; omega, h2⟩
def CoP (b : Bu) (sa : List Nat) (nx : List (List Int)) (v i : Nat) (co : Bool) : Prop := co = true ↔ RP (adjE nx) v v ∧ ∀ k, k < i → ∃ x, HasK (adjE nx) (refM b sa nx.length) v k x
theorem CoP.start {v : Nat} {c : Bool} (h : c = true ↔ RP (adjE nx) v v) : CoP b sa nx v 0 c := h.trans ⟨fun q => ⟨q, fun k hk => by omega⟩, fun q => q.1⟩
theorem CoP.step {v i : Nat} {co fo : Bool} (h : CoP b sa nx v i co) (hc : co = true) (hf : fo = true ↔ ∃ x, HasK (adjE nx) (refM b sa nx.length) v i x) : CoP b sa nx v (i + 1) fo := by
  have h1 := h.1 hc
  unfold CoP
  rw [hf]
  constructor
  · intro q
    refine ⟨h1.1, fun k hk => ?_⟩
    by_cases e : k = i
    · subst e; exact q
    · exact h1.2 k (by omega)
  · intro q; exact q.2 i (by omega)
theorem CoP.done {v i : Nat} {co : Bool} (h : CoP b sa nx v i co) (hi : i ≤ b.sets.length) (he : ¬ co = true ∨ b.sets.length ≤ i) : co = true ↔ coreR b sa nx v := by
  unfold coreR
  rw [core_rp]
  constructor
  · intro q
    obtain ⟨h1, h2⟩ := h.1 q
    refine ⟨h1, fun k hk => h2 k ?_⟩
    rcases he with he | he
    · exact absurd q he
    · omega
  · rintro ⟨h1, h2⟩; exact h.2 ⟨h1, fun k hk => h2 k (by omega)⟩
def LiP (b : Bu) (sa : List Nat) (nx : List (List Int)) (v u : Nat) (li : Bool) : Prop := li = true ↔ coreR b sa nx v ∨ ∃ x, x < u ∧ RP (adjE nx) v x ∧ coreR b sa nx x
theorem LiP.start {v : Nat} {c : Bool} (h : c = true ↔ coreR b sa nx v) : LiP b sa nx v 0 c := h.trans ⟨.inl, fun q => q.elim id (fun ⟨x, h, _⟩ => by omega)⟩
theorem LiP.step {v u : Nat} {li li' : Bool} (h : LiP b sa nx v u li) (hf : ¬ li = true) (hn : li' = true ↔ RP (adjE nx) v u ∧ coreR b sa nx u) : LiP b sa nx v (u + 1) li' := by
  unfold LiP at h ⊢
  rw [hn]
  constructor
  · intro q; exact .inr ⟨u, by omega, q⟩
  · rintro (q | ⟨x, h1, h2⟩)
    · exact absurd (h.2 (.inl q)) hf
    · by_cases e : x = u
      · subst e; exact h2
      · exact absurd (h.2 (.inr ⟨x, by omega, h2⟩)) hf
theorem LiP.done (hok : okRows nx) {v u : Nat} {li : Bool} (h : LiP b sa nx v u li) (he : li = true ∨ nx.length ≤ u) : li = true ↔ liveR b sa nx v := by
  unfold liveR
  rw [live_rp]
  constructor
  · intro q; exact (h.1 q).imp id (fun ⟨x, _, h2⟩ => ⟨x, h2⟩)
  · intro q
    rcases he with he | he
    · exact he
    · exact h.2 (q.imp id (fun ⟨x, h1, h2⟩ => ⟨x, by have := h1.lt hok; omega, h1, h2⟩))
def TabP (n k : Nat) (P : Nat → Prop) (cs : List Bool) : Prop := cs.length = n ∧ ∀ v, v < k → (cs.getD v false = true ↔ P v)
theorem TabP.start {n : Nat} {P : Nat → Prop} : TabP n 0 P (List.replicate n false) := ⟨by simp, fun v h => by omega⟩
theorem TabP.step {n k : Nat} {P : Nat → Prop} {cs : List Bool} (h : TabP n k P cs) (hk : k < n) {c : Bool} (hc : c = true ↔ P k) : TabP n (k + 1) P (cs.set k c) := by
  refine ⟨by simp [h.1], fun v hv => ?_⟩
  rw [getB_set (by rw [h.1]; exact hk)]
  by_cases e : v = k
  · subst e; rw [if_pos rfl]; exact hc
  · rw [if_neg e]; exact h.2 v (by omega)
theorem TabP.at {n k : Nat} {P : Nat → Prop} {cs : List Bool} (h : TabP n k P cs) {v : Nat} (hv : v < k) (hl : v < cs.length) : cs[v] = true ↔ P v := by rw [← h.2 v hv, gb hl]
end
end Go.Lx

