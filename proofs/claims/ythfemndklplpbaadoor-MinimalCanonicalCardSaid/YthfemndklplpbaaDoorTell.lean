/- The search for a word that tells two states apart: what its memory holds. -/
import Derived.Test.YthfemndklplpbaaDoorBfs
import Derived.Test.YthfemndklplpbaaDoorCoreJ
set_option linter.unusedSectionVars false
set_option linter.unusedSimpArgs false
set_option linter.unusedVariables false
set_option linter.unnecessarySimpa false
namespace Go.Lx
open Go.RowKit
set_option linter.unusedVariables false

def cast2 (p : Nat × Nat) : Int × Int := ((p.1 : Int), (p.2 : Int))

theorem cast2_inj {p q : Nat × Nat} (h : cast2 p = cast2 q) : p = q := by
  obtain ⟨a, b⟩ := p
  obtain ⟨c, e⟩ := q
  simp only [cast2, Prod.mk.injEq] at h ⊢
  omega

/-- What the map of the pairs seen holds. -/
abbrev seenL (A : List Stp) : List ((Int × Int) × Bool) := A.map fun q => (cast2 q.1, true)

theorem look_seen (p : Nat × Nat) : ∀ A : List Stp, lookL (cast2 p) (seenL A) = if p ∈ A.map Prod.fst then some true else none
  | [] => by simp [lookL]
  | q :: A => by
    have ih := look_seen p A
    show (if cast2 p = cast2 q.1 then some true else lookL (cast2 p) (seenL A)) = _
    rw [ih]
    by_cases e : p = q.1
    · subst e; simp
    · rw [if_neg (fun h => e (cast2_inj h))]
      have hm : p ∈ (q :: A).map Prod.fst ↔ p ∈ A.map Prod.fst := by
        rw [List.map_cons, List.mem_cons]
        exact ⟨fun h => h.resolve_left e, .inr⟩
      by_cases h : p ∈ A.map Prod.fst
      · rw [if_pos h, if_pos (hm.2 h)]
      · rw [if_neg h, if_neg (fun hh => h (hm.1 hh))]

theorem look_seenV (p : Nat × Nat) (A : List Stp) : ((lookL (cast2 p) (seenL A)).map Value.bool).getD (.bool false) = .bool (decide (p ∈ A.map Prod.fst)) := by
  rw [look_seen]
  by_cases h : p ∈ A.map Prod.fst
  · rw [if_pos h, decide_eq_true h]; rfl
  · rw [if_neg h, decide_eq_false h]; rfl

theorem seen_fresh {p : Nat × Nat} {A : List Stp} (h : p ∉ A.map Prod.fst) : cast2 p ∉ (seenL A).map Prod.fst := by
  intro hh
  rw [List.map_map] at hh
  obtain ⟨q, hq, e⟩ := List.mem_map.1 hh
  exact h (List.mem_map.2 ⟨q, hq, cast2_inj e⟩)

/-- A step in the queue: its pair, and where its word lies. -/
structure QRec where
  p : Nat × Nat
  b : Option Addr
  c : Nat
  xs : List Nat

def QRec.cells (q : QRec) : List Value := [.int .i64 ((q.p.1 : Nat) : Int), .int .i64 ((q.p.2 : Nat) : Int), .slice q.b q.xs.length q.c]
def QRec.itm (E : TypeId) (q : QRec) : Item := rowI q.b q.c E 1 (byts q.xs)
def QRec.stp (q : QRec) : Stp := (q.p, q.xs)
abbrev qcells (rs : List QRec) : List Value := rs.flatMap QRec.cells
abbrev qitms (E : TypeId) (rs : List QRec) : List Item := rs.map (QRec.itm E)

theorem qcells_len : ∀ rs : List QRec, (qcells rs).length = rs.length * 3
  | [] => rfl
  | q :: rs => by
    have := qcells_len rs
    simp only [qcells] at this
    simp only [qcells, List.flatMap_cons, List.length_append, this, List.length_cons, QRec.cells, List.length_nil]
    omega

theorem runN_lt {d : DFA} (hv : Valid d) {s : Nat} (hs : s < d.next.length) : ∀ w, Wd d w → runN d s w < d.next.length := by
  refine snocInd (fun _ => hs) ?_
  intro w x ih hw
  rw [runN_snoc]
  exact (hv.toN_lt (ih fun y hy => hw y (by simp [hy])) (hw x (by simp))).1

theorem pairs_bound {n : Nat} {A : List Stp} (hnd : (A.map Prod.fst).Nodup) (hb : ∀ q ∈ A, q.1.1 < n ∧ q.1.2 < n) : A.length ≤ n * n := by
  have h := nodup_bound (n := n * n) (l := A.map fun q => q.1.1 * n + q.1.2) ?_ ?_
  · simpa using h
  · have hinj : ∀ a ∈ A.map Prod.fst, ∀ b ∈ A.map Prod.fst, a.1 * n + a.2 = b.1 * n + b.2 → a = b := by
      intro a ha b hb' e
      obtain ⟨qa, hqa, rfl⟩ := List.mem_map.1 ha
      obtain ⟨qb, hqb, rfl⟩ := List.mem_map.1 hb'
      obtain ⟨a1, a2⟩ := hb qa hqa
      obtain ⟨b1, b2⟩ := hb qb hqb
      have h1 : qa.1.1 = qb.1.1 := by
        have up : ∀ u v : Nat, u < v → u * n + n ≤ v * n := fun u v h => by
          have := Nat.mul_le_mul_right n (show u + 1 ≤ v from h)
          rwa [Nat.add_mul, Nat.one_mul] at this
        rcases Nat.lt_trichotomy qa.1.1 qb.1.1 with h | h | h
        · have := up _ _ h; omega
        · exact h
        · have := up _ _ h; omega
      have h2 : qa.1.2 = qb.1.2 := by rw [h1] at e; omega
      exact Prod.ext h1 h2
    have key : ∀ l : List (Nat × Nat), l.Nodup → (∀ a ∈ l, ∀ b ∈ l, a.1 * n + a.2 = b.1 * n + b.2 → a = b) → (l.map fun q => q.1 * n + q.2).Nodup := by
      intro l
      induction l with
      | nil => intro _ _; exact List.nodup_nil
      | cons a l ih =>
        intro hn hi
        obtain ⟨h1, h2⟩ := List.nodup_cons.1 hn
        rw [List.map_cons, List.nodup_cons]
        refine ⟨fun hm => ?_, ih h2 fun x hx y hy => hi x (by simp [hx]) y (by simp [hy])⟩
        obtain ⟨y, hy, e⟩ := List.mem_map.1 hm
        have := hi a (by simp) y (by simp [hy]) e.symm
        exact h1 (this ▸ hy)
    have := key _ hnd hinj
    rwa [List.map_map] at this
  · intro x hx
    obtain ⟨q, hq, rfl⟩ := List.mem_map.1 hx
    obtain ⟨h1, h2⟩ := hb q hq
    have : q.1.1 * n + n ≤ n * n := by
      have := Nat.mul_le_mul_right n (show q.1.1 + 1 ≤ n from h1)
      rwa [Nat.add_mul, Nat.one_mul] at this
    show q.1.1 * n + q.1.2 < n * n
    omega

theorem pushN_wlen {d : DFA} {q : Stp} {m : Nat} (hq : q.2.length ≤ m) {A : List Stp} (h : ∀ r ∈ A, r.2.length ≤ m) : ∀ x, ∀ r ∈ pushN d q A x, r.2.length ≤ m + 1
  | 0, r, hr => by have := h r hr; omega
  | x + 1, r, hr => by
    rw [pushN, pushS] at hr
    split at hr
    · exact pushN_wlen hq h x r hr
    · rcases List.mem_append.1 hr with hr | hr
      · exact pushN_wlen hq h x r hr
      · rw [List.mem_singleton.1 hr]; simp; omega

theorem bq_wlen (d : DFA) (s t : Nat) : ∀ i, ∀ r ∈ bq d s t i, r.2.length ≤ i
  | 0, r, hr => by simp only [bq, List.mem_singleton] at hr; subst hr; simp
  | i + 1, r, hr => by
    rw [bq] at hr
    refine pushN_wlen ?_ (bq_wlen d s t i) _ r hr
    rw [List.getD_eq_getElem?_getD]
    cases e : (bq d s t i)[i]? with
    | none => simp
    | some p => exact bq_wlen d s t i p (List.mem_of_getElem? e)

/-- What the walk asks of the steps queued so far. -/
theorem mid_ok {d : DFA} (hv : Valid d) {s t i : Nat} (hs : s < d.next.length) (ht : t < d.next.length) {q : Stp} (hj : ∀ j, j < i → ∃ q, (bq d s t j)[j]? = some q ∧ finN d q.1.1 = finN d q.1.2) (hq : (bq d s t i)[i]? = some q) {x : Nat} (hx : x ≤ letN d) :
    (pushN d q (bq d s t i) x).length ≤ d.next.length * d.next.length ∧ q.1.1 < d.next.length ∧ q.1.2 < d.next.length ∧ q.2.length ≤ i ∧ i < d.next.length * d.next.length ∧ i < (pushN d q (bq d s t i) x).length := by
  have hm := (bq_inv hv i hj).mid hq x hx
  have hb : ∀ r ∈ pushN d q (bq d s t i) x, r.1.1 < d.next.length ∧ r.1.2 < d.next.length := fun r hr => by
    obtain ⟨h1, h2⟩ := hm.run r hr
    rw [h2]; exact ⟨runN_lt hv hs _ h1, runN_lt hv ht _ h1⟩
  have hl := pairs_bound hm.nd hb
  have hil := (List.getElem?_eq_some_iff.1 hm.at_).1
  have := hb q (List.mem_of_getElem? hm.at_)
  exact ⟨hl, this.1, this.2, bq_wlen d s t i q (List.mem_of_getElem? hq), by omega, hil⟩

theorem bq_succ {d : DFA} {s t i : Nat} {q : Stp} (hq : (bq d s t i)[i]? = some q) : bq d s t (i + 1) = pushN d q (bq d s t i) (letN d) := by
  rw [bq, List.getD_eq_getElem?_getD, hq]; rfl

end Go.Lx
namespace Go.Lx
open Go.RowKit
/-- What Distinguish returns for what it has found. -/
def TellV (E : TypeId) (v : Value) (N : List Item) : Option (List Nat) → Prop
  | some u => ∃ b c, v = .tuple #[.slice b u.length c, .bool true, .int .i64 0] ∧ N = [rowI b c E 1 (byts u)]
  | none => v = .tuple #[.slice none 0 0, .bool false, .int .i64 0] ∧ N = []
end Go.Lx
