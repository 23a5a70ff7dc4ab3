/- Tables of bools: slices of slices that the call made. -/
import Derived.Test.YthfemndklplpbaaDoorLaw2
import Derived.Test.YthfemndklplpbaaDoorCoreJ
set_option linter.unusedSectionVars false
set_option linter.unusedSimpArgs false
set_option linter.unusedVariables false
set_option linter.unnecessarySimpa false
namespace Go.Lx
open Go.RowKit
set_option linter.unusedVariables false

structure BRec where
  b : Option Addr
  c : Nat
  xs : List Bool

def BRec.val (q : BRec) : Value := .slice q.b q.xs.length q.c
def BRec.itm (E : TypeId) (q : BRec) : Item := rowI q.b q.c E 1 (bools q.xs)
abbrev bvals (qs : List BRec) : List Value := qs.map BRec.val
abbrev bitms (E : TypeId) (qs : List BRec) : List Item := qs.map (BRec.itm E)

/-- The first t entries as f says, the others false. -/
def fillB (f : Nat → Bool) (n t : Nat) : List Bool := (List.range n).map fun i => if i < t then f i else false

theorem fillB_length (f : Nat → Bool) (n t : Nat) : (fillB f n t).length = n := by simp [fillB]
theorem fillB_get {f : Nat → Bool} {n t i : Nat} (h : i < n) : (fillB f n t)[i]? = some (if i < t then f i else false) := by simp [fillB, h]
theorem fillB_zero (f : Nat → Bool) (n : Nat) : fillB f n 0 = List.replicate n false := by
  apply List.ext_getElem?
  intro i
  by_cases h : i < n
  · rw [fillB_get h]; simp [h]
  · rw [List.getElem?_eq_none (by rw [fillB_length]; omega), List.getElem?_eq_none (by simp; omega)]
theorem fillB_set {f : Nat → Bool} {n t : Nat} {v : Bool} (h : t < n) (hv : v = f t) : (fillB f n t).set t v = fillB f n (t + 1) := by
  subst hv
  apply List.ext_getElem?
  intro i
  by_cases hi : i < n
  · rw [fillB_get hi]
    by_cases e : i = t
    · subst e; rw [List.getElem?_set_self (by rw [fillB_length]; exact hi)]; simp
    · rw [List.getElem?_set_ne (fun h => e h.symm), fillB_get hi]
      congr 1
      by_cases h2 : i < t
      · rw [if_pos h2, if_pos (by omega)]
      · rw [if_neg h2, if_neg (by omega)]
  · rw [List.getElem?_eq_none (by rw [List.length_set, fillB_length]; omega), List.getElem?_eq_none (by rw [fillB_length]; omega)]
theorem fillB_full (f : Nat → Bool) (n : Nat) : fillB f n n = (List.range n).map f := by
  apply List.map_congr_left
  intro i hi
  rw [if_pos (List.mem_range.1 hi)]

/-- One row, and all rows, of the table of pairs. -/
def difRow (d : DFA) (k s : Nat) : List Bool := (List.range d.next.length).map (dif d k s)
def MatOk (d : DFA) (k m : Nat) (qs : List BRec) : Prop := qs.map BRec.xs = (List.range m).map (difRow d k)

theorem difRow_length (d : DFA) (k s : Nat) : (difRow d k s).length = d.next.length := by simp [difRow]

theorem MatOk.len {d : DFA} {k m : Nat} {qs : List BRec} (h : MatOk d k m qs) : qs.length = m := by
  have := congrArg List.length h
  simpa using this

theorem MatOk.get {d : DFA} {k m : Nat} {qs : List BRec} (h : MatOk d k m qs) {a : Nat} (ha : a < m) :
    ∃ q, q ∈ qs ∧ (bvals qs)[a]? = some (.slice q.b d.next.length q.c) ∧ (bools q.xs).length = d.next.length ∧ ∀ t, t < d.next.length → (bools q.xs)[t]? = some (.bool (dif d k a t)) := by
  have hl := h.len
  have ha' : a < qs.length := by omega
  have e : qs[a].xs = difRow d k a := by
    have := congrArg (fun l => l[a]?) h
    simp only [List.getElem?_map, List.getElem?_eq_getElem ha', Option.map_some, List.getElem?_range ha] at this
    exact Option.some.inj this
  refine ⟨qs[a], List.getElem_mem ha', ?_, ?_, ?_⟩
  · rw [List.getElem?_map, List.getElem?_eq_getElem ha', Option.map_some, BRec.val, e, difRow_length]
  · rw [List.length_map, e, difRow_length]
  · intro t ht
    rw [List.getElem?_map, e, difRow, List.getElem?_map, List.getElem?_range ht]; rfl

theorem MatOk.snoc {d : DFA} {k m : Nat} {qs : List BRec} (h : MatOk d k m qs) {b : Option Addr} {c : Nat} : MatOk d k (m + 1) (qs ++ [⟨b, c, difRow d k m⟩]) := by
  unfold MatOk at *
  rw [List.map_append, h, List.range_succ, List.map_append]; rfl

/-- The first hole of a table under way. -/
theorem hole_set {l : List Value} {s n : Nat} {z v : Value} (hl : l.length = s) (hs : s < n) : (l ++ List.replicate (n - s) z).set s v = l ++ v :: List.replicate (n - (s + 1)) z := by
  rw [List.set_append_right _ _ (by omega), hl, Nat.sub_self, show n - s = (n - (s + 1)) + 1 by omega, List.replicate_succ]; rfl
theorem hole_get {l r : List Value} {s : Nat} {v : Value} (hl : l.length = s) : (l ++ v :: r)[s]? = some v := by
  rw [List.getElem?_append_right (by omega), hl, Nat.sub_self]; rfl

/-- The reference's numbers, and how many there are, of the first s states. -/
def labD (d : DFA) (k s : Nat) : List Nat × Nat := labN (fun s t => !dif d k s t) s

theorem labD_len (d : DFA) (k : Nat) : ∀ s, (labD d k s).1.length = s ∧ (labD d k s).2 ≤ s
  | 0 => ⟨rfl, Nat.le_refl _⟩
  | s + 1 => by
    obtain ⟨h1, h2⟩ := labD_len d k s
    unfold labD at *
    rw [labN]
    split
    · exact ⟨by simp [h1], by simp only; omega⟩
    · exact ⟨by simp [h1], by simp only; omega⟩

theorem labD_old {d : DFA} {k s t : Nat} (hts : t < s) (h : ∀ t', t' < t → dif d k s t' = true) (ht : dif d k s t = false) : labD d k (s + 1) = ((labD d k s).1 ++ [(labD d k s).1.getD t 0], (labD d k s).2) := by
  have hf : first ((fun s t => !dif d k s t) s) s = t := first_eq (by omega) (fun _ => by simp [ht]) (fun t' h' => by simp [h t' h'])
  unfold labD
  rw [labN, hf, if_pos hts]

theorem labD_new {d : DFA} {k s : Nat} (h : ∀ t', t' < s → dif d k s t' = true) : labD d k (s + 1) = ((labD d k s).1 ++ [(labD d k s).2], (labD d k s).2 + 1) := by
  have hf : first ((fun s t => !dif d k s t) s) s = s := first_eq (Nat.le_refl _) (fun h => absurd h (by omega)) (fun t' h' => by simp [h t' h'])
  unfold labD
  rw [labN, hf, if_neg (by omega)]

theorem labD_itF {d : DFA} (hv : Valid d) (k : Nat) : (labD d (min k d.next.length) d.next.length).1 = itF d k := by
  show (labN _ _).1 = _
  rw [labN_itF hv]
  by_cases h : k ≤ d.next.length
  · rw [Nat.min_eq_left h]
  · rw [Nat.min_eq_right (by omega), itF_stab hv k (by omega)]

theorem any_snoc (f : Nat → Bool) (x : Nat) : (List.range (x + 1)).any f = ((List.range x).any f || f x) := by
  rw [List.range_succ, List.any_append]; simp

end Go.Lx
