/- Automata in a row, one behind the other; when the statements look away. -/
import Derived.Test.YthfemndklplpbaaDoorAll
set_option linter.unusedSectionVars false
set_option linter.unusedSimpArgs false
set_option linter.unusedVariables false
set_option linter.unnecessarySimpa false
namespace Go.Lx
open Go.RowKit
set_option linter.unusedVariables false

structure DRec where
  d : DFA
  nb : Option Addr
  fb : Option Addr
  nc : Nat
  fc : Nat
  vs : List Value

def DRec.cells (r : DRec) : List Value := dfaCells r.d r.nb r.nc r.fb r.fc
abbrev dcells (L : List DRec) : List Value := L.flatMap DRec.cells

theorem dcells_len : ∀ L : List DRec, (dcells L).length = L.length * 4
  | [] => rfl
  | q :: rs => by
    have := dcells_len rs
    simp only [dcells] at this
    simp only [dcells, List.flatMap_cons, List.length_append, this, List.length_cons, DRec.cells, List.length_nil]
    omega

theorem dcells_get : ∀ {L : List DRec} {i : Nat} (h : i < L.length) {j : Nat}, j < 4 → (dcells L)[i * 4 + j]? = (L[i].cells)[j]?
  | q :: rs, 0, h, j, hj => by
    simp only [dcells, List.flatMap_cons]
    rw [List.getElem?_append_left (by simp [DRec.cells]; omega)]
    simp
  | q :: rs, i + 1, h, j, hj => by
    have ih := dcells_get (L := rs) (i := i) (by simpa using h) hj
    simp only [dcells, List.flatMap_cons]
    rw [List.getElem?_append_right (by simp [DRec.cells]; omega)]
    simp only [dcells] at ih
    rw [show (i + 1) * 4 + j - q.cells.length = i * 4 + j by simp [DRec.cells]; omega, ih]
    simp

def longD (d : DFA) : Bool := decide (40 < d.next.length) || decide (40 < d.final.length) || d.next.any fun r => decide (100 < r.length)

theorem longD_false {d : DFA} (h : ¬ longD d = true) : d.next.length ≤ 40 ∧ d.final.length ≤ 40 ∧ ∀ r ∈ d.next, r.length ≤ 100 := by
  simp only [longD, Bool.or_eq_true, decide_eq_true_eq, List.any_eq_true, not_or, not_exists, not_and] at h
  obtain ⟨⟨h1, h2⟩, h3⟩ := h
  exact ⟨by omega, by omega, fun r hr => by have := h3 r hr; omega⟩

theorem any_take {α : Type} {L : List α} {f : α → Bool} {i : Nat} (hi : i < L.length) (h : (L.take i).any f = false) (h2 : f L[i] = false) : (L.take (i + 1)).any f = false := by
  rw [List.take_succ_eq_append_getElem hi, List.any_append, h]; simp [h2]
theorem any_at {α : Type} {L : List α} {f : α → Bool} {i : Nat} (hi : i < L.length) (h : f L[i] = true) : L.any f = true :=
  List.any_eq_true.2 ⟨_, List.getElem_mem hi, h⟩

/-- The bounds of what Minimize answers. -/
theorem minV_bound (d : DFA) : (minV d).next.length ≤ d.next.length ∧ (minV d).final.length ≤ d.next.length ∧ ∀ r ∈ (minV d).next, r.length ≤ 64 := by
  unfold minV
  by_cases he : checkD d = 0
  · rw [if_pos he]
    have hv := checkD_zero.1 he
    obtain ⟨q1, q2⟩ := quo_itF hv d.next.length
    have ho := order_len q1
    refine ⟨?_, ?_, ?_⟩
    · unfold minD; simp only [renum, List.length_map]; omega
    · unfold minD; simp only [renum, List.length_map]; omega
    · intro r hr
      unfold minD at hr
      rw [renum_next] at hr
      obtain ⟨o, _, rfl⟩ := List.mem_map.1 hr
      rw [List.length_map, renRow_length]
      exact hv.width
  · rw [if_neg he]; exact ⟨Nat.zero_le _, Nat.zero_le _, fun r hr => by cases hr⟩

def oneM : DFA := ⟨1, 0, [[0, 1], [1, 1]], [true, false]⟩
def eqvV (d : DFA) (s t : Int) (res : Option (List Nat)) : Bool := decide (eD d s t = 0) && !res.isSome

end Go.Lx
namespace Go.Lx
theorem castL : ∀ {xs ys : List Nat}, (xs.map fun x : Nat => (x : Int)) = (ys.map fun x : Nat => (x : Int)) → xs = ys
  | [], [], _ => rfl
  | [], _ :: _, h => by simp at h
  | _ :: _, [], h => by simp at h
  | x :: xs, y :: ys, h => by
    simp only [List.map_cons, List.cons.injEq] at h
    have h1 : x = y := by omega
    rw [h1, castL h.2]
end Go.Lx
namespace Go.Lx
/-- A telling word is no longer than there are states. -/
theorem Tell.len {d : DFA} (hv : Valid d) {s t : Nat} (hs : s < d.next.length) (ht : t < d.next.length) {u : List Nat} (h : Tell d s t (some u)) : u.length ≤ d.next.length := by
  have h : IsLeast d s t u := h
  by_cases hd : ∀ j, j ≤ d.next.length → dif d j s t = false
  · exact absurd h.dst (tell_none hv hs ht hd u h.wd)
  · obtain ⟨j, hj⟩ := Classical.not_forall.1 hd
    simp only [Classical.not_imp, Bool.not_eq_false] at hj
    obtain ⟨w, h1, h2, h3⟩ := (dif_iff d j s t).1 hj.2
    have := code_len u w (hv.wd64 h.wd) (hv.wd64 h1) (h.le w h1 h3)
    omega

theorem TellA.len {d : DFA} (hN : Valid d → d.next.length < 100) {s t : Int} {res : Option (List Nat)} (h : TellA d s t res) : (res.getD []).length < 9223372036854775807 := by
  unfold TellA at h
  by_cases h0 : eD d s t = 0
  · rw [if_pos h0] at h
    obtain ⟨hv, h1, h2, h3, h4⟩ := eD_zero.1 h0
    cases res with
    | none => exact (by decide : 0 < 9223372036854775807)
    | some u =>
      have := Tell.len hv (by omega) (by omega) h
      have := hN hv
      show u.length < _
      omega
  · rw [if_neg h0] at h
    subst h
    exact (by decide : 0 < 9223372036854775807)
end Go.Lx
