/- Valid or not: what the calls answer, in one form. -/
import Derived.Test.YthfemndklplpbaaDoorTell
import Derived.Test.YthfemndklplpbaaDoorMat
import Derived.Test.YthfemndklplpbaaDoorOrd
import Derived.Test.YthfemndklplpbaaDoorGre
set_option linter.unusedSectionVars false
set_option linter.unusedSimpArgs false
set_option linter.unusedVariables false
set_option linter.unnecessarySimpa false
namespace Go.Lx
open Go.RowKit
set_option linter.unusedVariables false

theorem CallT.addNil {P : Program} {base : World} {f : FuncId} {args : List Value} {O : List Item} {R : Value → List Item → Prop} (E : TypeId) (k : Nat) (h : CallT P base f args O R) : CallT P base f args O (fun v O' => ∃ O2, O' = rowI none 0 E k [] :: O2 ∧ R v O2) :=
  fun w M hI => (h w M hI).mono fun _ _ ⟨v, O', h1, h2, h3⟩ => ⟨v, _, h1, h2.nilRow E k, O', rfl, h3⟩

/-- .. a nil row where nothing is handed back. -/
theorem CallT.nilOr {P : Program} {base : World} {f : FuncId} {args : List Value} {O : List Item} {R : Value → List Item → Prop} (E : TypeId) (k : Nat) (h : CallT P base f args O R) : CallT P base f args O (fun v O' => ∃ O2, ((O2 ≠ [] → O' = O2) ∧ (O2 = [] → O' = [rowI none 0 E k []])) ∧ R v O2) :=
  fun w M hI => (h w M hI).mono fun _ _ ⟨v, O', h1, h2, h3⟩ => by
    cases O' with
    | nil => exact ⟨v, _, h1, h2.nilRow E k, [], ⟨fun h => absurd rfl h, fun _ => rfl⟩, h3⟩
    | cons a l => exact ⟨v, _, h1, h2, a :: l, ⟨fun _ => rfl, fun h => by cases h⟩, h3⟩

/-- What is handed back is forgotten. -/
theorem CallT.none {P : Program} {base : World} {f : FuncId} {args : List Value} {R : Value → List Item → Prop} (h : CallT P base f args [] R) : CallT P base f args [] (fun v O' => O' = [] ∧ ∃ O2, R v O2) :=
  fun w M hI => (h w M hI).mono fun _ _ ⟨v, O', h1, h2, h3⟩ => ⟨v, [], h1, by simpa using h2.subp (Sub.of (List.sublist_append_right O' M)), rfl, O', h3⟩

theorem allN {α : Type} {p : α → Prop} : ∀ q ∈ ([] : List α), p q := fun q h => by cases h
theorem allC {α : Type} {p : α → Prop} {a : α} {l : List α} (h1 : p a) (h2 : ∀ q ∈ l, p q) : ∀ q ∈ a :: l, p q := fun q h => by
  rcases List.mem_cons.1 h with rfl | h
  · exact h1
  · exact h2 q h

/-- The minimal automaton. -/
def minD (d : DFA) : DFA := renum (quo d (itF d d.next.length))
def rndsV (d : DFA) (k : Int) : List Nat := if checkD d = 0 then itF d k.toNat else []
def minV (d : DFA) : DFA := if checkD d = 0 then minD d else ⟨0, 0, [], []⟩

/-- The error of a question about two states. -/
def eD (d : DFA) (s t : Int) : Nat := if checkD d ≠ 0 then checkD d else if s < 0 ∨ t < 0 ∨ (d.next.length : Int) ≤ s ∨ (d.next.length : Int) ≤ t then 8 else 0
def TellA (d : DFA) (s t : Int) (res : Option (List Nat)) : Prop := if eD d s t = 0 then Tell d s.toNat t.toNat res else res = none

theorem eD_zero {d : DFA} {s t : Int} : eD d s t = 0 ↔ Valid d ∧ 0 ≤ s ∧ s < (d.next.length : Int) ∧ 0 ≤ t ∧ t < (d.next.length : Int) := by
  unfold eD
  by_cases h : checkD d = 0
  · rw [if_neg (by simp [h])]
    by_cases h2 : s < 0 ∨ t < 0 ∨ (d.next.length : Int) ≤ s ∨ (d.next.length : Int) ≤ t
    · rw [if_pos h2]; exact ⟨fun h => absurd h (by decide), fun h => by omega⟩
    · rw [if_neg h2]; exact ⟨fun _ => ⟨checkD_zero.1 h, by omega, by omega, by omega, by omega⟩, fun _ => rfl⟩
  · rw [if_pos h]; exact ⟨fun e => absurd e h, fun hh => absurd (checkD_zero.2 hh.1) h⟩

theorem TellA.unique {d : DFA} {s t : Int} {a b : Option (List Nat)} (ha : TellA d s t a) (hb : TellA d s t b) : a = b := by
  unfold TellA at *
  by_cases h : eD d s t = 0
  · rw [if_pos h] at ha hb
    exact Tell.unique (eD_zero.1 h).1 ha hb
  · rw [if_neg h] at ha hb
    rw [ha, hb]

theorem TellA.tell {d : DFA} {s t : Nat} {a : Option (List Nat)} (hv : Valid d) (hs : s < d.next.length) (ht : t < d.next.length) (ha : TellA d s t a) : Tell d s t a := by
  have h : eD d s t = 0 := eD_zero.2 ⟨hv, by omega, by omega, by omega, by omega⟩
  unfold TellA at ha
  rw [if_pos h] at ha
  exact ha

theorem TellA.none {d : DFA} {s t : Int} {a : Option (List Nat)} (h : eD d s t ≠ 0) (ha : TellA d s t a) : a = .none := by
  unfold TellA at ha; rwa [if_neg h] at ha

/-- The shape of Distinguish's answer. -/
def DistV (E : TypeId) (d : DFA) (s t : Int) (v : Value) (N : List Item) : Prop :=
  ∃ res b c, TellA d s t res ∧ v = .tuple #[.slice b (res.getD []).length c, .bool res.isSome, .int .i64 (eD d s t : Int)] ∧ N = [rowI b c E 1 (byts (res.getD []))]

/-! ### the chapter's two examples -/

def oneD : DFA := ⟨1, 0, [[1, 2], [1, 2], [2, 2]], [true, true, false]⟩
def twoD : DFA := ⟨0, 0, [[1], [2], [2]], [false, false, true]⟩

theorem check_one : checkD oneD = 0 := by decide
theorem check_two : checkD twoD = 0 := by decide
theorem one_valid : Valid oneD := checkD_zero.1 check_one
theorem two_valid : Valid twoD := checkD_zero.1 check_two
theorem one_it : itF oneD 3 = [0, 0, 1] := by rw [← labN_itF one_valid]; decide
theorem two_it0 : itF twoD 0 = [0, 0, 1] := by rw [← labN_itF two_valid]; decide
theorem two_it1 : itF twoD 1 = [0, 1, 2] := by rw [← labN_itF two_valid]; decide
theorem one_min : minD oneD = ⟨1, 0, [[0, 1], [1, 1]], [true, false]⟩ := by
  have h : itF oneD oneD.next.length = [0, 0, 1] := one_it
  unfold minD
  rw [h]
  decide
theorem one_tell02 {res : Option (List Nat)} (h : Tell oneD 0 2 res) : res = some [] := h.unique one_valid (b := some []) (least_nil (by decide))
theorem one_tell01 {res : Option (List Nat)} (h : Tell oneD 0 1 res) : res = none := h.unique one_valid (b := none) (tell_none one_valid (by decide) (by decide) (by decide))
theorem two_tell01 {res : Option (List Nat)} (h : Tell twoD 0 1 res) : res = some [0] :=
  h.unique two_valid (b := some [0]) (least_cons two_valid (k := 0) (x := 0) (by decide) (by decide) (by decide) (fun y hy => absurd hy (by omega)) (least_nil (by decide)))

end Go.Lx
