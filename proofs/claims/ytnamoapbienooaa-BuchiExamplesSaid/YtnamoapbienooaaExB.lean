/- Contracts of functions of the program (ExB): what each call answers and that it leaves memory as it was. Conditions: those each theorem names. -/
import Derived.Test.YtnamoapbienooaaEndB
import Derived.Test.YtnamoapbienooaaUni2
import Derived.Test.YtnamoapbienooaaInt
import Derived.Test.YtnamoapbienooaaDeg
set_option linter.unusedSectionVars false
set_option linter.unusedSimpArgs false
set_option linter.unusedVariables false
set_option linter.unnecessarySimpa false
namespace Go.Lx
set_option linter.unusedVariables false
def badB (v s : Int) : Bu := ⟨v, s, [], [], []⟩
def edgB (e : Ed) : Bu := ⟨1, 2, [0], [⟨0, 0, 0, 0⟩, ⟨0, 1, 1, 0⟩, ⟨1, 1, 1, 0⟩] ++ [e], [[1]]⟩
def thrB : Bu := ⟨1, 2, [0], [⟨0, 0, 0, 0⟩, ⟨0, 1, 1, 0⟩, ⟨1, 1, 1, 0⟩], [[0], [1], [0, 1]]⟩
def be0 : Bu := ⟨-1, -1, [], [], []⟩
def be1 : Bu := ⟨7, 0, [], [], []⟩
def be2 : Bu := ⟨0, -1, [], [], []⟩
def be3 : Bu := ⟨6, 4097, [], [], []⟩
def be4 : Bu := ⟨6, 4096, [], [], []⟩
def be5 : Bu := ⟨0, 0, [0], [], [[], [], [], [], [], [], [], [], []]⟩
def be6 : Bu := ⟨0, 0, [0], [], []⟩
def be7 : Bu := ⟨0, 2, [1, 0], [], []⟩
def be8 : Bu := ⟨0, 2, [1, 1], [], []⟩
def be9 : Bu := ⟨0, 2, [], [], [[], [2]]⟩
def be10 : Bu := edgB ⟨2, 0, 2, 0⟩
def be11 : Bu := edgB ⟨0, -1, 0, 0⟩
def be12 : Bu := edgB ⟨0, 0, 2, 0⟩
def be13 : Bu := edgB ⟨0, 0, 0, 2⟩
def be14 : Bu := edgB ⟨0, 0, 1, 1⟩
def be15 : Bu := alwB
def be16 : Bu := ⟨0, 0, [], [], []⟩
def beF : Bu := edgB ⟨9, 0, 0, 0⟩
theorem ec0 : checkB be0 = 7 := by decide +kernel
theorem ec1 : checkB be1 = 7 := by decide +kernel
theorem ec2 : checkB be2 = 1 := by decide +kernel
theorem ec3 : checkB be3 = 10 := by decide +kernel
theorem ec4 : checkB be4 = 0 := by decide +kernel
theorem ec5 : checkB be5 = 4 := by decide +kernel
theorem ec6 : checkB be6 = 8 := by decide +kernel
theorem ec7 : checkB be7 = 8 := by decide +kernel
theorem ec8 : checkB be8 = 8 := by decide +kernel
theorem ec9 : checkB be9 = 8 := by decide +kernel
theorem ec10 : checkB be10 = 8 := by decide +kernel
theorem ec11 : checkB be11 = 8 := by decide +kernel
theorem ec12 : checkB be12 = 1 := by decide +kernel
theorem ec13 : checkB be13 = 1 := by decide +kernel
theorem ec14 : checkB be14 = 1 := by decide +kernel
theorem ec15 : checkB be15 = 0 := by decide +kernel
theorem ec16 : checkB be16 = 0 := by decide +kernel
theorem eaA : accE alwB ⟨[], []⟩ = 3 := by decide +kernel
theorem eaB : accE beF ⟨[], []⟩ = 8 := by decide +kernel
theorem eaC : accE alwB ⟨[], [2]⟩ = 1 := by decide +kernel
theorem euD : unE alwB be16 = 7 := by decide +kernel
theorem eiE : inE (badB 9 0) (badB 0 (-1)) = 7 := by decide +kernel
theorem euF : unE (badB 1 4096) alwB = 10 := by decide +kernel
theorem eiG : inE (badB 1 4000) alwB = 10 := by decide +kernel
theorem edH : degE (badB 1 3) = 0 ∧ (dgB (badB 1 3)).sets = [[0, 1, 2]] := by decide +kernel
theorem edT : degE thrB = 0 ∧ (dgB thrB).states = 6 ∧ (dgB thrB).edges = [⟨0, 2, 0, 0⟩, ⟨0, 3, 1, 0⟩, ⟨1, 1, 1, 0⟩, ⟨2, 2, 0, 0⟩, ⟨2, 3, 1, 0⟩, ⟨3, 5, 1, 0⟩, ⟨4, 0, 0, 0⟩, ⟨4, 1, 1, 0⟩, ⟨5, 1, 1, 0⟩] ∧ (dgB thrB).sets = [[4, 5]] := by decide +kernel
theorem eb0 : BuB be0 := ⟨by decide, by decide, by decide, by decide, by decide⟩
theorem eb1 : BuB be1 := ⟨by decide, by decide, by decide, by decide, by decide⟩
theorem eb2 : BuB be2 := ⟨by decide, by decide, by decide, by decide, by decide⟩
theorem eb3 : BuB be3 := ⟨by decide, by decide, by decide, by decide, by decide⟩
theorem eb4 : BuB be4 := ⟨by decide, by decide, by decide, by decide, by decide⟩
theorem eb5 : BuB be5 := ⟨by decide, by decide, by decide, by decide, by decide⟩
theorem eb6 : BuB be6 := ⟨by decide, by decide, by decide, by decide, by decide⟩
theorem eb7 : BuB be7 := ⟨by decide, by decide, by decide, by decide, by decide⟩
theorem eb8 : BuB be8 := ⟨by decide, by decide, by decide, by decide, by decide⟩
theorem eb9 : BuB be9 := ⟨by decide, by decide, by decide, by decide, by decide⟩
theorem eb10 : BuB be10 := ⟨by decide, by decide, by decide, by decide, by decide⟩
theorem eb11 : BuB be11 := ⟨by decide, by decide, by decide, by decide, by decide⟩
theorem eb12 : BuB be12 := ⟨by decide, by decide, by decide, by decide, by decide⟩
theorem eb13 : BuB be13 := ⟨by decide, by decide, by decide, by decide, by decide⟩
theorem eb14 : BuB be14 := ⟨by decide, by decide, by decide, by decide, by decide⟩
theorem eb15 : BuB be15 := ⟨by decide, by decide, by decide, by decide, by decide⟩
theorem eb16 : BuB be16 := ⟨by decide, by decide, by decide, by decide, by decide⟩
theorem ebF : BuB beF := ⟨by decide, by decide, by decide, by decide, by decide⟩
theorem ebT : BuB thrB := ⟨by decide, by decide, by decide, by decide, by decide⟩
theorem eb_bad (v s : Int) : BuB (badB v s) := ⟨Nat.zero_le _, Nat.zero_le _, Nat.zero_le _, fun r hr => (List.not_mem_nil hr).elim, fun e he => (List.not_mem_nil he).elim⟩
def twoL : La := ⟨[], [2]⟩
def nilL : La := ⟨[], []⟩
theorem twoL_B : LaB twoL := ⟨by decide, by decide, by decide, by decide⟩
theorem nilL_B : LaB nilL := ⟨by decide, by decide, by decide, by decide⟩
theorem RowsR.nil0 (w : World) : RowsR w [] [] := ⟨rfl, fun i x hx => by cases hx⟩
theorem bad_at (w : World) (v s : Int) : BuAt w (badB v s) none none none [] := ⟨Sl.nil _ _, Sl.nil _ _, Sl.nil _ _, RowsR.nil0 w⟩
theorem nil9 (w : World) : RowsR w (List.replicate 9 (Value.slice none 0 0)) [[], [], [], [], [], [], [], [], []] :=
  (((((((((RowsR.nil0 w).cons (xs := []) (b := none) (c := 0) (Sl.nil _ _)).cons (xs := []) (b := none) (c := 0) (Sl.nil _ _)).cons (xs := []) (b := none) (c := 0) (Sl.nil _ _)).cons (xs := []) (b := none) (c := 0) (Sl.nil _ _)).cons (xs := []) (b := none) (c := 0) (Sl.nil _ _)).cons (xs := []) (b := none) (c := 0) (Sl.nil _ _)).cons (xs := []) (b := none) (c := 0) (Sl.nil _ _)).cons (xs := []) (b := none) (c := 0) (Sl.nil _ _)).cons (xs := []) (b := none) (c := 0) (Sl.nil _ _)
theorem oneRec {qs : List Rec} {xs : List Int} (h : nums qs = [xs]) : ∃ r : Rec, qs = [r] ∧ r.xs = xs := by
  cases qs with
  | nil => cases h
  | cons r qs =>
    cases qs with
    | nil => exact ⟨r, rfl, by simpa [nums] using h⟩
    | cons a qs => simp [nums] at h
def dgEs : List Ed := [⟨0, 2, 0, 0⟩, ⟨0, 3, 1, 0⟩, ⟨1, 1, 1, 0⟩, ⟨2, 2, 0, 0⟩, ⟨2, 3, 1, 0⟩, ⟨3, 5, 1, 0⟩, ⟨4, 0, 0, 0⟩, ⟨4, 1, 1, 0⟩, ⟨5, 1, 1, 0⟩]
theorem dgEs_eq : (dgB thrB).edges = dgEs := edT.2.2.1
structure WtE where
  n : Nat
  a : Option Addr
  b : Option Addr
  c : Option Addr
  d : Option Addr
  e : Nat
def WtE.z : WtE := ⟨0, none, none, none, none, 0⟩
end Go.Lx

