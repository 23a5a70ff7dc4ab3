/- Contracts of functions of the program (Int): what each call answers and that it leaves memory as it was. Conditions: those each theorem names. -/
import Derived.Test.YtnamoapbienooaaUni2
import Derived.Test.YtnamoapbienooaaBChk
set_option linter.unusedSectionVars false
set_option linter.unusedSimpArgs false
set_option linter.unusedVariables false
set_option linter.unnecessarySimpa false
namespace Go.Lx
open Go.RowKit
set_option linter.unusedVariables false
def okE (x y : Ed) : Bool := decide ((x.pos ||| y.pos) &&& (x.neg ||| y.neg) = 0)
def inE1 (n : Nat) (x y : Ed) : Ed := ⟨x.fr * ((n : Nat) : Int) + y.fr, x.to * ((n : Nat) : Int) + y.to, x.pos ||| y.pos, x.neg ||| y.neg⟩
def inRow (n : Nat) (x : Ed) (ys : List Ed) : List Ed := (ys.filter (okE x)).map (inE1 n x)
def inEs (n : Nat) (xs ys : List Ed) : List Ed := xs.flatMap fun x => inRow n x ys
def stP (a b : Bu) (v : Nat) : Bool := decide (((v / b.states.toNat : Nat) : Int) ∈ a.start) && decide (((v % b.states.toNat : Nat) : Int) ∈ b.start)
def faP (n : Nat) (S : List Int) (v : Nat) : Bool := decide (((v / n : Nat) : Int) ∈ S)
def fbP (n : Nat) (S : List Int) (v : Nat) : Bool := decide (((v % n : Nat) : Int) ∈ S)
def inSets (a b : Bu) (k : Nat) : List (List Int) := a.sets.map (fun S => pickI (faP b.states.toNat S) k) ++ b.sets.map (fun S => pickI (fbP b.states.toNat S) k)
def inAll (a b : Bu) : Nat := a.states.toNat * b.states.toNat
def interB (a b : Bu) : Bu := ⟨a.vars, ((inAll a b : Nat) : Int), pickI (stP a b) (inAll a b), inEs b.states.toNat a.edges b.edges, inSets a b (inAll a b)⟩
def inE (a b : Bu) : Nat := if pairE a b ≠ 0 then pairE a b else if 4096 < inAll a b then 10 else if 8 < a.sets.length + b.sets.length then 4 else 0
def inrB (a b : Bu) : Bu := if inE a b = 0 then interB a b else zeroBu
def inT (a b : Bu) (i j : Nat) : List Ed := inEs b.states.toNat (a.edges.take i) b.edges ++ (if h : i < a.edges.length then inRow b.states.toNat a.edges[i] (b.edges.take j) else [])
theorem inEs_succ {n : Nat} {xs ys : List Ed} {i : Nat} (h : i < xs.length) : inEs n (xs.take (i + 1)) ys = inEs n (xs.take i) ys ++ inRow n xs[i] ys := by
  unfold inEs; rw [List.take_succ_eq_append_getElem h, List.flatMap_append]; simp
theorem inRow_yes {n : Nat} {x : Ed} {ys : List Ed} {j : Nat} (h : j < ys.length) (hk : okE x ys[j] = true) : inRow n x (ys.take (j + 1)) = inRow n x (ys.take j) ++ [inE1 n x ys[j]] := by
  unfold inRow; rw [List.take_succ_eq_append_getElem h, List.filter_append, List.map_append]; simp [hk]
theorem inRow_no {n : Nat} {x : Ed} {ys : List Ed} {j : Nat} (h : j < ys.length) (hk : ¬ okE x ys[j] = true) : inRow n x (ys.take (j + 1)) = inRow n x (ys.take j) := by
  unfold inRow; rw [List.take_succ_eq_append_getElem h, List.filter_append, List.map_append]; simp [hk]
theorem inT_yes {a b : Bu} {i j : Nat} (hi : i < a.edges.length) (hj : j < b.edges.length) (hk : okE a.edges[i] b.edges[j] = true) : inT a b i (j + 1) = inT a b i j ++ [inE1 b.states.toNat a.edges[i] b.edges[j]] := by
  unfold inT; rw [dif_pos hi, dif_pos hi, inRow_yes hj hk, List.append_assoc]
theorem inT_no {a b : Bu} {i j : Nat} (hi : i < a.edges.length) (hj : j < b.edges.length) (hk : ¬ okE a.edges[i] b.edges[j] = true) : inT a b i (j + 1) = inT a b i j := by
  unfold inT; rw [dif_pos hi, dif_pos hi, inRow_no hj hk]
theorem inT_row {a b : Bu} {i : Nat} (hi : i < a.edges.length) : inT a b i b.edges.length = inT a b (i + 1) 0 := by
  unfold inT; rw [dif_pos hi, inEs_succ hi, List.take_length]
  have : (if h : i + 1 < a.edges.length then inRow b.states.toNat a.edges[i + 1] (b.edges.take 0) else []) = [] := by split <;> rfl
  rw [this, List.append_nil]
theorem inT_zero (a b : Bu) : inT a b 0 0 = [] := by unfold inT; split <;> rfl
theorem inT_all (a b : Bu) : inT a b a.edges.length 0 = (interB a b).edges := by
  unfold inT; rw [dif_neg (by omega), List.take_length, List.append_nil]; rfl
theorem inRow_len (n : Nat) (x : Ed) (ys : List Ed) : (inRow n x ys).length ≤ ys.length := by
  unfold inRow; rw [List.length_map]; exact List.length_filter_le _ _
theorem inEs_len (n : Nat) : ∀ (xs ys : List Ed), (inEs n xs ys).length ≤ xs.length * ys.length
  | [], ys => by simp [inEs]
  | x :: xs, ys => by
    have ih := inEs_len n xs ys
    have h1 := inRow_len n x ys
    have : inEs n (x :: xs) ys = inRow n x ys ++ inEs n xs ys := rfl
    rw [this, List.length_append, List.length_cons, Nat.succ_mul]; omega
theorem inT_len {a b : Bu} {i j : Nat} (ha : a.edges.length ≤ 1000) (hb : b.edges.length ≤ 1000) : (inT a b i j).length ≤ 1001000 := by
  unfold inT
  rw [List.length_append]
  have h1 := inEs_len b.states.toNat (a.edges.take i) b.edges
  have h2 : (a.edges.take i).length * b.edges.length ≤ 1000 * 1000 := Nat.mul_le_mul (by rw [List.length_take]; omega) hb
  have h3 : (if h : i < a.edges.length then inRow b.states.toNat a.edges[i] (b.edges.take j) else []).length ≤ 1000 := by
    split
    · exact Nat.le_trans (inRow_len _ _ _) (by rw [List.length_take]; omega)
    · simp
  omega
theorem pair_div {n s t : Nat} (ht : t < n) : (s * n + t) / n = s ∧ (s * n + t) % n = t := by
  rw [Nat.mul_comm]
  exact ⟨by rw [Nat.mul_add_div (by omega), Nat.div_eq_of_lt ht, Nat.add_zero], by rw [Nat.mul_add_mod, Nat.mod_eq_of_lt ht]⟩
end Go.Lx

