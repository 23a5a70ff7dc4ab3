/- Contracts of functions of the program (Int): what each call answers and that it leaves memory as it was. Conditions: those each theorem names. -/
import Derived.Test.YtnamoapbienooaaUni2
import Derived.Test.YtnamoapbienooaaLv
set_option linter.unusedSectionVars false
set_option linter.unusedSimpArgs false
set_option linter.unusedVariables false
set_option linter.unnecessarySimpa false
namespace Go.Lx
open Go.RowKit
set_option linter.unusedVariables false
def okE (x y : Ed) : Bool := decide ((x.pos ||| y.pos) &&& (x.neg ||| y.neg) = 0)
def inE1 (n : Nat) (x y : Ed) : Ed := ⟨x.fr * ((n : Nat) : Int) + y.fr, x.to * ((n : Nat) : Int) + y.to, x.pos ||| y.pos, x.neg ||| y.neg⟩
def inRow (n : Nat) (x : Ed) (ys : List Ed) : List Ed := (ys.filter (okE x)).map (inE1 n x)
def inEs (n : Nat) (xs ys : List Ed) : List Ed := xs.flatMap fun x => inRow n x ys
def stP (a b : Bu) (v : Nat) : Bool := decide (((v / b.states.toNat : Nat) : Int) ∈ a.start) && decide (((v % b.states.toNat : Nat) : Int) ∈ b.start)
def faP (n : Nat) (S : List Int) (v : Nat) : Bool := decide (((v / n : Nat) : Int) ∈ S)
def fbP (n : Nat) (S : List Int) (v : Nat) : Bool := decide (((v % n : Nat) : Int) ∈ S)
def inSets (a b : Bu) (k : Nat) : List (List Int) := a.sets.map (fun S => pickI (faP b.states.toNat S) k) ++ b.sets.map (fun S => pickI (fbP b.states.toNat S) k)
def inAll (a b : Bu) : Nat := a.states.toNat * b.states.toNat
def interB (a b : Bu) : Bu := ⟨a.vars, ((inAll a b : Nat) : Int), pickI (stP a b) (inAll a b), inEs b.states.toNat a.edges b.edges, inSets a b (inAll a b)⟩
def inE (a b : Bu) : Nat := if pairE a b ≠ 0 then pairE a b else if 4096 < inAll a b then 10 else if 8 < a.sets.length + b.sets.length then 4 else 0
def inrB (a b : Bu) : Bu := if inE a b = 0 then interB a b else zeroBu
def inT (a b : Bu) (i j : Nat) : List Ed := inEs b.states.toNat (a.edges.take i) b.edges ++ (if h : i < a.edges.length then inRow b.states.toNat a.edges[i] (b.edges.take j) else [])
theorem inEs_succ {n : Nat} {xs ys : List Ed} {i : Nat} (h : i < xs.length) : inEs n (xs.take (i + 1)) ys = inEs n (xs.take i) ys ++ inRow n xs[i] ys := by
 unfold inEs; rw [List.take_succ_eq_append_getElem h, List.flatMap_append]; simp
theorem inRow_yes {n : Nat} {x : Ed} {ys : List Ed} {j : Nat} (h : j < ys.length) (hk : okE x ys[j] = true) : inRow n x (ys.take (j + 1)) = inRow n x (ys.take j) ++ [inE1 n x ys[j]] := by
 unfold inRow; rw [List.take_succ_eq_append_getElem h, List.filter_append, List.map_append]; simp [hk]
theorem inRow_no {n : Nat} {x : Ed} {ys : List Ed} {j : Nat} (h : j < ys.length) (hk : ¬ okE x ys[j] = true) : inRow n x (ys.take (j + 1)) = inRow n x (ys.take j) := by
 unfold inRow; rw [List.take_succ_eq_append_getElem h, List.filter_append, List.map_append]; simp [hk]
theorem inT_yes {a b : Bu} {i j : Nat} (hi : i < a.edges.length) (hj : j < b.edges.length) (hk : okE a.edges[i] b.edges[j] = true) : inT a b i (j + 1) = inT a b i j ++ [inE1 b.states.toNat a.edges[i] b.edges[j]] := by
 unfold inT; rw [dif_pos hi, dif_pos hi, inRow_yes hj hk, List.append_assoc]
theorem inT_no {a b : Bu} {i j : Nat} (hi : i < a.edges.length) (hj : j < b.edges.length) (hk : ¬ okE a.edges[i] b.edges[j] = true) : inT a b i (j + 1) = inT a b i j := by
 unfold inT; rw [dif_pos hi, dif_pos hi, inRow_no hj hk]
theorem inT_row {a b : Bu} {i : Nat} (hi : i < a.edges.length) : inT a b i b.edges.length = inT a b (i + 1) 0 := by
 unfold inT; rw [dif_pos hi, inEs_succ hi, List.take_length]
 have : (if h : i + 1 < a.edges.length then inRow b.states.toNat a.edges[i + 1] (b.edges.take 0) else []) = [] := by split <;> rfl
 rw [this, List.append_nil]
theorem inT_zero (a b : Bu) : inT a b 0 0 = [] := by unfold inT; split <;> rfl
theorem inT_all (a b : Bu) : inT a b a.edges.length 0 = (interB a b).edges := by
 unfold inT; rw [dif_neg (by omega), List.take_length, List.append_nil]; rfl
theorem inRow_len (n : Nat) (x : Ed) (ys : List Ed) : (inRow n x ys).length ≤ ys.length := by
 unfold inRow; rw [List.length_map]; exact List.length_filter_le _ _
theorem inEs_len (n : Nat) : ∀ (xs ys : List Ed), (inEs n xs ys).length ≤ xs.length * ys.length
 | [], ys => by simp [inEs]
 | x :: xs, ys => by
  have ih := inEs_len n xs ys
  have h1 := inRow_len n x ys
  have : inEs n (x :: xs) ys = inRow n x ys ++ inEs n xs ys := rfl
  rw [this, List.length_append, List.length_cons, Nat.succ_mul]; omega
theorem inT_len {a b : Bu} {i j : Nat} (ha : a.edges.length ≤ 1000) (hb : b.edges.length ≤ 1000) : (inT a b i j).length ≤ 1001000 := by
 unfold inT
 rw [List.length_append]
 have h1 := inEs_len b.states.toNat (a.edges.take i) b.edges
 have h2 : (a.edges.take i).length * b.edges.length ≤ 1000 * 1000 := Nat.mul_le_mul (by rw [List.length_take]; omega) hb
 have h3 : (if h : i < a.edges.length then inRow b.states.toNat a.edges[i] (b.edges.take j) else []).length ≤ 1000 := by
  split
  ·exact Nat.le_trans (inRow_len _ _ _) (by rw [List.length_take]; omega)
  ·simp
 omega
theorem mem_inEs {n : Nat} {xs ys : List Ed} {e : Ed} : e ∈ inEs n xs ys ↔ ∃ x ∈ xs, ∃ y ∈ ys, okE x y = true ∧ e = inE1 n x y := by
 unfold inEs inRow
 simp only [List.mem_flatMap, List.mem_map, List.mem_filter]
 constructor
 ·rintro ⟨x, hx, y, ⟨hy, hk⟩, rfl⟩; exact ⟨x, hx, y, hy, hk, rfl⟩
 ·rintro ⟨x, hx, y, hy, hk, rfl⟩; exact ⟨x, hx, y, ⟨hy, hk⟩, rfl⟩
theorem pair_div {n s t : Nat} (ht : t < n) : (s * n + t) / n = s ∧ (s * n + t) % n = t := by
 rw [Nat.mul_comm]
 exact ⟨by rw [Nat.mul_add_div (by omega), Nat.div_eq_of_lt ht, Nat.add_zero], by rw [Nat.mul_add_mod, Nat.mod_eq_of_lt ht]⟩
theorem pair_lt {n k s t : Nat} (hs : s < k) (ht : t < n) : s * n + t < k * n := by
 have := Nat.mul_le_mul_right n (show s + 1 ≤ k by omega); rw [Nat.succ_mul] at this; omega
def inP (a b : Bu) (v k : Nat) : Bool := if h : k < a.sets.length then faP b.states.toNat a.sets[k] v else if h2 : k - a.sets.length < b.sets.length then fbP b.states.toNat b.sets[k - a.sets.length] v else false
def midSets (a b : Bu) (v k : Nat) : List (List Int) := (inSets a b (v + 1)).take k ++ (inSets a b v).drop k
theorem inSets_len (a b : Bu) (v : Nat) : (inSets a b v).length = a.sets.length + b.sets.length := by unfold inSets; simp
theorem mid_zero (a b : Bu) (v : Nat) : midSets a b v 0 = inSets a b v := by unfold midSets; simp
theorem mid_all (a b : Bu) (v : Nat) : midSets a b v (a.sets.length + b.sets.length) = inSets a b (v + 1) := by
 unfold midSets; rw [List.take_of_length_le (by rw [inSets_len]; omega), List.drop_of_length_le (by rw [inSets_len]; omega), List.append_nil]
theorem inSets_at {a b : Bu} {v k : Nat} (hk : k < a.sets.length + b.sets.length) : (inSets a b v)[k]'(by rw [inSets_len]; exact hk) = if h : k < a.sets.length then pickI (faP b.states.toNat a.sets[k]) v else pickI (fbP b.states.toNat (b.sets[k - a.sets.length]'(by omega))) v := by
 unfold inSets
 split
 ·rename_i h
  rw [List.getElem_append_left (by simpa using h), List.getElem_map]
 ·rename_i h
  rw [List.getElem_append_right (by simpa using h), List.getElem_map]
  simp
theorem inSets_step {a b : Bu} {v k : Nat} (hk : k < a.sets.length + b.sets.length) : (inSets a b (v + 1))[k]'(by rw [inSets_len]; exact hk) = (inSets a b v)[k]'(by rw [inSets_len]; exact hk) ++ (if inP a b v k = true then [((v : Nat) : Int)] else []) := by
 rw [inSets_at hk, inSets_at hk]
 unfold inP
 by_cases h : k < a.sets.length
 ·rw [dif_pos h, dif_pos h, dif_pos h]
  by_cases hp : faP b.states.toNat a.sets[k] v = true
  ·rw [if_pos hp, pickI_yes hp]
  ·rw [if_neg hp, pickI_no hp, List.append_nil]
 ·rw [dif_neg h, dif_neg h, dif_neg h, dif_pos (show k - a.sets.length < b.sets.length by omega)]
  by_cases hp : fbP b.states.toNat b.sets[k - a.sets.length] v = true
  ·rw [if_pos hp, pickI_yes hp]
  ·rw [if_neg hp, pickI_no hp, List.append_nil]
theorem mid_len (a b : Bu) (v k : Nat) : (midSets a b v k).length = a.sets.length + b.sets.length := by
 unfold midSets; rw [List.length_append, List.length_take, List.length_drop, inSets_len, inSets_len]; omega
theorem mid_at {a b : Bu} {v k : Nat} (hk : k < a.sets.length + b.sets.length) : (midSets a b v k)[k]'(by rw [mid_len]; exact hk) = (inSets a b v)[k]'(by rw [inSets_len]; exact hk) := by
 unfold midSets
 rw [List.getElem_append_right (by rw [List.length_take, inSets_len]; omega)]
 rw [List.getElem_drop]
 congr 1
 rw [List.length_take, inSets_len]; omega
theorem mid_succ {a b : Bu} {v k : Nat} (hk : k < a.sets.length + b.sets.length) : midSets a b v (k + 1) = (midSets a b v k).set k ((inSets a b v)[k]'(by rw [inSets_len]; exact hk) ++ (if inP a b v k = true then [((v : Nat) : Int)] else [])) := by
 rw [← inSets_step hk]
 have h1 : k < (inSets a b (v + 1)).length := by rw [inSets_len]; exact hk
 have h2 : k < (inSets a b v).length := by rw [inSets_len]; exact hk
 unfold midSets
 rw [List.take_succ_eq_append_getElem h1, List.drop_eq_getElem_cons h2, List.append_assoc, List.set_append_right _ _ (by rw [List.length_take]; omega)]
 rw [show k - ((inSets a b (v + 1)).take k).length = 0 by rw [List.length_take]; omega]
 rfl
theorem mid_yes {a b : Bu} {v k : Nat} {q2 : List Rec} (hk : k < a.sets.length + b.sets.length) (hl : k < q2.length) (hq : nums q2 = midSets a b v k) (hp : inP a b v k = true) (B : Option Addr) (C : Nat) : nums (q2.set k ⟨B, C, q2[k].xs ++ [((v : Nat) : Int)]⟩) = midSets a b v (k + 1) := by
 have h1 : (nums q2)[k]'(by simpa [nums] using hl) = q2[k].xs := by simp [nums]
 have h2 : q2[k].xs = (inSets a b v)[k]'(by rw [inSets_len]; exact hk) := by
  rw [← h1, ← mid_at hk]; simp only [hq]
 rw [mid_succ hk, if_pos hp, ← hq, ← h2]
 unfold nums
 rw [List.map_set]
theorem mid_no {a b : Bu} {v k : Nat} {q2 : List Rec} (hk : k < a.sets.length + b.sets.length) (hq : nums q2 = midSets a b v k) (hp : ¬ inP a b v k = true) : nums q2 = midSets a b v (k + 1) := by
 rw [mid_succ hk, if_neg hp, List.append_nil, ← mid_at hk, hq]
 exact (List.set_getElem_self _).symm
theorem inSets_zero (a b : Bu) : nums (List.replicate (a.sets.length + b.sets.length) nilRec) = inSets a b 0 := by
 unfold nums inSets pickI
 simp only [List.range_zero, List.filter_nil, List.map_nil, List.map_replicate]
 apply List.ext_getElem
 ·simp
 ·intro i h1 h2
  rw [List.getElem_replicate]
  by_cases h : i < a.sets.length
  ·rw [List.getElem_append_left (by simpa using h), List.getElem_map]
  ·rw [List.getElem_append_right (by simpa using h), List.getElem_map]
end Go.Lx
