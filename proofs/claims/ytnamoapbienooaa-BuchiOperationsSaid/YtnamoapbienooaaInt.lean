/- Contracts of functions of the program (Int): what each call answers and that it leaves memory as it was. Conditions: those each theorem names. -/
import Derived.Test.YtnamoapbienooaaUni2
import Derived.Test.YtnamoapbienooaaBDel
set_option linter.unusedSectionVars false
set_option linter.unusedSimpArgs false
set_option linter.unusedVariables false
set_option linter.unnecessarySimpa false
namespace Go.Lx
open Go.RowKit
set_option linter.unusedVariables false
def okE (x y : Ed) : Bool := decide ((x.pos ||| y.pos) &&& (x.neg ||| y.neg) = 0)
def inE1 (n : Nat) (x y : Ed) : Ed := ⟨x.fr * ((n : Nat) : Int) + y.fr, x.to * ((n : Nat) : Int) + y.to, x.pos ||| y.pos, x.neg ||| y.neg⟩
def inRow (n : Nat) (x : Ed) (ys : List Ed) : List Ed := (ys.filter (okE x)).map (inE1 n x)
def inEs (n : Nat) (xs ys : List Ed) : List Ed := xs.flatMap fun x => inRow n x ys
def stP (a b : Bu) (v : Nat) : Bool := decide (((v / b.states.toNat : Nat) : Int) ∈ a.start) && decide (((v % b.states.toNat : Nat) : Int) ∈ b.start)
def faP (n : Nat) (S : List Int) (v : Nat) : Bool := decide (((v / n : Nat) : Int) ∈ S)
def fbP (n : Nat) (S : List Int) (v : Nat) : Bool := decide (((v % n : Nat) : Int) ∈ S)
def inSets (a b : Bu) (k : Nat) : List (List Int) := a.sets.map (fun S => pickI (faP b.states.toNat S) k) ++ b.sets.map (fun S => pickI (fbP b.states.toNat S) k)
def inAll (a b : Bu) : Nat := a.states.toNat * b.states.toNat
def interB (a b : Bu) : Bu := ⟨a.vars, ((inAll a b : Nat) : Int), pickI (stP a b) (inAll a b), inEs b.states.toNat a.edges b.edges, inSets a b (inAll a b)⟩
def inE (a b : Bu) : Nat := if pairE a b ≠ 0 then pairE a b else if 4096 < inAll a b then 10 else if 8 < a.sets.length + b.sets.length then 4 else 0
def inrB (a b : Bu) : Bu := if inE a b = 0 then interB a b else zeroBu
def inT (a b : Bu) (i j : Nat) : List Ed := inEs b.states.toNat (a.edges.take i) b.edges ++ (if h : i < a.edges.length then inRow b.states.toNat a.edges[i] (b.edges.take j) else [])
theorem inEs_succ {n : Nat} {xs ys : List Ed} {i : Nat} (h : i < xs.length) : inEs n (xs.take (i + 1)) ys = inEs n (xs.take i) ys ++ inRow n xs[i] ys := by
  unfold inEs; rw [List.take_succ_eq_append_getElem h, List.flatMap_append]; simp
theorem inRow_yes {n : Nat} {x : Ed} {ys : List Ed} {j : Nat} (h : j < ys.length) (hk : okE x ys[j] = true) : inRow n x (ys.take (j + 1)) = inRow n x (ys.take j) ++ [inE1 n x ys[j]] := by
  unfold inRow; rw [List.take_succ_eq_append_getElem h, List.filter_append, List.map_append]; simp [hk]
theorem inRow_no {n : Nat} {x : Ed} {ys : List Ed} {j : Nat} (h : j < ys.length) (hk : ¬ okE x ys[j] = true) : inRow n x (ys.take (j + 1)) = inRow n x (ys.take j) := by
  unfold inRow; rw [List.take_succ_eq_append_getElem h, List.filter_append, List.map_append]; simp [hk]
theorem inT_yes {a b : Bu} {i j : Nat} (hi : i < a.edges.length) (hj : j < b.edges.length) (hk : okE a.edges[i] b.edges[j] = true) : inT a b i (j + 1) = inT a b i j ++ [inE1 b.states.toNat a.edges[i] b.edges[j]] := by
  unfold inT; rw [dif_pos hi, dif_pos hi, inRow_yes hj hk, List.append_assoc]
theorem inT_no {a b : Bu} {i j : Nat} (hi : i < a.edges.length) (hj : j < b.edges.length) (hk : ¬ okE a.edges[i] b.edges[j] = true) : inT a b i (j + 1) = inT a b i j := by
  unfold inT; rw [dif_pos hi, dif_pos hi, inRow_no hj hk]
theorem inT_row {a b : Bu} {i : Nat} (hi : i < a.edges.length) : inT a b i b.edges.length = inT a b (i + 1) 0 := by
  unfold inT; rw [dif_pos hi, inEs_succ hi, List.take_length]
  have : (if h : i + 1 < a.edges.length then inRow b.states.toNat a.edges[i + 1] (b.edges.take 0) else []) = [] := by split <;> rfl
  rw [this, List.append_nil]
theorem inT_zero (a b : Bu) : inT a b 0 0 = [] := by unfold inT; split <;> rfl
theorem inT_all (a b : Bu) : inT a b a.edges.length 0 = (interB a b).edges := by
  unfold inT; rw [dif_neg (by omega), List.take_length, List.append_nil]; rfl
theorem inRow_len (n : Nat) (x : Ed) (ys : List Ed) : (inRow n x ys).length ≤ ys.length := by
  unfold inRow; rw [List.length_map]; exact List.length_filter_le _ _
theorem inEs_len (n : Nat) : ∀ (xs ys : List Ed), (inEs n xs ys).length ≤ xs.length * ys.length
  | [], ys => by simp [inEs]
  | x :: xs, ys => by
    have ih := inEs_len n xs ys
    have h1 := inRow_len n x ys
    have : inEs n (x :: xs) ys = inRow n x ys ++ inEs n xs ys := rfl
    rw [this, List.length_append, List.length_cons, Nat.succ_mul]; omega
theorem inT_len {a b : Bu} {i j : Nat} (ha : a.edges.length ≤ 1000) (hb : b.edges.length ≤ 1000) : (inT a b i j).length ≤ 1001000 := by
  unfold inT
  rw [List.length_append]
  have h1 := inEs_len b.states.toNat (a.edges.take i) b.edges
  have h2 : (a.edges.take i).length * b.edges.length ≤ 1000 * 1000 := Nat.mul_le_mul (by rw [List.length_take]; omega) hb
  have h3 : (if h : i < a.edges.length then inRow b.states.toNat a.edges[i] (b.edges.take j) else []).length ≤ 1000 := by
    split
    · exact Nat.le_trans (inRow_len _ _ _) (by rw [List.length_take]; omega)
    · simp
  omega
theorem mem_inEs {n : Nat} {xs ys : List Ed} {e : Ed} : e ∈ inEs n xs ys ↔ ∃ x ∈ xs, ∃ y ∈ ys, okE x y = true ∧ e = inE1 n x y := by
  unfold inEs inRow
  simp only [List.mem_flatMap, List.mem_map, List.mem_filter]
  constructor
  · rintro ⟨x, hx, y, ⟨hy, hk⟩, rfl⟩; exact ⟨x, hx, y, hy, hk, rfl⟩
  · rintro ⟨x, hx, y, hy, hk, rfl⟩; exact ⟨x, hx, y, ⟨hy, hk⟩, rfl⟩
theorem pair_div {n s t : Nat} (ht : t < n) : (s * n + t) / n = s ∧ (s * n + t) % n = t := by
  rw [Nat.mul_comm]
  exact ⟨by rw [Nat.mul_add_div (by omega), Nat.div_eq_of_lt ht, Nat.add_zero], by rw [Nat.mul_add_mod, Nat.mod_eq_of_lt ht]⟩
theorem pair_lt {n k s t : Nat} (hs : s < k) (ht : t < n) : s * n + t < k * n := by
  have := Nat.mul_le_mul_right n (show s + 1 ≤ k by omega); rw [Nat.succ_mul] at this; omega
theorem inter_valid {a b : Bu} (ha : ValidB a) (hb : ValidB b) (hv : a.vars = b.vars) (h4 : inAll a b ≤ 4096) (h8 : a.sets.length + b.sets.length ≤ 8) : ValidB (interB a b) := by
  have hpk : ∀ (P : Nat → Bool), ∀ s ∈ pickI P (inAll a b), 0 ≤ s ∧ s < ((inAll a b : Nat) : Int) := fun P s hs => by
    obtain ⟨k, h1, _, rfl⟩ := mem_pickI.1 hs; omega
  have hset : ∀ l ∈ inSets a b (inAll a b), ∃ P, l = pickI P (inAll a b) := fun l hl => by
    rcases List.mem_append.1 hl with hl | hl
    · obtain ⟨S, _, rfl⟩ := List.mem_map.1 hl; exact ⟨_, rfl⟩
    · obtain ⟨S, _, rfl⟩ := List.mem_map.1 hl; exact ⟨_, rfl⟩
  refine { v0 := ha.v0, v6 := ha.v6, n0 := ?_, n4 := ?_, m8 := ?_, st := hpk _, sst := pickI_sorted _ _, se := ?_, sse := ?_, ed := ?_, cu := ?_ }
  · show (0 : Int) ≤ ((inAll a b : Nat) : Int); omega
  · show ((inAll a b : Nat) : Int) ≤ 4096; omega
  · show (inSets a b (inAll a b)).length ≤ 8; unfold inSets; rw [List.length_append, List.length_map, List.length_map]; exact h8
  · intro l hl
    obtain ⟨P, rfl⟩ := hset l hl; exact hpk P
  · intro l hl
    obtain ⟨P, rfl⟩ := hset l hl; exact pickI_sorted _ _
  · intro e he
    obtain ⟨x, hx, y, hy, _, rfl⟩ := mem_inEs.1 he
    have h1 := ha.ed x hx; have h2 := hb.ed y hy
    have key : ∀ p q : Int, 0 ≤ p → p < a.states → 0 ≤ q → q < b.states → 0 ≤ p * ((b.states.toNat : Nat) : Int) + q ∧ p * ((b.states.toNat : Nat) : Int) + q < ((inAll a b : Nat) : Int) := fun p q p0 p1 q0 q1 => by
      have h3 := pair_lt (n := b.states.toNat) (k := a.states.toNat) (s := p.toNat) (t := q.toNat) (by omega) (by omega)
      have h5 : p * ((b.states.toNat : Nat) : Int) + q = ((p.toNat * b.states.toNat + q.toNat : Nat) : Int) := by
        rw [Int.natCast_add, Int.natCast_mul, Int.toNat_of_nonneg p0, Int.toNat_of_nonneg q0]
      rw [h5]; unfold inAll; omega
    exact ⟨key _ _ h1.1.1 h1.1.2 h2.1.1 h2.1.2, key _ _ h1.2.1 h1.2.2 h2.2.1 h2.2.2⟩
  · intro e he
    obtain ⟨x, hx, y, hy, hk, rfl⟩ := mem_inEs.1 he
    have h1 := ha.cu x hx; have h2 := hb.cu y hy
    rw [← hv] at h2
    exact ⟨Nat.or_lt_two_pow h1.1 h2.1, Nat.or_lt_two_pow h1.2.1 h2.2.1, of_decide_eq_true hk⟩
theorem mtch_or {x y : Ed} {n w : Nat} : mtch (inE1 n x y) w ↔ mtch x w ∧ mtch y w := by
  have key : ∀ p q : Nat, w &&& (p ||| q) = p ||| q ↔ w &&& p = p ∧ w &&& q = q := fun p q => by
    constructor
    · intro h
      constructor <;>
      · apply Nat.eq_of_testBit_eq
        intro i
        have := congrArg (fun z => z.testBit i) h
        simp only [Nat.testBit_and, Nat.testBit_or] at this ⊢
        revert this
        cases w.testBit i <;> cases p.testBit i <;> cases q.testBit i <;> simp
    · rintro ⟨h1, h2⟩
      rw [Nat.and_or_distrib_left, h1, h2]
  have key0 : ∀ p q : Nat, w &&& (p ||| q) = 0 ↔ w &&& p = 0 ∧ w &&& q = 0 := fun p q => by
    rw [Nat.and_or_distrib_left, Nat.or_eq_zero_iff]
  unfold mtch inE1
  simp only [key, key0]
  constructor
  · rintro ⟨⟨h1, h2⟩, h3, h4⟩; exact ⟨⟨h1, h3⟩, h2, h4⟩
  · rintro ⟨⟨h1, h3⟩, h2, h4⟩; exact ⟨⟨h1, h2⟩, h3, h4⟩
theorem mtch_ok {x y : Ed} {w : Nat} (h1 : mtch x w) (h2 : mtch y w) : okE x y = true := by
  unfold okE
  rw [decide_eq_true_iff]
  apply Nat.eq_of_testBit_eq
  intro i
  have a1 := congrArg (fun z => z.testBit i) h1.1
  have a2 := congrArg (fun z => z.testBit i) h1.2
  have b1 := congrArg (fun z => z.testBit i) h2.1
  have b2 := congrArg (fun z => z.testBit i) h2.2
  simp only [Nat.testBit_and, Nat.testBit_or, Nat.zero_testBit] at a1 a2 b1 b2 ⊢
  revert a1 a2 b1 b2
  cases w.testBit i <;> cases x.pos.testBit i <;> cases x.neg.testBit i <;> cases y.pos.testBit i <;> cases y.neg.testBit i <;> simp
theorem acc_inter {a b : Bu} (ha : ValidB a) (hb : ValidB b) {w : Nat → Nat} : Acc (interB a b) w ↔ Acc a w ∧ Acc b w := by
  have a0 := ha.n0; have b0 := hb.n0
  constructor
  · rintro ⟨s, hs, r, hr⟩
    obtain ⟨s', hs1, hs2, hs3⟩ := mem_pickI.1 hs
    obtain rfl : s' = s := by omega
    unfold stP at hs2
    rw [Bool.and_eq_true, decide_eq_true_iff, decide_eq_true_iff] at hs2
    have hst : ∀ i, ∃ x ∈ a.edges, ∃ y ∈ b.edges, x.fr = ((r i / b.states.toNat : Nat) : Int) ∧ x.to = ((r (i + 1) / b.states.toNat : Nat) : Int) ∧ y.fr = ((r i % b.states.toNat : Nat) : Int) ∧ y.to = ((r (i + 1) % b.states.toNat : Nat) : Int) ∧ mtch x (w i) ∧ mtch y (w i) := fun i => by
      obtain ⟨e, he, h3, h4, h5⟩ := hr.st i
      obtain ⟨x, hx, y, hy, hk, rfl⟩ := mem_inEs.1 he
      have h1 := ha.ed x hx; have h2 := hb.ed y hy
      have key : ∀ (p q : Int) (v : Nat), 0 ≤ p → 0 ≤ q → q < b.states → p * ((b.states.toNat : Nat) : Int) + q = (v : Int) → p = ((v / b.states.toNat : Nat) : Int) ∧ q = ((v % b.states.toNat : Nat) : Int) := fun p q v p0 q0 q1 e => by
        have h6 : v = p.toNat * b.states.toNat + q.toNat := by
          have : ((p.toNat * b.states.toNat + q.toNat : Nat) : Int) = (v : Int) := by rw [Int.natCast_add, Int.natCast_mul, Int.toNat_of_nonneg p0, Int.toNat_of_nonneg q0]; exact e
          omega
        have h7 := pair_div (n := b.states.toNat) (s := p.toNat) (t := q.toNat) (by omega)
        rw [← h6] at h7
        rw [h7.1, h7.2]; omega
      have k1 := key _ _ _ h1.1.1 h2.1.1 h2.1.2 h3
      have k2 := key _ _ _ h1.2.1 h2.2.1 h2.2.2 h4
      have hm := mtch_or.1 h5
      exact ⟨x, hx, y, hy, k1.1, k2.1, k1.2, k2.2, hm.1, hm.2⟩
    refine ⟨⟨_, hs2.1, fun i => r i / b.states.toNat, by show r 0 / _ = _; rw [hr.s], fun i => ?_, fun S hS N => ?_⟩, ⟨_, hs2.2, fun i => r i % b.states.toNat, by show r 0 % _ = _; rw [hr.s], fun i => ?_, fun S hS N => ?_⟩⟩
    · obtain ⟨x, hx, y, hy, h1, h2, _, _, h3, _⟩ := hst i; exact ⟨x, hx, h1, h2, h3⟩
    · obtain ⟨i, h1, h2⟩ := hr.inf (pickI (faP b.states.toNat S) (inAll a b)) (List.mem_append_left _ (List.mem_map.2 ⟨S, hS, rfl⟩)) N
      obtain ⟨k, _, h3, h4⟩ := mem_pickI.1 h2
      obtain rfl : k = r i := by omega
      exact ⟨i, h1, of_decide_eq_true h3⟩
    · obtain ⟨x, hx, y, hy, _, _, h1, h2, _, h3⟩ := hst i; exact ⟨y, hy, h1, h2, h3⟩
    · obtain ⟨i, h1, h2⟩ := hr.inf (pickI (fbP b.states.toNat S) (inAll a b)) (List.mem_append_right _ (List.mem_map.2 ⟨S, hS, rfl⟩)) N
      obtain ⟨k, _, h3, h4⟩ := mem_pickI.1 h2
      obtain rfl : k = r i := by omega
      exact ⟨i, h1, of_decide_eq_true h3⟩
  · -- a run of pairs must meet the sets of both again and again: each set speaks of one side alone
    rintro ⟨⟨s, hs, p, hp⟩, ⟨t, ht, q, hq⟩⟩
    have hpn : ∀ i, p i < a.states.toNat := fun i => by
      obtain ⟨e, he, h1, _, _⟩ := hp.st i
      have := ha.ed e he; omega
    have hqn : ∀ i, q i < b.states.toNat := fun i => by
      obtain ⟨e, he, h1, _, _⟩ := hq.st i
      have := hb.ed e he; omega
    have hd : ∀ i, (p i * b.states.toNat + q i) / b.states.toNat = p i ∧ (p i * b.states.toNat + q i) % b.states.toNat = q i := fun i => pair_div (hqn i)
    have hlt : ∀ i, p i * b.states.toNat + q i < inAll a b := fun i => pair_lt (hpn i) (hqn i)
    have e0 : p 0 = s := hp.s
    have e1 : q 0 = t := hq.s
    refine ⟨s * b.states.toNat + t, mem_pickI.2 ⟨_, by rw [← e0, ← e1]; exact hlt 0, ?_, rfl⟩, fun i => p i * b.states.toNat + q i, by show p 0 * _ + q 0 = _; rw [e0, e1], fun i => ?_, fun S hS N => ?_⟩
    · have h1 := hd 0
      rw [e0, e1] at h1
      unfold stP
      rw [h1.1, h1.2, decide_eq_true hs, decide_eq_true ht]; rfl
    · obtain ⟨x, hx, h1, h2, h3⟩ := hp.st i
      obtain ⟨y, hy, h4, h5, h6⟩ := hq.st i
      refine ⟨inE1 b.states.toNat x y, mem_inEs.2 ⟨x, hx, y, hy, mtch_ok h3 h6, rfl⟩, ?_, ?_, mtch_or.2 ⟨h3, h6⟩⟩
      · show x.fr * _ + y.fr = ((p i * b.states.toNat + q i : Nat) : Int); rw [h1, h4, Int.natCast_add, Int.natCast_mul]
      · show x.to * _ + y.to = ((p (i + 1) * b.states.toNat + q (i + 1) : Nat) : Int); rw [h2, h5, Int.natCast_add, Int.natCast_mul]
    · rcases List.mem_append.1 hS with hS | hS
      · obtain ⟨S0, hS0, rfl⟩ := List.mem_map.1 hS
        obtain ⟨i, h1, h2⟩ := hp.inf S0 hS0 N
        exact ⟨i, h1, mem_pickI.2 ⟨_, hlt i, by unfold faP; rw [(hd i).1]; exact decide_eq_true h2, rfl⟩⟩
      · obtain ⟨S0, hS0, rfl⟩ := List.mem_map.1 hS
        obtain ⟨i, h1, h2⟩ := hq.inf S0 hS0 N
        exact ⟨i, h1, mem_pickI.2 ⟨_, hlt i, by unfold fbP; rw [(hd i).2]; exact decide_eq_true h2, rfl⟩⟩
end Go.Lx

