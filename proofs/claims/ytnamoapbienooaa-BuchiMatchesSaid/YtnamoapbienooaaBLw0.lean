/- Contracts of functions of the program (Buc, BuM, CloseB, Facts, EndB, BKit, BChk, TarL, Lv, Mrk, Acc, BLw0): what each call answers and that it leaves memory as it was. Conditions: those each theorem names. -/
import Derived.Test.YtnamoapbienooaaLiv
import Derived.Deep.Slices
import Derived.Test.YtnamoapbienooaaRows
import Derived.WalkKit
import Derived.ProofKit
import Derived.OpenShut
import Derived.Deep.DeepHandedRow
import Derived.Lib.LaidTab
set_option linter.unusedSectionVars false
set_option linter.unusedSimpArgs false
set_option linter.unusedVariables false
set_option linter.unnecessarySimpa false
namespace Go.Lx
structure Ed where
  fr : Int
  to : Int
  pos : Nat
  neg : Nat
deriving DecidableEq
structure Bu where
  vars : Int
  states : Int
  start : List Int
  edges : List Ed
  sets : List (List Int)
deriving DecidableEq
structure La where
  pre : List Nat
  loop : List Nat
deriving DecidableEq
def rises (n : Int) : Int → List Int → Bool
  | _, [] => true
  | a, x :: l => decide (a < x) && decide (x < n) && rises n x l
def edgeOk (n : Int) (e : Ed) : Bool := decide (0 ≤ e.fr) && decide (e.fr < n) && decide (0 ≤ e.to) && decide (e.to < n)
def cubeOk (v : Nat) (e : Ed) : Bool := decide (e.pos < 2 ^ v) && decide (e.neg < 2 ^ v) && decide (e.pos &&& e.neg = 0)
def edgesE (n : Int) (v : Nat) : List Ed → Nat
  | [] => 0
  | e :: es => if edgeOk n e = true then (if cubeOk v e = true then edgesE n v es else 1) else 8
def checkB (b : Bu) : Nat :=
  if ¬ (0 ≤ b.vars ∧ b.vars ≤ 6) then 7
  else if b.states < 0 then 1
  else if 4096 < b.states then 10
  else if 8 < b.sets.length then 4
  else if rises b.states (-1) b.start = true ∧ b.sets.all (rises b.states (-1)) = true then edgesE b.states b.vars.toNat b.edges
  else 8
def checkL (v : Nat) (l : La) : Nat :=
  if l.loop.length = 0 then 3
  else if 64 < l.pre.length ∨ 64 < l.loop.length then 4
  else if (l.pre.all fun x => decide (x < 2 ^ v)) = true ∧ (l.loop.all fun x => decide (x < 2 ^ v)) = true then 0
  else 1
def checkLV (v : Int) (l : La) : Nat := if ¬ (0 ≤ v ∧ v ≤ 6) then 7 else checkL v.toNat l
theorem any_not {α : Type} {l : List α} {p : α → Prop} [DecidablePred p] (h : (l.all fun x => decide (p x)) = true) : (l.any fun x => decide (¬ p x)) = false := by
  rw [List.any_eq_false]; intro x hx; have := List.all_eq_true.1 h x hx; simpa using this
theorem all_not {α : Type} {l : List α} {p : α → Prop} [DecidablePred p] (h : (l.any fun x => decide (¬ p x)) = false) : (l.all fun x => decide (p x)) = true := by
  rw [List.any_eq_false] at h; rw [List.all_eq_true]; intro x hx; have := h x hx; simpa using this
theorem rises_no {n a : Int} {xs : List Int} {k : Nat} (hk : k < xs.length) (h : xs[k] ≤ a ∨ n ≤ xs[k]) : rises n a (xs.drop k) = false := by
  rw [List.drop_eq_getElem_cons hk]
  simp only [rises, Bool.and_eq_false_iff, decide_eq_false_iff_not]
  left; rcases h with h | h
  · left; omega
  · right; omega
theorem rises_yes {n a : Int} {xs : List Int} {k : Nat} (hk : k < xs.length) (h1 : a < xs[k]) (h2 : xs[k] < n) : rises n a (xs.drop k) = rises n xs[k] (xs.drop (k + 1)) := by
  rw [List.drop_eq_getElem_cons hk]
  simp [rises, h1, h2]
theorem rises_end {n a : Int} {xs : List Int} {k : Nat} (hk : ¬ k < xs.length) : rises n a (xs.drop k) = true := by
  rw [List.drop_eq_nil_of_le (by omega)]; rfl
theorem edges_8 {n : Int} {v : Nat} {es : List Ed} {k : Nat} (hk : k < es.length) (h : es[k].fr < 0 ∨ n ≤ es[k].fr ∨ es[k].to < 0 ∨ n ≤ es[k].to) : edgesE n v (es.drop k) = 8 := by
  rw [List.drop_eq_getElem_cons hk, edgesE, if_neg]
  simp only [edgeOk, Bool.and_eq_true, decide_eq_true_eq]; omega
theorem edges_1 {n : Int} {v : Nat} {es : List Ed} {k : Nat} (hk : k < es.length) (h : ¬ (es[k].fr < 0 ∨ n ≤ es[k].fr ∨ es[k].to < 0 ∨ n ≤ es[k].to)) (h2 : ¬ (es[k].pos < 2 ^ v ∧ es[k].neg < 2 ^ v ∧ es[k].pos &&& es[k].neg = 0)) : edgesE n v (es.drop k) = 1 := by
  rw [List.drop_eq_getElem_cons hk, edgesE, if_pos, if_neg]
  · simp only [cubeOk, Bool.and_eq_true, decide_eq_true_eq]; exact fun q => h2 ⟨q.1.1, q.1.2, q.2⟩
  · simp only [edgeOk, Bool.and_eq_true, decide_eq_true_eq]; omega
theorem edges_0 {n : Int} {v : Nat} {es : List Ed} {k : Nat} (hk : k < es.length) (h : ¬ (es[k].fr < 0 ∨ n ≤ es[k].fr ∨ es[k].to < 0 ∨ n ≤ es[k].to)) (h2 : es[k].pos < 2 ^ v ∧ es[k].neg < 2 ^ v ∧ es[k].pos &&& es[k].neg = 0) : edgesE n v (es.drop k) = edgesE n v (es.drop (k + 1)) := by
  rw [List.drop_eq_getElem_cons hk, edgesE, if_pos, if_pos]
  · simp only [cubeOk, Bool.and_eq_true, decide_eq_true_eq]; exact ⟨⟨h2.1, h2.2.1⟩, h2.2.2⟩
  · simp only [edgeOk, Bool.and_eq_true, decide_eq_true_eq]; omega
theorem or_lt {a b v : Nat} : a ||| b < 2 ^ v ↔ a < 2 ^ v ∧ b < 2 ^ v := by
  constructor
  · intro h; exact ⟨Nat.lt_of_le_of_lt Nat.left_le_or h, Nat.lt_of_le_of_lt Nat.right_le_or h⟩
  · rintro ⟨h1, h2⟩; exact Nat.or_lt_two_pow h1 h2
theorem checkB_7 {b : Bu} (h : ¬ (0 ≤ b.vars ∧ b.vars ≤ 6)) : checkB b = 7 := by unfold checkB; rw [if_pos h]
theorem checkB_1 {b : Bu} (h : 0 ≤ b.vars ∧ b.vars ≤ 6) (h1 : b.states < 0) : checkB b = 1 := by unfold checkB; rw [if_neg (fun q => q h), if_pos h1]
theorem checkB_10 {b : Bu} (h : 0 ≤ b.vars ∧ b.vars ≤ 6) (h1 : ¬ b.states < 0) (h2 : 4096 < b.states) : checkB b = 10 := by unfold checkB; rw [if_neg (fun q => q h), if_neg h1, if_pos h2]
theorem checkB_4 {b : Bu} (h : 0 ≤ b.vars ∧ b.vars ≤ 6) (h1 : ¬ b.states < 0) (h2 : ¬ 4096 < b.states) (h3 : 8 < b.sets.length) : checkB b = 4 := by unfold checkB; rw [if_neg (fun q => q h), if_neg h1, if_neg h2, if_pos h3]
theorem checkB_8 {b : Bu} (h : 0 ≤ b.vars ∧ b.vars ≤ 6) (h1 : ¬ b.states < 0) (h2 : ¬ 4096 < b.states) (h3 : ¬ 8 < b.sets.length) (h4 : ((b.start :: b.sets).all (rises b.states (-1))) = false) : checkB b = 8 := by
  unfold checkB; rw [if_neg (fun q => q h), if_neg h1, if_neg h2, if_neg h3, if_neg]
  rintro ⟨q1, q2⟩; rw [List.all_cons, q1, q2] at h4; cases h4
theorem checkB_e {b : Bu} (h : 0 ≤ b.vars ∧ b.vars ≤ 6) (h1 : ¬ b.states < 0) (h2 : ¬ 4096 < b.states) (h3 : ¬ 8 < b.sets.length) (h4 : ((b.start :: b.sets).all (rises b.states (-1))) = true) : checkB b = edgesE b.states b.vars.toNat (b.edges.drop 0) := by
  unfold checkB; rw [if_neg (fun q => q h), if_neg h1, if_neg h2, if_neg h3, if_pos]
  · rfl
  · rw [List.all_cons, Bool.and_eq_true] at h4; exact h4
theorem all_no {α : Type} {l : List α} {k : Nat} (h : k < l.length) {p : α → Bool} (h2 : p l[k] = false) : l.all p = false := by
  rw [List.all_eq_false]; exact ⟨_, List.getElem_mem h, by rw [h2]; decide⟩
theorem all_snoc {α : Type} {l : List α} {k : Nat} (h : k < l.length) {p : α → Bool} (h1 : (l.take k).all p = true) (h2 : p l[k] = true) : (l.take (k + 1)).all p = true := by
  rw [List.take_succ_eq_append_getElem h, List.all_append, h1]; simp [h2]
theorem all_done {α : Type} {l : List α} {k : Nat} (h : ¬ k < l.length) {p : α → Bool} (h1 : (l.take k).all p = true) : l.all p = true := by rwa [List.take_of_length_le (by omega)] at h1
theorem rises_mem {n : Int} : ∀ {l : List Int} {a : Int}, rises n a l = true → ∀ x ∈ l, a < x ∧ x < n
  | [], _, _, x, hx => by cases hx
  | y :: l, a, h, x, hx => by
    simp only [rises, Bool.and_eq_true, decide_eq_true_eq] at h
    rcases List.mem_cons.1 hx with rfl | hx
    · exact ⟨h.1.1, h.1.2⟩
    · have := rises_mem h.2 x hx; omega
theorem rises_pair {n : Int} : ∀ {l : List Int} {a : Int}, rises n a l = true → l.Pairwise (· < ·)
  | [], _, _ => List.Pairwise.nil
  | y :: l, a, h => by
    simp only [rises, Bool.and_eq_true, decide_eq_true_eq] at h
    exact List.pairwise_cons.2 ⟨fun x hx => (rises_mem h.2 x hx).1, rises_pair h.2⟩
structure ValidB (b : Bu) : Prop where
  v0 : 0 ≤ b.vars
  v6 : b.vars ≤ 6
  n0 : 0 ≤ b.states
  n4 : b.states ≤ 4096
  m8 : b.sets.length ≤ 8
  st : ∀ s ∈ b.start, 0 ≤ s ∧ s < b.states
  sst : b.start.Pairwise (· < ·)
  se : ∀ l ∈ b.sets, ∀ s ∈ l, 0 ≤ s ∧ s < b.states
  sse : ∀ l ∈ b.sets, l.Pairwise (· < ·)
  ed : ∀ e ∈ b.edges, (0 ≤ e.fr ∧ e.fr < b.states) ∧ (0 ≤ e.to ∧ e.to < b.states)
  cu : ∀ e ∈ b.edges, e.pos < 2 ^ b.vars.toNat ∧ e.neg < 2 ^ b.vars.toNat ∧ e.pos &&& e.neg = 0
theorem edgesE_zero {n : Int} {v : Nat} : ∀ {es : List Ed}, edgesE n v es = 0 ↔ (∀ e ∈ es, (0 ≤ e.fr ∧ e.fr < n) ∧ (0 ≤ e.to ∧ e.to < n)) ∧ ∀ e ∈ es, e.pos < 2 ^ v ∧ e.neg < 2 ^ v ∧ e.pos &&& e.neg = 0
  | [] => by simp [edgesE]
  | e :: es => by
    have ih := edgesE_zero (n := n) (v := v) (es := es)
    simp only [edgesE, List.mem_cons, forall_eq_or_imp]
    by_cases h : edgeOk n e = true
    · by_cases h2 : cubeOk v e = true
      · rw [if_pos h, if_pos h2, ih]
        simp only [edgeOk, cubeOk, Bool.and_eq_true, decide_eq_true_eq] at h h2
        exact ⟨fun q => ⟨⟨⟨⟨h.1.1.1, h.1.1.2⟩, h.1.2, h.2⟩, q.1⟩, ⟨h2.1.1, h2.1.2, h2.2⟩, q.2⟩, fun q => ⟨q.1.2, q.2.2⟩⟩
      · rw [if_pos h, if_neg h2]
        refine ⟨fun q => by omega, fun q => (h2 ?_).elim⟩
        simp only [cubeOk, Bool.and_eq_true, decide_eq_true_eq]
        exact ⟨⟨q.2.1.1, q.2.1.2.1⟩, q.2.1.2.2⟩
    · rw [if_neg h]
      refine ⟨fun q => by omega, fun q => (h ?_).elim⟩
      simp only [edgeOk, Bool.and_eq_true, decide_eq_true_eq]
      exact ⟨⟨⟨q.1.1.1.1, q.1.1.1.2⟩, q.1.1.2.1⟩, q.1.1.2.2⟩
theorem rises_of {n : Int} : ∀ {l : List Int} {a : Int}, (∀ x ∈ l, a < x ∧ x < n) → l.Pairwise (· < ·) → rises n a l = true
  | [], _, _, _ => rfl
  | y :: l, a, h, hp => by
    rw [List.pairwise_cons] at hp
    simp only [rises, Bool.and_eq_true, decide_eq_true_eq]
    exact ⟨h y (by simp), rises_of (fun x hx => ⟨hp.1 x hx, (h x (by simp [hx])).2⟩) hp.2⟩
theorem checkB_zero {b : Bu} : checkB b = 0 ↔ ValidB b := by
  unfold checkB
  constructor
  · intro h
    split at h; · cases h
    split at h; · cases h
    split at h; · cases h
    split at h; · cases h
    split at h
    · rename_i h1 h2 h3 h4 h5
      simp only [Classical.not_not] at h1
      have h6 := edgesE_zero.1 h
      have h7 : ∀ l ∈ b.sets, rises b.states (-1) l = true := by simpa using h5.2
      exact { v0 := h1.1, v6 := h1.2, n0 := by omega, n4 := by omega, m8 := by omega, st := fun s hs => by have := rises_mem h5.1 s hs; omega, sst := rises_pair h5.1, se := fun l hl s hs => by have := rises_mem (h7 l hl) s hs; omega, sse := fun l hl => rises_pair (h7 l hl), ed := h6.1, cu := h6.2 }
    · cases h
  · intro h
    rw [if_neg (by have := h.v0; have := h.v6; simp; omega), if_neg (by have := h.n0; omega), if_neg (by have := h.n4; omega), if_neg (by have := h.m8; omega), if_pos, edgesE_zero.2 ⟨h.ed, h.cu⟩]
    refine ⟨rises_of (fun x hx => by have := h.st x hx; omega) h.sst, ?_⟩
    simp only [List.all_eq_true]
    exact fun l hl => rises_of (fun x hx => by have := h.se l hl x hx; omega) (h.sse l hl)
def La.n (l : La) : Nat := l.pre.length + l.loop.length
def La.ix (l : La) (i : Nat) : Nat := if i < l.pre.length then i else l.pre.length + (i - l.pre.length) % max l.loop.length 1
def La.at (l : La) (i : Nat) : Nat := if i < l.pre.length then l.pre.getD i 0 else l.loop.getD ((i - l.pre.length) % max l.loop.length 1) 0
theorem La.ix_lt {l : La} (h : 0 < l.loop.length) (i : Nat) : l.ix i < l.n := by
  unfold La.ix La.n
  split
  · omega
  · have := Nat.mod_lt (i - l.pre.length) (show 0 < max l.loop.length 1 by omega); omega
theorem La.ix_id {l : La} (h : 0 < l.loop.length) {i : Nat} (hi : i < l.n) : l.ix i = i := by
  unfold La.ix
  split
  · rfl
  · unfold La.n at hi
    rw [Nat.mod_eq_of_lt (by omega)]; omega
theorem La.at_ix {l : La} (i : Nat) : l.at (l.ix i) = l.at i := by
  unfold La.at La.ix
  by_cases h : i < l.pre.length
  · simp [h]
  · simp only [h, if_false]
    rw [if_neg (by omega), Nat.add_sub_cancel_left, Nat.mod_mod]
theorem La.ix_succ {l : La} (i : Nat) : l.ix (l.ix i + 1) = l.ix (i + 1) := by
  unfold La.ix
  by_cases h : i < l.pre.length
  · simp [h]
  · simp only [h, if_false]
    rw [if_neg (show ¬ i + 1 < l.pre.length by omega), if_neg (by omega)]
    rw [show l.pre.length + (i - l.pre.length) % max l.loop.length 1 + 1 - l.pre.length = (i - l.pre.length) % max l.loop.length 1 + 1 by omega, show i + 1 - l.pre.length = (i - l.pre.length) + 1 by omega, Nat.mod_add_mod]
def mtch (e : Ed) (x : Nat) : Prop := x &&& e.pos = e.pos ∧ x &&& e.neg = 0
instance (e : Ed) (x : Nat) : Decidable (mtch e x) := by unfold mtch; exact inferInstance
structure Run (b : Bu) (w : Nat → Nat) (s : Nat) (r : Nat → Nat) : Prop where
  s : r 0 = s
  st : ∀ i, ∃ e ∈ b.edges, e.fr = r i ∧ e.to = r (i + 1) ∧ mtch e (w i)
  inf : ∀ S ∈ b.sets, ∀ N, ∃ i, N ≤ i ∧ (r i : Int) ∈ S
def Acc (b : Bu) (w : Nat → Nat) : Prop := ∃ s : Nat, (s : Int) ∈ b.start ∧ ∃ r, Run b w s r
def PE (b : Bu) (l : La) (u v : Nat) : Prop := ∃ e ∈ b.edges, ∃ i, i < l.n ∧ mtch e (l.at i) ∧ u = e.fr.toNat * l.n + i ∧ v = e.to.toNat * l.n + l.ix (i + 1)
def PM (b : Bu) (l : La) (k v : Nat) : Prop := v < b.states.toNat * l.n ∧ ∃ S, b.sets[k]? = some S ∧ ((v / l.n : Nat) : Int) ∈ S
theorem PE.lt {b : Bu} {l : La} (h : ValidB b) (hl : 0 < l.loop.length) {u v : Nat} (he : PE b l u v) : u < b.states.toNat * l.n ∧ v < b.states.toNat * l.n := by
  obtain ⟨e, h1, i, h2, _, rfl, rfl⟩ := he
  have h3 := h.ed e h1
  have h4 := La.ix_lt hl (i + 1)
  have hn : 0 < l.n := by omega
  have key : ∀ a j : Nat, a + 1 ≤ b.states.toNat → j < l.n → a * l.n + j < b.states.toNat * l.n := fun a j ha hj => by
    have := Nat.mul_le_mul_right l.n ha
    rw [Nat.add_mul, Nat.one_mul] at this; omega
  exact ⟨key _ _ (by omega) h2, key _ _ (by omega) h4⟩
theorem live_run {b : Bu} {l : La} (h : ValidB b) (hl : 0 < l.loop.length) {s : Nat} : LiveG (PE b l) b.sets.length (PM b l) (s * l.n) ↔ ∃ r, Run b l.at s r := by
  have hn : 0 < l.n := by have : l.n = l.pre.length + l.loop.length := rfl; omega
  rw [live_iff (fun u w he => he.lt h hl)]
  constructor
  · rintro ⟨q, h1, h2, h3⟩
    have hpos : ∀ i, q i % l.n = l.ix i := by
      intro i
      induction i with
      | zero =>
        rw [h1, Nat.mul_mod_left]
        exact (La.ix_id hl hn).symm
      | succ i ih =>
        obtain ⟨e, _, j, hj, _, e1, e2⟩ := h2 i
        rw [e2, Nat.mul_add_mod_self_right, Nat.mod_eq_of_lt (La.ix_lt hl _)]
        rw [e1, Nat.mul_add_mod_self_right, Nat.mod_eq_of_lt hj] at ih
        rw [ih, La.ix_succ]
    refine ⟨fun i => q i / l.n, ?_, fun i => ?_, fun S hS N => ?_⟩
    · show q 0 / l.n = s
      rw [h1, Nat.mul_div_cancel _ hn]
    · obtain ⟨e, he, j, hj, hm, e1, e2⟩ := h2 i
      have h4 := h.ed e he
      have hp := hpos i
      rw [e1, Nat.mul_add_mod_self_right, Nat.mod_eq_of_lt hj] at hp
      refine ⟨e, he, ?_, ?_, ?_⟩
      · show e.fr = ((q i / l.n : Nat) : Int)
        rw [e1, Nat.mul_comm, Nat.mul_add_div hn, Nat.div_eq_of_lt hj, Nat.add_zero]; omega
      · show e.to = ((q (i + 1) / l.n : Nat) : Int)
        rw [e2, Nat.mul_comm, Nat.mul_add_div hn, Nat.div_eq_of_lt (La.ix_lt hl _), Nat.add_zero]; omega
      · rw [hp, La.at_ix] at hm; exact hm
    · obtain ⟨k, hk, hk'⟩ := List.mem_iff_getElem.1 hS
      obtain ⟨i, hi, _, S', hS', hm⟩ := h3 k hk N
      rw [List.getElem?_eq_getElem hk, hk'] at hS'
      cases hS'
      exact ⟨i, hi, hm⟩
  · rintro ⟨r, h1, h2, h3⟩
    have hr : ∀ i, r i < b.states.toNat := fun i => by
      obtain ⟨e, he, e1, _, _⟩ := h2 i
      have := (h.ed e he).1; omega
    have hdiv : ∀ i, (r i * l.n + l.ix i) / l.n = r i := fun i => by
      rw [Nat.mul_comm, Nat.mul_add_div hn, Nat.div_eq_of_lt (La.ix_lt hl _), Nat.add_zero]
    refine ⟨fun i => r i * l.n + l.ix i, ?_, fun i => ?_, fun k hk N => ?_⟩
    · show r 0 * l.n + l.ix 0 = _
      rw [h1, La.ix_id hl hn, Nat.add_zero]
    · obtain ⟨e, he, e1, e2, hm⟩ := h2 i
      refine ⟨e, he, l.ix i, La.ix_lt hl i, by rw [La.at_ix]; exact hm, ?_, ?_⟩
      · show r i * l.n + l.ix i = _
        rw [e1]; rfl
      · show r (i + 1) * l.n + l.ix (i + 1) = _
        rw [e2, La.ix_succ]; rfl
    · obtain ⟨i, hi, hm⟩ := h3 b.sets[k] (List.getElem_mem hk) N
      refine ⟨i, hi, ?_, b.sets[k], List.getElem?_eq_getElem hk, ?_⟩
      · show r i * l.n + l.ix i < _
        have h4 := Nat.mul_le_mul_right l.n (hr i)
        have := La.ix_lt hl i
        rw [Nat.succ_mul] at h4; omega
      · show (((r i * l.n + l.ix i) / l.n : Nat) : Int) ∈ _
        rw [hdiv]; exact hm
def accL (b : Bu) (l : La) : Prop := ∃ s ∈ b.start, LiveG (PE b l) b.sets.length (PM b l) (s.toNat * l.n)
theorem accL_iff {b : Bu} {l : La} (h : ValidB b) (hl : 0 < l.loop.length) : accL b l ↔ Acc b l.at := by
  constructor
  · rintro ⟨s, h1, h2⟩
    have := h.st s h1
    exact ⟨s.toNat, by rw [Int.toNat_of_nonneg this.1]; exact h1, (live_run h hl).1 h2⟩
  · rintro ⟨s, h1, h2⟩
    exact ⟨s, h1, (live_run h hl).2 h2⟩
theorem accL_word {b : Bu} {l l' : La} (h : ValidB b) (hl : 0 < l.loop.length) (hl' : 0 < l'.loop.length) (he : ∀ i, l.at i = l'.at i) : accL b l ↔ accL b l' := by
  rw [accL_iff h hl, accL_iff h hl', show l.at = l'.at from funext he]
end Go.Lx

namespace Go.Lx
open Go.RowKit
theorem Sub.appL {A B : List Item} (N : List Item) (h : Sub A B) : Sub A (N ++ B) := by
  obtain ⟨l, h1, h2⟩ := h
  exact ⟨l, h1, h2.trans (List.sublist_append_right _ _)⟩
def edC (e : Ed) : List Value := [.int .i64 e.fr, .int .i64 e.to, .int .u8 (e.pos : Int), .int .u8 (e.neg : Int)]
def edsC (es : List Ed) : List Value := es.flatMap edC
theorem eds_len (es : List Ed) : (edsC es).length = es.length * 4 := by
  induction es with
  | nil => rfl
  | cons e es ih => simp only [edsC, List.flatMap_cons, List.length_append] at ih ⊢; simp [edC, ih]; omega
theorem eds_get' : ∀ {es : List Ed} {i : Nat} (h : i < es.length) (j : Nat), j < 4 → (edsC es)[i * 4 + j]? = (edC es[i])[j]?
  | e :: es, 0, _, j, hj => by
    simp only [edsC, List.flatMap_cons, List.getElem_cons_zero]
    rw [List.getElem?_append_left (by simp [edC]; omega)]; simp
  | e :: es, i + 1, h, j, hj => by
    have ih := eds_get' (es := es) (i := i) (by simpa using h) j hj
    simp only [edsC, List.flatMap_cons, List.getElem_cons_succ] at ih ⊢
    rw [List.getElem?_append_right (by simp [edC]; omega)]
    simp only [edC, List.length_cons, List.length_nil] at ih ⊢
    rw [← ih]; congr 1; omega
theorem eds_get {es : List Ed} {i : Nat} (h : i < es.length) : ∀ j (hj : j < [Value.int .i64 es[i].fr, .int .i64 es[i].to, .int .u8 ((es[i].pos : Nat) : Int), .int .u8 ((es[i].neg : Nat) : Int)].length), (edsC es)[i * 4 + j]? = some [Value.int .i64 es[i].fr, .int .i64 es[i].to, .int .u8 ((es[i].pos : Nat) : Int), .int .u8 ((es[i].neg : Nat) : Int)][j] := fun j hj => by
  rw [eds_get' h j (by simpa using hj)]
  exact List.getElem?_eq_getElem (l := edC es[i]) hj
theorem eds_append (a b : List Ed) : edsC (a ++ b) = edsC a ++ edsC b := by simp [edsC]
theorem eds_one (es : List Ed) : ((edsC es).all oneB) = true := by
  simp only [List.all_eq_true, edsC, List.mem_flatMap]
  rintro v ⟨e, _, hv⟩
  simp [edC] at hv
  rcases hv with rfl | rfl | rfl | rfl <;> rfl
structure BuAt (w : World) (b : Bu) (sb eb tb : Option Addr) (vs : List Value) : Prop where
  st : Sl w sb (ints b.start)
  ed : Sl w eb (edsC b.edges)
  out : Sl w tb vs
  rows : RowsR w vs b.sets
@[simp] abbrev buCells (b : Bu) (sb : Option Addr) (sc : Nat) (eb : Option Addr) (ec : Nat) (tb : Option Addr) (tc : Nat) : List Value := [.int .i64 b.vars, .int .i64 b.states, .slice sb b.start.length sc, .slice eb b.edges.length ec, .slice tb b.sets.length tc]
theorem BuAt.keep {w w' : World} {b : Bu} {sb eb tb : Option Addr} {vs : List Value} (h : BuAt w b sb eb tb vs) (hb : ∀ k, k < w.heap.size → w'.heap[k]? = w.heap[k]?) : BuAt w' b sb eb tb vs :=
  ⟨h.st.keep hb, h.ed.keep hb, h.out.keep hb, h.rows.keep hb⟩
theorem Inv.bu {base : World} {O : List Item} {w : World} (hI : Inv base O w) {b : Bu} {sb eb tb : Option Addr} {vs : List Value} (h : BuAt base b sb eb tb vs) : BuAt w b sb eb tb vs := h.keep hI.below.block
structure BuB (b : Bu) : Prop where
  st : b.start.length ≤ 1000000
  ed : b.edges.length ≤ 1000000
  se : b.sets.length ≤ 1000000
  sr : ∀ r ∈ b.sets, r.length ≤ 1000000
  pn : ∀ e ∈ b.edges, e.pos < 256 ∧ e.neg < 256
theorem La.ix_pre {l : La} {i : Nat} (h : i < l.pre.length) : l.ix i = i := by unfold La.ix; rw [if_pos h]
theorem La.ix_loop {l : La} {i : Nat} (h0 : 0 < l.loop.length) (h : l.pre.length ≤ i) : l.ix i = l.pre.length + (i - l.pre.length) % l.loop.length := by
  unfold La.ix; rw [if_neg (by omega), show max l.loop.length 1 = l.loop.length by omega]
theorem La.at_pre {l : La} {i : Nat} (h : i < l.pre.length) : l.at i = l.pre[i] := by unfold La.at; rw [if_pos h]; simp [h]
theorem La.at_loop {l : La} {i : Nat} (h0 : 0 < l.loop.length) (h : l.pre.length ≤ i) : l.at i = l.loop[(i - l.pre.length) % l.loop.length]'(Nat.mod_lt _ h0) := by
  unfold La.at; rw [if_neg (by omega), show max l.loop.length 1 = l.loop.length by omega]
  have := Nat.mod_lt (i - l.pre.length) h0
  simp [this]
theorem La.at_lt {l : La} {n : Nat} (h0 : 0 < l.loop.length) (hp : ∀ x ∈ l.pre, x < n) (hl : ∀ x ∈ l.loop, x < n) (i : Nat) : l.at i < n := by
  by_cases h : i < l.pre.length
  · rw [La.at_pre h]; exact hp _ (List.getElem_mem h)
  · rw [La.at_loop h0 (by omega)]; exact hl _ (List.getElem_mem _)
structure LaAt (w : World) (l : La) (pb lb : Option Addr) (pc lc : Nat) : Prop where
  pre : Sl w pb (byts l.pre)
  loop : Sl w lb (byts l.loop)
  pc : l.pre.length ≤ pc
  lc : l.loop.length ≤ lc
@[simp] abbrev laCells (l : La) (pb : Option Addr) (pc : Nat) (lb : Option Addr) (lc : Nat) : List Value := [.slice pb l.pre.length pc, .slice lb l.loop.length lc]
theorem LaAt.keep {w w' : World} {l : La} {pb lb : Option Addr} {pc lc : Nat} (h : LaAt w l pb lb pc lc) (hb : ∀ k, k < w.heap.size → w'.heap[k]? = w.heap[k]?) : LaAt w' l pb lb pc lc := ⟨h.pre.keep hb, h.loop.keep hb, h.pc, h.lc⟩
theorem Inv.la {base : World} {O : List Item} {w : World} (hI : Inv base O w) {l : La} {pb lb : Option Addr} {pc lc : Nat} (h : LaAt base l pb lb pc lc) : LaAt w l pb lb pc lc := h.keep hI.below.block
structure LaB (l : La) : Prop where
  pre : l.pre.length ≤ 1000000
  loop : l.loop.length ≤ 1000000
  p8 : ∀ x ∈ l.pre, x < 256
  l8 : ∀ x ∈ l.loop, x < 256
abbrev fn (l : List Nat) : Nat → Nat := fun v => l.getD v 0
theorem fn_set {l : List Nat} {v a : Nat} (h : v < l.length) (x : Nat) : fn (l.set v a) x = if x = v then a else fn l x := by
  show (l.set v a).getD x 0 = _
  rw [List.getD_eq_getElem?_getD, List.getElem?_set]
  by_cases e : v = x
  · subst e; simp [h]
  · rw [if_neg e, if_neg (fun h => e h.symm)]; simp
theorem fn_get {l : List Nat} {v : Nat} (h : v < l.length) : fn l v = l[v] := by show l.getD v 0 = _; simp [h]
abbrev fz (l : List Int) : Nat → Int := fun v => l.getD v (-1)
theorem fz_set {l : List Int} {v : Nat} {a : Int} (h : v < l.length) (x : Nat) : fz (l.set v a) x = if x = v then a else fz l x := by
  show (l.set v a).getD x (-1) = _
  rw [List.getD_eq_getElem?_getD, List.getElem?_set]
  by_cases e : v = x
  · subst e; simp [h]
  · rw [if_neg e, if_neg (fun h => e h.symm)]; simp
theorem fz_get {l : List Int} {v : Nat} (h : v < l.length) : fz l v = l[v] := by show l.getD v (-1) = _; simp [h]
abbrev fb (l : List Bool) : Nat → Bool := fun v => l.getD v false
theorem fb_set {l : List Bool} {v : Nat} {a : Bool} (h : v < l.length) (x : Nat) : fb (l.set v a) x = if x = v then a else fb l x := by
  show (l.set v a).getD x false = _
  rw [List.getD_eq_getElem?_getD, List.getElem?_set]
  by_cases e : v = x
  · subst e; simp [h]
  · rw [if_neg e, if_neg (fun h => e h.symm)]; simp
abbrev uns (l : List Nat) : List Value := l.map fun x : Nat => Value.int .u64 (x : Int)
theorem uns_get {l : List Nat} {i : Nat} (h : i < l.length := by first | assumption | omega | (simp; omega) | simp_all) : (uns l)[i]? = some (.int .u64 ((l[i] : Nat) : Int)) := by simp [h]
abbrev nilRec : Rec := ⟨none, 0, []⟩
theorem Inv.nilRows {base : World} {O : List Item} {w : World} (h : Inv base O w) (E : TypeId) : ∀ n : Nat, Inv base (itms E (List.replicate n nilRec) ++ O) w
  | 0 => h
  | n + 1 => by
    have := (Inv.nilRows h E n).nilRow E 1
    exact this
theorem T.nilRows {P : Program} {r : Option Nat} {base : World} {n : Nat} {c : Code} {Q : Post} {ρ : Env} {O : List Item} (E : TypeId) (k : Nat) (h : T P r base n c Q ρ (O ++ itms E (List.replicate k nilRec))) : T P r base n c Q ρ O :=
  fun a w M D hM ha hi => h a w M D hM ha ((hi.nilRows E k).perm (by
    have h1 : (O ++ itms E (List.replicate k nilRec)).Perm (itms E (List.replicate k nilRec) ++ O) := List.perm_append_comm
    have h2 := h1.append_right (mI D ++ M)
    rw [List.append_assoc (itms E (List.replicate k nilRec)) O] at h2
    exact h2))
theorem itms_at {E : TypeId} {qs : List Rec} {c : Nat} (h : c < qs.length) {X : List Item} : rowI qs[c].b qs[c].c E 1 (ints qs[c].xs) ∈ X ++ itms E qs := List.mem_append_right _ (List.mem_map.2 ⟨qs[c], List.getElem_mem h, rfl⟩)
theorem vals_at {qs : List Rec} {c : Nat} (h : c < qs.length) : (vals qs)[c]? = some (.slice qs[c].b qs[c].xs.length qs[c].c) := by simp [h, Rec.val]
theorem itms_out {E : TypeId} : ∀ {qs : List Rec} {c : Nat} (h : c < qs.length), (itms E qs).Perm (qs[c].itm E :: itms E (qs.eraseIdx c))
  | q :: qs, 0, _ => by simp
  | q :: qs, c + 1, h => by
    have ih := itms_out (E := E) (qs := qs) (c := c) (by simpa using h)
    simp only [itms, List.map_cons, List.eraseIdx_cons_succ, List.getElem_cons_succ] at ih ⊢
    exact (ih.cons _).trans (List.Perm.swap _ _ _)
theorem sub_out {E : TypeId} {qs : List Rec} {c : Nat} (h : c < qs.length) (X : List Item) : Sub (qs[c].itm E :: (X ++ itms E (qs.eraseIdx c))) (X ++ itms E qs) := by
  refine ⟨X ++ itms E qs, ?_, List.Sublist.refl _⟩
  exact ((List.perm_middle (a := qs[c].itm E) (l₁ := X)).symm).trans ((itms_out h).symm.append_left X)
theorem sub_in {E : TypeId} {qs : List Rec} {c : Nat} (h : c < qs.length) (X : List Item) (q : Rec) {cs : List Value} (hc : cs = ints q.xs) : Sub (X ++ itms E (qs.set c q)) (rowI q.b q.c E 1 cs :: (X ++ itms E (qs.eraseIdx c))) := by
  subst hc
  have h1 := itms_out (E := E) (qs := qs.set c q) (c := c) (by simpa using h)
  rw [List.getElem_set_self, List.eraseIdx_set_eq] at h1
  refine ⟨_, ?_, List.Sublist.refl _⟩
  exact (h1.append_left X).trans (List.perm_middle (a := q.itm E) (l₁ := X))
theorem nums_set {qs : List Rec} {c : Nat} {q : Rec} : nums (qs.set c q) = (nums qs).set c q.xs := by simp [nums]
theorem RowsR.cons {w : World} {vs : List Value} {rs : List (List Int)} (h : RowsR w vs rs) {b : Option Addr} {c : Nat} {xs : List Int} (hs : Sl w b (ints xs)) : RowsR w (.slice b xs.length c :: vs) (xs :: rs) :=
  ⟨by simp [h.1], fun i r hr => by
    cases i with
    | zero => simp at hr; subst hr; exact ⟨b, c, rfl, hs⟩
    | succ i => exact h.2 i r (by simpa using hr)⟩
theorem RowsR.one {w : World} {vs : List Value} {rs : List (List Int)} (h : RowsR w vs rs) : (vs.all oneB) = true := by
  rw [List.all_eq_true]
  intro v hv
  obtain ⟨i, hi, rfl⟩ := List.mem_iff_getElem.1 hv
  obtain ⟨b, c, g, _⟩ := h.get (i := i) (by rw [← h.1]; exact hi)
  rw [List.getElem?_eq_getElem hi] at g
  rw [Option.some.inj g]; rfl
structure BuRef where
  b : Bu
  sb : Option Addr
  sc : Nat
  eb : Option Addr
  ec : Nat
  tb : Option Addr
  tc : Nat
  vs : List Value
def BuRef.cells (q : BuRef) : List Value := buCells q.b q.sb q.sc q.eb q.ec q.tb q.tc
def busC (qs : List BuRef) : List Value := qs.flatMap BuRef.cells
structure LaRef where
  l : La
  pb : Option Addr
  pc : Nat
  lb : Option Addr
  lc : Nat
def LaRef.cells (q : LaRef) : List Value := laCells q.l q.pb q.pc q.lb q.lc
def lasC (qs : List LaRef) : List Value := qs.flatMap LaRef.cells
theorem flat_get {α : Type} {F : α → List Value} {k : Nat} (hF : ∀ a, (F a).length = k) : ∀ {qs : List α} {i : Nat} (h : i < qs.length) (j : Nat), j < k → (qs.flatMap F)[i * k + j]? = (F qs[i])[j]?
  | e :: es, 0, _, j, hj => by
    simp only [List.flatMap_cons, List.getElem_cons_zero]
    rw [List.getElem?_append_left (by rw [hF]; omega)]; simp
  | e :: es, i + 1, h, j, hj => by
    have ih := flat_get hF (qs := es) (i := i) (by simpa using h) j hj
    simp only [List.flatMap_cons, List.getElem_cons_succ] at ih ⊢
    have : (i + 1) * k + j = i * k + j + k := by rw [Nat.add_mul, Nat.one_mul]; omega
    rw [List.getElem?_append_right (by rw [hF]; omega), hF, ← ih]; congr 1; omega
theorem flat_len {α : Type} {F : α → List Value} {k : Nat} (hF : ∀ a, (F a).length = k) : ∀ (qs : List α), (qs.flatMap F).length = qs.length * k
  | [] => by simp
  | q :: qs => by rw [List.flatMap_cons, List.length_append, hF, flat_len hF qs, List.length_cons, Nat.add_mul]; omega
theorem bus_get {qs : List BuRef} {i : Nat} (h : i < qs.length) (j : Nat) (hj : j < 5) : (busC qs)[i * 5 + j]? = (qs[i].cells)[j]? := flat_get (F := BuRef.cells) (fun _ => rfl) h j hj
theorem bus_len (qs : List BuRef) : (busC qs).length = qs.length * 5 := flat_len (F := BuRef.cells) (fun _ => rfl) qs
theorem las_get {qs : List LaRef} {i : Nat} (h : i < qs.length) (j : Nat) (hj : j < 2) : (lasC qs)[i * 2 + j]? = (qs[i].cells)[j]? := flat_get (F := LaRef.cells) (fun _ => rfl) h j hj
theorem las_len (qs : List LaRef) : (lasC qs).length = qs.length * 2 := flat_len (F := LaRef.cells) (fun _ => rfl) qs
def longN (b : Bu) : Bool := decide (40 < b.start.length ∨ 60 < b.edges.length ∨ 12 < b.sets.length ∨ (20 < b.states ∧ b.states ≤ 4096))
def longB (b : Bu) : Bool := longN b || b.sets.any (fun r => decide (40 < r.length))
def longL (l : La) : Bool := decide (70 < l.pre.length ∨ 70 < l.loop.length)
theorem any_snoc {α : Type} {l : List α} {k : Nat} (h : k < l.length) {p : α → Bool} (h1 : (l.take k).any p = false) (h2 : p l[k] = false) : (l.take (k + 1)).any p = false := by
  rw [List.take_succ_eq_append_getElem h, List.any_append, h1]; simp [h2]
theorem any_hit {α : Type} {l : List α} {k : Nat} (h : k < l.length) {p : α → Bool} (h2 : p l[k] = true) : l.any p = true := List.any_eq_true.2 ⟨_, List.getElem_mem h, h2⟩
theorem any_done {α : Type} {l : List α} {k : Nat} (h : ¬ k < l.length) {p : α → Bool} (h1 : (l.take k).any p = false) : l.any p = false := by rwa [List.take_of_length_le (by omega)] at h1
end Go.Lx

namespace Go.Lx
open Go.RowKit Go.ChangeShapes Go.WideShapes Go.Deep
set_option linter.unusedVariables false
section
variable {H : Type} {enc : TypeId × Value → H} {P : Program}
theorem open_nums {tr ti : TypeId} {W : World} {c : Value} {cs : List Value} {x : DataW H × List MemPlace} {fuel : Nat} (hrow : P.underlying tr = some (.slice ti)) (hi : P.underlying ti = some (.int .i64)) (ci : P.cellsOf ti = 1) (bi : 0 < P.bytesOf ti)
    (hcs : cs = [c]) (hw : ∀ m ∈ x.1.weights P tr, m ≤ reachBytes) (g : DataW.trod enc P W 0 (fun _ => true) true fuel tr cs = some x) :
    ∃ (b : Option Addr) (cp : Nat) (xs : List Int), c = .slice b xs.length cp ∧ xs.length ≤ reachBytes ∧ Sl W b (ints xs) := by
  subst hcs
  rcases open_ints hrow hi ci g with ⟨h, _⟩ | ⟨a, len, cap, zs, h, _, hl, _, hz, hx, hcell, _⟩
  · exact ⟨none, 0, [], by simpa using h, Nat.zero_le _, Sl.nil _ _⟩
  · simp only [if_true] at hz
    rw [congrArg Prod.fst hx] at hw
    have hb := (slice_bound hrow bi hw).1
    have hln : (zs.take len).length = len := by rw [List.length_take]; omega
    have hb' : len ≤ reachBytes := by
      have : (lits (H := H) .i64 (zs.take len)).length = len := by simp [lits]; omega
      omega
    refine ⟨some a, cap, zs.take len, by rw [hln]; simpa using h, by omega, ?_⟩
    have := intsOf (w := W) (A := some a) (L := len) (C := cap) (Z := zs) hl hz (fun h => by cases h) (fun a' h => by cases h; exact ⟨Nat.zero_le _, fun i hi => hcell i (by omega)⟩)
    exact this.2
theorem open_numrows {tn tr ti : TypeId} {W : World} {c2 : Value} {cs : List Value} {x : DataW H × List MemPlace} {fuel : Nat} (hn : P.underlying tn = some (.slice tr)) (hrow : P.underlying tr = some (.slice ti)) (hi : P.underlying ti = some (.int .i64)) (cr : P.cellsOf tr = 1) (ci : P.cellsOf ti = 1) (br : 0 < P.bytesOf tr) (bi : 0 < P.bytesOf ti)
    (hcs : cs = [c2]) (hw2 : ∀ m ∈ x.1.weights P tn, m ≤ reachBytes) (g2 : DataW.trod enc P W 0 (fun _ => true) true fuel tn cs = some x) :
    ∃ (nb : Option Addr) (nc : Nat) (rows : List (List Int)) (vs : List Value), c2 = .slice nb rows.length nc ∧ rows.length ≤ reachBytes ∧ (∀ r ∈ rows, r.length ≤ reachBytes) ∧ Sl W nb vs ∧ RowsR W vs rows := by
  subst hcs
  rcases open_int_rows hn hrow hi cr ci g2 with ⟨hcs2, _⟩ | ⟨a, len, cap, A, L, C, Z, hcs2, _, hlc, hcm, hx2, hall⟩
  · exact ⟨none, 0, [], [], by simpa using hcs2, Nat.zero_le _, fun r hr => (List.not_mem_nil hr).elim, Sl.nil _ _, rfl, fun i r hr => by simp at hr⟩
  · rw [congrArg Prod.fst hx2] at hw2
    obtain ⟨hwl, hwr⟩ := slice_bound hn br hw2
    have hwl' : len ≤ reachBytes := by simpa using hwl
    have hwrow : ∀ r, r < len → L r ≤ reachBytes := fun r hr => by
      obtain ⟨_, a2, _, a4, _, a6, _⟩ := hall r (by omega)
      have hm := hwr _ (List.mem_map.2 ⟨r, List.mem_range.2 hr, rfl⟩)
      cases hA : A r with
      | none => have := a6 hA; omega
      | some b =>
        rw [hA] at hm
        have := (slice_bound hrow bi hm).1
        simp [lits] at this
        omega
    have hrl : ∀ r, r < len → ((Z r).take (L r)).length = L r ∧ Sl W (A r) (ints ((Z r).take (L r))) := fun r hr => by
      obtain ⟨_, a2, a3, a4, _, a6, a7⟩ := hall r (by omega)
      exact intsOf a2 a4 a6 a7
    refine ⟨some a, cap, (List.range len).map fun r => (Z r).take (L r), (List.range len).map fun r => .slice (A r) (L r) (C r), by simpa using hcs2, by simp; omega, ?_, ?_, by simp, ?_⟩
    · intro r hr
      obtain ⟨j, hj, rfl⟩ := List.mem_map.1 hr
      have hj' := List.mem_range.1 hj
      rw [(hrl j hj').1]; exact hwrow j hj'
    · refine Sl.ofCells fun i hi9 => ?_
      have hi' : i < len := by simpa using hi9
      rw [(hall i (by omega)).1]; simp
    · intro i r hr
      have hi' : i < len := by
        have := (List.getElem?_eq_some_iff.1 hr).1
        simpa using this
      have er : r = (Z i).take (L i) := by
        rw [List.getElem?_map, List.getElem?_range hi'] at hr
        exact (Option.some.inj hr).symm
      subst er
      refine ⟨A i, C i, ?_, (hrl i hi').2⟩
      rw [List.getElem?_map, List.getElem?_range hi', (hrl i hi').1]; rfl
theorem open_edges {te e ti tu : TypeId} {f0 f1 f2 f3 : Field} {W : World} {c : Value} {cs : List Value} {x : DataW H × List MemPlace} {fuel : Nat} (ht : P.underlying te = some (.slice e)) (he : P.underlying e = some (.struct #[f0, f1, f2, f3])) (ce : P.cellsOf e = 4) (be : 0 < P.bytesOf e)
    (h0 : f0.type = ti) (h1 : f1.type = ti) (h2 : f2.type = tu) (h3 : f3.type = tu) (o0 : f0.offset = 0) (o1 : f1.offset = 1) (o2 : f2.offset = 2) (o3 : f3.offset = 3)
    (hi : P.underlying ti = some (.int .i64)) (hu : P.underlying tu = some (.int .u8)) (ci : P.cellsOf ti = 1) (cu : P.cellsOf tu = 1)
    (hcs : cs = [c]) (hw : ∀ m ∈ x.1.weights P te, m ≤ reachBytes) (g : DataW.trod enc P W 0 (fun _ => true) true fuel te cs = some x) :
    ∃ (b : Option Addr) (cp : Nat) (es : List Ed), c = .slice b es.length cp ∧ es.length ≤ reachBytes ∧ Sl W b (edsC es) ∧ ∀ e ∈ es, e.pos < 256 ∧ e.neg < 256 := by
  subst hcs
  rcases open_slice ht g with ⟨h, _⟩ | ⟨a, len, cap, m, n, D, Pl, h, _, hl, _, hm, hx, hall⟩
  · exact ⟨none, 0, [], by simpa using h, Nat.zero_le _, Sl.nil _ _, fun e h => by cases h⟩
  · simp only [if_true] at hm
    have hm' := hm.symm
    subst hm'
    rw [congrArg Prod.fst hx] at hw
    have hb := (slice_bound ht be hw).1
    have hb' : len ≤ reachBytes := by simpa using hb
    have each : ∀ i, i < cap → ∃ q : Ed, (q.pos < 256 ∧ q.neg < 256) ∧ ∀ j, j < 4 → W.cell? (a.add (i * 4 + j)) = (edC q)[j]? := by
      intro i hi9
      obtain ⟨cs', k1, k2⟩ := hall i hi9
      rw [ce] at k1
      obtain ⟨_, hlen, hcell⟩ := World.cells?_some k1
      obtain ⟨xs, k, hk, hxy, _, hxl, hf⟩ := DataW.trod_struct he k2
      match xs, hxl, cs', hlen with
      | [y0, y1, y2, y3], _, [v0, v1, v2, v3], _ =>
        have g0 := hf 0 f0 rfl
        have g1 := hf 1 f1 rfl
        have g2 := hf 2 f2 rfl
        have g3 := hf 3 f3 rfl
        rw [h0, o0, ci] at g0
        rw [h1, o1, ci] at g1
        rw [h2, o2, cu] at g2
        rw [h3, o3, cu] at g3
        obtain ⟨n0, e0, _, w0⟩ := DataW.trod_int hi g0
        obtain ⟨n1, e1, _, w1⟩ := DataW.trod_int hi g1
        obtain ⟨n2, e2, _, w2⟩ := DataW.trod_int hu g2
        obtain ⟨n3, e3, _, w3⟩ := DataW.trod_int hu g3
        have e0' : v0 = .int .i64 n0 := by simpa using e0
        have e1' : v1 = .int .i64 n1 := by simpa using e1
        have e2' : v2 = .int .u8 n2 := by simpa using e2
        have e3' : v3 = .int .u8 n3 := by simpa using e3
        subst e0' e1' e2' e3'
        have b2 := wfU8 w2
        have b3 := wfU8 w3
        refine ⟨⟨n0, n1, n2.toNat, n3.toNat⟩, ⟨by simp only; omega, by simp only; omega⟩, fun j hj => ?_⟩
        have q := hcell j hj
        rw [add_add] at q
        rw [q]
        match j, hj with
        | 0, _ => rfl
        | 1, _ => rfl
        | 2, _ => simp [edC, Int.toNat_of_nonneg b2.1]
        | 3, _ => simp [edC, Int.toNat_of_nonneg b3.1]
    have : Inhabited Ed := ⟨⟨0, 0, 0, 0⟩⟩
    obtain ⟨q, hq⟩ := choose_lt each
    refine ⟨some a, cap, (List.range len).map q, by simpa using h, by simp; omega, Sl.ofCells fun i hi9 => ?_, fun e he9 => ?_⟩
    · have hi' : i < len * 4 := by rw [eds_len] at hi9; simpa using hi9
      have h4 := (hq (i / 4) (by omega)).2 (i % 4) (by omega)
      rw [show i / 4 * 4 + i % 4 = i by omega] at h4
      rw [h4]
      have h5 := eds_get' (es := (List.range len).map q) (i := i / 4) (by simp; omega) (i % 4) (by omega)
      rw [show i / 4 * 4 + i % 4 = i by omega, List.getElem?_eq_getElem hi9] at h5
      rw [h5]; simp
    · obtain ⟨j, hj, rfl⟩ := List.mem_map.1 he9
      exact (hq j (by have := List.mem_range.1 hj; omega)).1
structure BuIn (P : Program) (W : World) (v : Value) (b : Bu) (sb eb tb : Option Addr) (sc ec tc : Nat) (vs : List Value) : Prop where
  val : v = .agg (buCells b sb sc eb ec tb tc).toArray
  at_ : BuAt W b sb eb tb vs
  pn : ∀ e ∈ b.edges, e.pos < 256 ∧ e.neg < 256
  s : b.start.length ≤ reachBytes
  e : b.edges.length ≤ reachBytes
  t : b.sets.length ≤ reachBytes
  r : ∀ r ∈ b.sets, r.length ≤ reachBytes
theorem open_bu {t ti tr te e tn tu : TypeId} {f0 f1 f2 f3 f4 : Field} {g0 g1 g2 g3 : Field} {W : World} {v : Value} {d : DataW H} {p : List MemPlace}
    (ht : P.underlying t = some (.struct #[f0, f1, f2, f3, f4])) (hc : P.cellsOf t = 5) (h0 : f0.type = ti) (h1 : f1.type = ti) (h2 : f2.type = tr) (h3 : f3.type = te) (h4 : f4.type = tn) (o0 : f0.offset = 0) (o1 : f1.offset = 1) (o2 : f2.offset = 2) (o3 : f3.offset = 3) (o4 : f4.offset = 4)
    (hi : P.underlying ti = some (.int .i64)) (hn : P.underlying tn = some (.slice tr)) (hrow : P.underlying tr = some (.slice ti)) (hte : P.underlying te = some (.slice e)) (he : P.underlying e = some (.struct #[g0, g1, g2, g3])) (hu : P.underlying tu = some (.int .u8))
    (k0 : g0.type = ti) (k1 : g1.type = ti) (k2 : g2.type = tu) (k3 : g3.type = tu) (q0 : g0.offset = 0) (q1 : g1.offset = 1) (q2 : g2.offset = 2) (q3 : g3.offset = 3)
    (ci : P.cellsOf ti = 1) (cn : P.cellsOf tn = 1) (cr : P.cellsOf tr = 1) (cte : P.cellsOf te = 1) (ce : P.cellsOf e = 4) (cu : P.cellsOf tu = 1) (br : 0 < P.bytesOf tr) (bi : 0 < P.bytesOf ti) (be : 0 < P.bytesOf e) (hw : ∀ m ∈ d.weights P t, m ≤ reachBytes)
    (h : DataW.Trod enc P W 0 (fun _ => true) true t v d p) : ∃ b sb eb tb sc ec tc vs, BuIn P W v b sb eb tb sc ec tc vs := by
  obtain ⟨fuel, hT⟩ := h
  obtain ⟨xs, n, rfl, hx, hlen, hxl, hfs⟩ := DataW.trod_struct ht hT
  rw [hc] at hlen
  obtain ⟨c0, c1, c2, c3, c4, hcs⟩ : ∃ c0 c1 c2 c3 c4, v.cells.toList = [c0, c1, c2, c3, c4] := by
    match hh : v.cells.toList, hlen with
    | [a, b, c, e, f], _ => exact ⟨a, b, c, e, f, rfl⟩
  have hv : v = .agg #[c0, c1, c2, c3, c4] := by
    have hsz : v.cells.size = 5 := by rw [← Array.length_toList, hcs]; rfl
    cases v with
    | agg cs =>
      have : cs.toList = [c0, c1, c2, c3, c4] := hcs
      rw [← Array.toArray_toList (xs := cs), this]
    | _ => simp [Value.cells] at hsz
  rw [hcs] at hfs
  obtain ⟨x0, x1, x2, x3, x4, rfl⟩ : ∃ a b c e f, xs = [a, b, c, e, f] := by
    match xs, hxl with
    | [a, b, c, e, f], _ => exact ⟨a, b, c, e, f, rfl⟩
  have p0 := hfs 0 f0 rfl
  have p1 := hfs 1 f1 rfl
  have p2 := hfs 2 f2 rfl
  have p3 := hfs 3 f3 rfl
  have p4 := hfs 4 f4 rfl
  rw [h0, o0, ci] at p0
  rw [h1, o1, ci] at p1
  rw [h2, o2, cr] at p2
  rw [h3, o3, cte] at p3
  rw [h4, o4, cn] at p4
  have hd : d = .agg [x0.1, x1.1, x2.1, x3.1, x4.1] := congrArg Prod.fst hx
  have hwe : d.weights P t = DataW.weightsEach P [ti, ti, tr, te, tn] [x0.1, x1.1, x2.1, x3.1, x4.1] := by
    rw [hd, DataW.weights, ht]
    simp [h0, h1, h2, h3, h4]
  rw [hwe] at hw
  have hw2 : ∀ m ∈ x2.1.weights P tr, m ≤ reachBytes := fun m hm => hw m (DataW.weights_mem_each (j := 2) rfl rfl m hm)
  have hw3 : ∀ m ∈ x3.1.weights P te, m ≤ reachBytes := fun m hm => hw m (DataW.weights_mem_each (j := 3) rfl rfl m hm)
  have hw4 : ∀ m ∈ x4.1.weights P tn, m ≤ reachBytes := fun m hm => hw m (DataW.weights_mem_each (j := 4) rfl rfl m hm)
  obtain ⟨n0, e0, _, _⟩ := DataW.trod_int hi p0
  obtain ⟨n1, e1, _, _⟩ := DataW.trod_int hi p1
  have e0' : c0 = .int .i64 n0 := by simpa using e0
  have e1' : c1 = .int .i64 n1 := by simpa using e1
  subst e0' e1'
  obtain ⟨sb, sc, ss, e2, l2, s2⟩ := open_nums (c := c2) hrow hi ci bi rfl hw2 p2
  obtain ⟨eb, ec, es, e3, l3, s3, pn⟩ := open_edges (c := c3) hte he ce be k0 k1 k2 k3 q0 q1 q2 q3 hi hu ci cu rfl hw3 p3
  obtain ⟨tb, tc, ts, vs, e4, l4, r4, s4, t4⟩ := open_numrows (c2 := c4) hn hrow hi cr ci br bi rfl hw4 p4
  exact ⟨⟨n0, n1, ss, es, ts⟩, sb, eb, tb, sc, ec, tc, vs, by rw [hv, e2, e3, e4], ⟨s2, s3, s4, t4⟩, pn, l2, l3, l4, r4⟩
theorem open_bytes {t e : TypeId} {W : World} {c : Value} {cs : List Value} {x : DataW H × List MemPlace} {fuel : Nat} (ht : P.underlying t = some (.slice e)) (he : P.underlying e = some (.int .u8)) (ce : P.cellsOf e = 1) (be : 0 < P.bytesOf e)
    (hcs : cs = [c]) (hw : ∀ m ∈ x.1.weights P t, m ≤ reachBytes) (g : DataW.trod enc P W 0 (fun _ => true) true fuel t cs = some x) :
    ∃ (l : List Nat) (b : Option Addr) (cp : Nat), c = .slice b l.length cp ∧ l.length ≤ reachBytes ∧ l.length ≤ cp ∧ Sl W b (byts l) ∧ ∀ x ∈ l, x < 256 := by
  subst hcs
  rcases open_ints ht he ce g with ⟨h, _⟩ | ⟨a, len, cap, zs, h, _, hl, _, hz, hx, hcell, hwz⟩
  · exact ⟨[], none, 0, by simpa using h, Nat.zero_le _, Nat.zero_le _, Sl.nil _ _, fun x hx => by cases hx⟩
  · simp only [if_true] at hz
    rw [congrArg Prod.fst hx] at hw
    have hb := (slice_bound ht be hw).1
    have hln : (zs.take len).length = len := by rw [List.length_take]; omega
    have hwt : ∀ z ∈ zs, 0 ≤ z ∧ z < 256 := fun z hz => wfU8 (hwz z hz)
    have hb' : len ≤ reachBytes := by
      have : (lits (H := H) .u8 (zs.take len)).length = len := by simp [lits]; omega
      omega
    refine ⟨(zs.take len).map Int.toNat, some a, cap, ?_, ?_, ?_, Sl.ofCells fun i hi => ?_, ?_⟩
    · rw [List.length_map, hln]; simpa using h
    · rw [List.length_map, hln]; exact hb'
    · rw [List.length_map, hln]; exact hl
    · have hi' : i < len := by rw [List.length_map, List.length_map, hln] at hi; exact hi
      have hiz : i < zs.length := by omega
      have hz0 := (hwt _ (List.getElem_mem hiz)).1
      rw [hcell i hiz]
      simp [hiz, Int.toNat_of_nonneg hz0]
    · intro x hx
      obtain ⟨z, hz', rfl⟩ := List.mem_map.1 hx
      have := hwt z (List.mem_of_mem_take hz')
      omega
structure LaIn (P : Program) (W : World) (v : Value) (l : La) (pb lb : Option Addr) (pc lc : Nat) : Prop where
  val : v = .agg (laCells l pb pc lb lc).toArray
  at_ : LaAt W l pb lb pc lc
  p8 : ∀ x ∈ l.pre, x < 256
  l8 : ∀ x ∈ l.loop, x < 256
  p : l.pre.length ≤ reachBytes
  l : l.loop.length ≤ reachBytes
theorem open_la {t tw tu : TypeId} {f0 f1 : Field} {W : World} {v : Value} {d : DataW H} {p : List MemPlace}
    (ht : P.underlying t = some (.struct #[f0, f1])) (hc : P.cellsOf t = 2) (h0 : f0.type = tw) (h1 : f1.type = tw) (o0 : f0.offset = 0) (o1 : f1.offset = 1)
    (hn : P.underlying tw = some (.slice tu)) (hu : P.underlying tu = some (.int .u8)) (cw : P.cellsOf tw = 1) (cu : P.cellsOf tu = 1) (bu : 0 < P.bytesOf tu) (hw : ∀ m ∈ d.weights P t, m ≤ reachBytes)
    (h : DataW.Trod enc P W 0 (fun _ => true) true t v d p) : ∃ l pb lb pc lc, LaIn P W v l pb lb pc lc := by
  obtain ⟨fuel, hT⟩ := h
  obtain ⟨xs, n, rfl, hx, hlen, hxl, hfs⟩ := DataW.trod_struct ht hT
  rw [hc] at hlen
  obtain ⟨c0, c1, hcs⟩ : ∃ c0 c1, v.cells.toList = [c0, c1] := by
    match hh : v.cells.toList, hlen with
    | [a, b], _ => exact ⟨a, b, rfl⟩
  have hv : v = .agg #[c0, c1] := by
    have hsz : v.cells.size = 2 := by rw [← Array.length_toList, hcs]; rfl
    cases v with
    | agg cs =>
      have : cs.toList = [c0, c1] := hcs
      rw [← Array.toArray_toList (xs := cs), this]
    | _ => simp [Value.cells] at hsz
  rw [hcs] at hfs
  obtain ⟨x0, x1, rfl⟩ : ∃ a b, xs = [a, b] := by
    match xs, hxl with
    | [a, b], _ => exact ⟨a, b, rfl⟩
  have p0 := hfs 0 f0 rfl
  have p1 := hfs 1 f1 rfl
  rw [h0, o0, cw] at p0
  rw [h1, o1, cw] at p1
  have hd : d = .agg [x0.1, x1.1] := congrArg Prod.fst hx
  have hwe : d.weights P t = DataW.weightsEach P [tw, tw] [x0.1, x1.1] := by
    rw [hd, DataW.weights, ht]
    simp [h0, h1]
  rw [hwe] at hw
  have hw0 : ∀ m ∈ x0.1.weights P tw, m ≤ reachBytes := fun m hm => hw m (DataW.weights_mem_each (j := 0) rfl rfl m hm)
  have hw1 : ∀ m ∈ x1.1.weights P tw, m ≤ reachBytes := fun m hm => hw m (DataW.weights_mem_each (j := 1) rfl rfl m hm)
  obtain ⟨l0, b0, cp0, e0, a0, m0, s0, r0⟩ := open_bytes (c := c0) hn hu cu bu rfl hw0 p0
  obtain ⟨l1, b1, cp1, e1, a1, m1, s1, r1⟩ := open_bytes (c := c1) hn hu cu bu rfl hw1 p1
  exact ⟨⟨l0, l1⟩, b0, b1, cp0, cp1, by rw [hv, e0, e1], ⟨s0, s1, m0, m1⟩, r0, r1, a0, a1⟩
end
end Go.Lx

namespace Go.Proofs.Ytnamoapbienooaa
open Go.Lx Go.RowKit
theorem mixed : Try.prog.follows .mixedOrders = true := by kernel_rfl
theorem inf3 : Inf Try.prog 3 (.int .i64 0) 1 8 := by unfold Inf; kernel_rfl
theorem inf4 : Inf Try.prog 4 (.bool false) 1 1 := by unfold Inf; kernel_rfl
theorem inf5 : Inf Try.prog 5 (.int .u8 0) 1 1 := by unfold Inf; kernel_rfl
theorem inf22 : Inf Try.prog 22 ((.slice none 0 0)) 1 24 := by unfold Inf; kernel_rfl
theorem inf23 : Inf Try.prog 23 ((.slice none 0 0)) 1 24 := by unfold Inf; kernel_rfl
theorem inf24 : Inf Try.prog 24 ((.slice none 0 0)) 1 24 := by unfold Inf; kernel_rfl
theorem inf26 : Inf Try.prog 26 ((.agg #[(.int .i64 0), (.int .i64 0), (.slice none 0 0), (.slice none 0 0), (.slice none 0 0)])) 5 88 := by unfold Inf; kernel_rfl
theorem inf27 : Inf Try.prog 27 ((.slice none 0 0)) 1 24 := by unfold Inf; kernel_rfl
theorem inf29 : Inf Try.prog 29 ((.agg #[(.slice none 0 0), (.slice none 0 0)])) 2 48 := by unfold Inf; kernel_rfl
theorem inf39 : Inf Try.prog 39 ((.slice none 0 0)) 1 24 := by unfold Inf; kernel_rfl
theorem inf52 : Inf Try.prog 52 (.int .u64 0) 1 8 := by unfold Inf; kernel_rfl
theorem inf54 : Inf Try.prog 54 ((.agg #[(.int .i64 0), (.int .i64 0), (.int .u8 0), (.int .u8 0)])) 4 24 := by unfold Inf; kernel_rfl
theorem inf77 : Inf Try.prog 77 ((.slice none 0 0)) 1 24 := by unfold Inf; kernel_rfl
theorem inf79 : Inf Try.prog 79 ((.agg #[(.slice none 0 0), (.slice none 0 0), (.int .u64 0)])) 3 56 := by unfold Inf; kernel_rfl
theorem inf91 : Inf Try.prog 91 ((.agg #[(.int .i64 0), (.int .i64 0), (.slice none 0 0), (.slice none 0 0), (.slice none 0 0), (.slice none 0 0), (.slice none 0 0)])) 7 136 := by unfold Inf; kernel_rfl
theorem inf104 : Inf Try.prog 104 (.nilFunc) 1 8 := by unfold Inf; kernel_rfl
theorem inf116 : Inf Try.prog 116 ((.agg #[(.int .u8 0), (.int .u8 0)])) 2 2 := by unfold Inf; kernel_rfl
theorem inf129 : Inf Try.prog 129 ((.agg #[(.int .i64 0), (.int .i64 0)])) 2 16 := by unfold Inf; kernel_rfl
theorem plan26 : Plan Try.prog 26 [(0, 1), (1, 1), (2, 1), (3, 1), (4, 1)] := ⟨_, Try.underlying26, fun w => by simp [run_sizeOf' inf3, run_sizeOf' inf22, run_sizeOf' inf23, run_sizeOf' inf24]⟩
theorem plan29 : Plan Try.prog 29 [(0, 1), (1, 1)] := ⟨_, Try.underlying29, fun w => by simp [run_sizeOf' inf27]⟩
theorem plan54 : Plan Try.prog 54 [(0, 1), (1, 1), (2, 1), (3, 1)] := ⟨_, Try.underlying54, fun w => by simp [run_sizeOf' inf3, run_sizeOf' inf5]⟩
theorem plan79 : Plan Try.prog 79 [(0, 1), (1, 1), (2, 1)] := ⟨_, Try.underlying79, fun w => by simp [run_sizeOf' inf24, run_sizeOf' inf52, run_sizeOf' inf77]⟩
theorem plan91 : Plan Try.prog 91 [(0, 5), (5, 1), (6, 1)] := ⟨_, Try.underlying91, fun w => by simp [run_sizeOf' inf22, run_sizeOf' inf24, run_sizeOf' inf26]⟩
theorem plan116 : Plan Try.prog 116 [(0, 1), (1, 1)] := ⟨_, Try.underlying116, fun w => by simp [run_sizeOf' inf5]⟩
theorem plan129 : Plan Try.prog 129 [(0, 1), (1, 1)] := ⟨_, Try.underlying129, fun w => by simp [run_sizeOf' inf3]⟩
theorem ent11 : Enters Try.prog 11 Try.f11 := ⟨Try.func11, by kernel_rfl, rfl⟩
theorem ent12 : Enters Try.prog 12 Try.f12 := ⟨Try.func12, by kernel_rfl, rfl⟩
theorem ent13 : Enters Try.prog 13 Try.f13 := ⟨Try.func13, by kernel_rfl, rfl⟩
theorem ent14 : Enters Try.prog 14 Try.f14 := ⟨Try.func14, by kernel_rfl, rfl⟩
theorem ent15 : Enters Try.prog 15 Try.f15 := ⟨Try.func15, by kernel_rfl, rfl⟩
theorem ent16 : Enters Try.prog 16 Try.f16 := ⟨Try.func16, by kernel_rfl, rfl⟩
theorem ent17 : Enters Try.prog 17 Try.f17 := ⟨Try.func17, by kernel_rfl, rfl⟩
theorem ent18 : Enters Try.prog 18 Try.f18 := ⟨Try.func18, by kernel_rfl, rfl⟩
theorem ent19 : Enters Try.prog 19 Try.f19 := ⟨Try.func19, by kernel_rfl, rfl⟩
theorem ent20 : Enters Try.prog 20 Try.f20 := ⟨Try.func20, by kernel_rfl, rfl⟩
theorem ent21 : Enters Try.prog 21 Try.f21 := ⟨Try.func21, by kernel_rfl, rfl⟩
theorem ent22 : Enters Try.prog 22 Try.f22 := ⟨Try.func22, by kernel_rfl, rfl⟩
theorem ent23 : Enters Try.prog 23 Try.f23 := ⟨Try.func23, by kernel_rfl, rfl⟩
theorem ent24 : Enters Try.prog 24 Try.f24 := ⟨Try.func24, by kernel_rfl, rfl⟩
theorem ent25 : Enters Try.prog 25 Try.f25 := ⟨Try.func25, by kernel_rfl, rfl⟩
theorem ent26 : Enters Try.prog 26 Try.f26 := ⟨Try.func26, by kernel_rfl, rfl⟩
theorem ent27 : Enters Try.prog 27 Try.f27 := ⟨Try.func27, by kernel_rfl, rfl⟩
theorem ent28 : Enters Try.prog 28 Try.f28 := ⟨Try.func28, by kernel_rfl, rfl⟩
theorem ent29 : Enters Try.prog 29 Try.f29 := ⟨Try.func29, by kernel_rfl, rfl⟩
theorem ent31 : Enters Try.prog 31 Try.f31 := ⟨Try.func31, by kernel_rfl, rfl⟩
theorem ent33 : Enters Try.prog 33 Try.f33 := ⟨Try.func33, by kernel_rfl, rfl⟩
theorem ent34 : Enters Try.prog 34 Try.f34 := ⟨Try.func34, by kernel_rfl, rfl⟩
theorem ent44 : Enters Try.prog 44 Try.f44 := ⟨Try.func44, by kernel_rfl, rfl⟩
theorem ent47 : Enters Try.prog 47 Try.f47 := ⟨Try.func47, by kernel_rfl, rfl⟩
theorem ent48 : Enters Try.prog 48 Try.f48 := ⟨Try.func48, by kernel_rfl, rfl⟩
theorem ent49 : Enters Try.prog 49 Try.f49 := ⟨Try.func49, by kernel_rfl, rfl⟩
theorem ent50 : Enters Try.prog 50 Try.f50 := ⟨Try.func50, by kernel_rfl, rfl⟩
theorem ent51 : Enters Try.prog 51 Try.f51 := ⟨Try.func51, by kernel_rfl, rfl⟩
theorem ent52 : Enters Try.prog 52 Try.f52 := ⟨Try.func52, by kernel_rfl, rfl⟩
theorem ent53 : Enters Try.prog 53 Try.f53 := ⟨Try.func53, by kernel_rfl, rfl⟩
theorem ent54 : Enters Try.prog 54 Try.f54 := ⟨Try.func54, by kernel_rfl, rfl⟩
theorem ent55 : Enters Try.prog 55 Try.f55 := ⟨Try.func55, by kernel_rfl, rfl⟩
theorem ent56 : Enters Try.prog 56 Try.f56 := ⟨Try.func56, by kernel_rfl, rfl⟩
theorem ent57 : Enters Try.prog 57 Try.f57 := ⟨Try.func57, by kernel_rfl, rfl⟩
theorem ent58 : Enters Try.prog 58 Try.f58 := ⟨Try.func58, by kernel_rfl, rfl⟩
theorem ent59 : Enters Try.prog 59 Try.f59 := ⟨Try.func59, by kernel_rfl, rfl⟩
theorem ent60 : Enters Try.prog 60 Try.f60 := ⟨Try.func60, by kernel_rfl, rfl⟩
theorem ent61 : Enters Try.prog 61 Try.f61 := ⟨Try.func61, by kernel_rfl, rfl⟩
theorem ent62 : Enters Try.prog 62 Try.f62 := ⟨Try.func62, by kernel_rfl, rfl⟩
theorem ent63 : Enters Try.prog 63 Try.f63 := ⟨Try.func63, by kernel_rfl, rfl⟩
theorem ent64 : Enters Try.prog 64 Try.f64 := ⟨Try.func64, by kernel_rfl, rfl⟩
theorem ent65 : Enters Try.prog 65 Try.f65 := ⟨Try.func65, by kernel_rfl, rfl⟩
theorem ent66 : Enters Try.prog 66 Try.f66 := ⟨Try.func66, by kernel_rfl, rfl⟩
theorem ent67 : Enters Try.prog 67 Try.f67 := ⟨Try.func67, by kernel_rfl, rfl⟩
theorem ent68 : Enters Try.prog 68 Try.f68 := ⟨Try.func68, by kernel_rfl, rfl⟩
theorem ent69 : Enters Try.prog 69 Try.f69 := ⟨Try.func69, by kernel_rfl, rfl⟩
theorem ent70 : Enters Try.prog 70 Try.f70 := ⟨Try.func70, by kernel_rfl, rfl⟩
theorem ent71 : Enters Try.prog 71 Try.f71 := ⟨Try.func71, by kernel_rfl, rfl⟩
theorem ent72 : Enters Try.prog 72 Try.f72 := ⟨Try.func72, by kernel_rfl, rfl⟩
theorem ent73 : Enters Try.prog 73 Try.f73 := ⟨Try.func73, by kernel_rfl, rfl⟩
theorem ent74 : Enters Try.prog 74 Try.f74 := ⟨Try.func74, by kernel_rfl, rfl⟩
theorem ent75 : Enters Try.prog 75 Try.f75 := ⟨Try.func75, by kernel_rfl, rfl⟩
theorem ent76 : Enters Try.prog 76 Try.f76 := ⟨Try.func76, by kernel_rfl, rfl⟩
theorem ent77 : Enters Try.prog 77 Try.f77 := ⟨Try.func77, by kernel_rfl, rfl⟩
theorem ent78 : Enters Try.prog 78 Try.f78 := ⟨Try.func78, by kernel_rfl, rfl⟩
theorem ent79 : Enters Try.prog 79 Try.f79 := ⟨Try.func79, by kernel_rfl, rfl⟩
theorem ent80 : Enters Try.prog 80 Try.f80 := ⟨Try.func80, by kernel_rfl, rfl⟩
theorem ent81 : Enters Try.prog 81 Try.f81 := ⟨Try.func81, by kernel_rfl, rfl⟩
theorem ent82 : Enters Try.prog 82 Try.f82 := ⟨Try.func82, by kernel_rfl, rfl⟩
theorem ent83 : Enters Try.prog 83 Try.f83 := ⟨Try.func83, by kernel_rfl, rfl⟩
theorem ent97 : Enters Try.prog 97 Try.f97 := ⟨Try.func97, by kernel_rfl, rfl⟩
theorem ent98 : Enters Try.prog 98 Try.f98 := ⟨Try.func98, by kernel_rfl, rfl⟩
theorem ent99 : Enters Try.prog 99 Try.f99 := ⟨Try.func99, by kernel_rfl, rfl⟩
theorem ent100 : Enters Try.prog 100 Try.f100 := ⟨Try.func100, by kernel_rfl, rfl⟩
theorem ent101 : Enters Try.prog 101 Try.f101 := ⟨Try.func101, by kernel_rfl, rfl⟩
theorem ent102 : Enters Try.prog 102 Try.f102 := ⟨Try.func102, by kernel_rfl, rfl⟩
theorem ent103 : Enters Try.prog 103 Try.f103 := ⟨Try.func103, by kernel_rfl, rfl⟩
theorem ent104 : Enters Try.prog 104 Try.f104 := ⟨Try.func104, by kernel_rfl, rfl⟩
theorem ent105 : Enters Try.prog 105 Try.f105 := ⟨Try.func105, by kernel_rfl, rfl⟩
theorem ent106 : Enters Try.prog 106 Try.f106 := ⟨Try.func106, by kernel_rfl, rfl⟩
theorem ent107 : Enters Try.prog 107 Try.f107 := ⟨Try.func107, by kernel_rfl, rfl⟩
theorem ent108 : Enters Try.prog 108 Try.f108 := ⟨Try.func108, by kernel_rfl, rfl⟩
theorem ent112 : Enters Try.prog 112 Try.f112 := ⟨Try.func112, by kernel_rfl, rfl⟩
theorem ent113 : Enters Try.prog 113 Try.f113 := ⟨Try.func113, by kernel_rfl, rfl⟩
end Go.Proofs.Ytnamoapbienooaa

namespace Go.Proofs.Ytnamoapbienooaa
open Go.ChangeShapes Go.WideShapes Go.ChangeAt Go.RowKit Go.Lx
set_option maxRecDepth 100000
theorem own : ownKnob Try.prog.godebug = none := by kernel_rfl
theorem laidOut : laidOutB Try.prog = true := by kernel_rfl
theorem reads26 : Try.prog.readableRec 26 = true := by kernel_rfl
theorem lt26 : 26 < Try.prog.types.size := of_decide_eq_true (by kernel_rfl)
theorem reads29 : Try.prog.readableRec 29 = true := by kernel_rfl
theorem lt29 : 29 < Try.prog.types.size := of_decide_eq_true (by kernel_rfl)
theorem openB {H : Type} {enc : TypeId × Value → H} {W : World} {v : Value} {d : DataW H} {p : List MemPlace} (hw : ∀ m ∈ d.weights Try.prog 26, m ≤ reachBytes) (h : DataW.Trod enc Try.prog W 0 (fun _ => true) true 26 v d p) : ∃ b sb eb tb sc ec tc vs, BuIn Try.prog W v b sb eb tb sc ec tc vs :=
  open_bu Try.underlying26 (by kernel_rfl) rfl rfl rfl rfl rfl rfl rfl rfl rfl rfl Try.underlying3 Try.underlying24 Try.underlying22 Try.underlying23 Try.underlying54 Try.underlying5 rfl rfl rfl rfl rfl rfl rfl rfl (by kernel_rfl) (by kernel_rfl) (by kernel_rfl) (by kernel_rfl) (by kernel_rfl) (by kernel_rfl) (of_decide_eq_true (by kernel_rfl)) (of_decide_eq_true (by kernel_rfl)) (of_decide_eq_true (by kernel_rfl)) hw h
theorem openL {H : Type} {enc : TypeId × Value → H} {W : World} {v : Value} {d : DataW H} {p : List MemPlace} (hw : ∀ m ∈ d.weights Try.prog 29, m ≤ reachBytes) (h : DataW.Trod enc Try.prog W 0 (fun _ => true) true 29 v d p) : ∃ l pb lb pc lc, LaIn Try.prog W v l pb lb pc lc :=
  open_la Try.underlying29 (by kernel_rfl) rfl rfl rfl rfl Try.underlying27 Try.underlying5 (by kernel_rfl) (by kernel_rfl) (of_decide_eq_true (by kernel_rfl)) hw h
noncomputable def laidWorld (os : Os) : World := World.holding Try.prog os ⟨#[], #[], []⟩
end Go.Proofs.Ytnamoapbienooaa

namespace Go.Proofs.Ytnamoapbienooaa
open Go.Lx Go.RowKit
set_option linter.unusedVariables false
set_option linter.unusedSimpArgs false
theorem edgeT : EdgeX Try.prog 54 := ⟨_, _, _, _, { under := Try.underlying54, u1 := Try.underlying3, u2 := Try.underlying3, u3 := Try.underlying5, u4 := Try.underlying5, o1 := rfl, o2 := rfl, o3 := rfl, o4 := rfl, n1 := by decide, n2 := by decide, n3 := by decide, n4 := by decide, held := by kernel_rfl, guard := by kernel_rfl }⟩
set_option maxHeartbeats 1000000 in
set_option maxRecDepth 20000 in
theorem equalInts (w : World) (b1 b2 : Option Addr) (c1 c2 : Nat) (xs ys : List Int) (h1 : Sl w b1 (ints xs)) (h2 : Sl w b2 (ints ys)) (hb : xs.length < 9223372036854775807) :
    PureT Try.prog 47 [(.slice b1 xs.length c1), (.slice b2 ys.length c2)] w fun v N => v = .bool (decide (xs = ys)) ∧ N = [] := by
  refine CallT.enter Try.func47 rfl Try.ntmps47 rfl ?_
  refine T.seq (T.region ?_)
  refine TO.quiet (q_assign rfl) ?_
  refine TO.nil (T.seq (T.seq (T.region ?_)))
  refine TO.quiet (q_move rfl) (TO.quiet (q_len Try.underlying22 rfl) (TO.quiet (q_move rfl) (TO.quiet (q_len Try.underlying22 rfl) ?_)))
  refine TO.quiet (q_neq rfl rfl) ?_
  refine TO.nil ?_
  refine T.condP rfl (fun hc => ?_) (fun hc => ?_)
  · have hlt10 : xs.length ≠ ys.length := by omega
    have hlen : xs.length ≠ ys.length := by omega
    refine T.seq (T.region ?_)
    refine TO.quiet (q_assign rfl) ?_
    refine TO.nil (T.ret ?_)
    refine Res.one (.bool false) Try.results47 rfl ?_
    exact ⟨congrArg Value.bool (decide_eq_false (fun e => hlen (by rw [e]))).symm, rfl⟩
  have hge10 : ¬ xs.length ≠ ys.length := by omega
  have hlen : xs.length = ys.length := by omega
  refine T.skip (T.seq (T.seq (T.region ?_)))
  refine TO.quiet (q_assign rfl) ?_
  refine TO.nil (T.block ?_)
  refine T.loop (fun (k : Nat) ρ O => O = [] ∧ k ≤ xs.length ∧ xs.take k = ys.take k ∧ Heads [(0, (.slice b1 xs.length c1)), (1, (.slice b2 ys.length c2)), (5, .int .i64 (k : Int))] ρ) (fun k => xs.length - k) 0 ?_ ?_
  · exact ⟨rfl, Nat.zero_le _, rfl, ⟨rfl, rfl, rfl, trivial⟩⟩
  rintro k ρ O ⟨rfl, hk, he, hH⟩
  obtain ⟨ρ0, rfl⟩ := hH.elim
  clear hH
  refine T.seq (T.seq (T.region ?_))
  refine TO.quiet (q_move rfl) (TO.quiet (q_move rfl) (TO.quiet (q_len Try.underlying22 rfl) (TO.quiet (q_lss rfl rfl) ?_)))
  refine TO.nil ?_
  refine T.condP rfl (fun hc => ?_) (fun hc => ?_)
  · have hlt14 : k < xs.length := by omega
    have hlt : k < xs.length := by omega
    have hlt2 : k < ys.length := by omega
    obtain ⟨kb1, ko1, rfl⟩ := h1.addr (i := k) (by simpa using hlt)
    obtain ⟨kb2, ko2, rfl⟩ := h2.addr (i := k) (by simpa using hlt2)
    refine T.skip (T.seq (T.block (T.seq ?_)))
    refine T.draws _ [(0, 0), (1, 0), (2, 0), (3, 0), (4, 0), (5, 0), (6, 0), (7, 0), (8, 0)] mixed (by kernel_rfl) (Sub.of (List.Sublist.refl _)) (fun _ _ _ h => h) ?_
    refine DO.quiet rfl (q_move rfl) (DO.quiet rfl (q_move rfl) (DO.quiet rfl (q_idx Try.underlying22 inf3 rfl rfl hlt) (DO.quiet rfl (q_load_sl Try.underlying3 rfl rfl h1 (ints_get hlt)) ?_)))
    refine DO.quiet rfl (q_move rfl) (DO.quiet rfl (q_move rfl) (DO.quiet rfl (q_idx Try.underlying22 inf3 rfl rfl hlt2) (DO.quiet rfl (q_load_sl Try.underlying3 rfl rfl h2 (ints_get hlt2)) ?_)))
    refine DO.quiet rfl (q_neq rfl rfl) ?_
    refine DO.done ?_
    refine T.condP (p := ¬ xs[k] = ys[k]) rfl (fun hc => ?_) (fun hc => ?_)
    · refine T.seq ?_
      refine T.region ?_
      refine TO.quiet (q_assign rfl) ?_
      refine TO.nil (T.ret ?_)
      refine Res.one (.bool false) Try.results47 rfl ?_
      exact ⟨congrArg Value.bool (decide_eq_false (fun e => hc (by subst e; rfl))).symm, rfl⟩
    refine T.skip (T.region ?_)
    refine TO.quiet (q_move rfl) (TO.quiet (q_inc rfl rfl (by omega)) (TO.quiet (q_assign rfl) ?_))
    refine TO.nil ?_
    refine ⟨k + 1, by omega, rfl, by omega, ?_, ⟨rfl, rfl, rfl, trivial⟩⟩
    rw [List.take_succ_eq_append_getElem hlt, List.take_succ_eq_append_getElem hlt2, he]
    exact congrArg _ (congrArg (fun z => [z]) (Classical.not_not.1 hc))
  have hge14 : ¬ k < xs.length := by omega
  refine T.exit ?_
  refine T.seq (T.region ?_)
  refine TO.quiet (q_assign rfl) ?_
  refine TO.nil (T.ret ?_)
  refine Res.one (.bool true) Try.results47 rfl ?_
  exact ⟨congrArg Value.bool (decide_eq_true (show xs = ys by rw [List.take_of_length_le (by omega), List.take_of_length_le (by omega)] at he; exact he)).symm, rfl⟩
set_option maxHeartbeats 1000000 in
set_option maxRecDepth 20000 in
theorem equalBools (w : World) (b1 b2 : Option Addr) (c1 c2 : Nat) (xs ys : List Bool) (h1 : Sl w b1 (bools xs)) (h2 : Sl w b2 (bools ys)) (hb : xs.length < 9223372036854775807) :
    PureT Try.prog 23 [(.slice b1 xs.length c1), (.slice b2 ys.length c2)] w fun v N => v = .bool (decide (xs = ys)) ∧ N = [] := by
  refine CallT.enter Try.func23 rfl Try.ntmps23 rfl ?_
  refine T.seq (T.region ?_)
  refine TO.quiet (q_assign rfl) ?_
  refine TO.nil (T.seq (T.seq (T.region ?_)))
  refine TO.quiet (q_move rfl) (TO.quiet (q_len Try.underlying39 rfl) (TO.quiet (q_move rfl) (TO.quiet (q_len Try.underlying39 rfl) ?_)))
  refine TO.quiet (q_neq rfl rfl) ?_
  refine TO.nil ?_
  refine T.condP rfl (fun hc => ?_) (fun hc => ?_)
  · have hlt10 : xs.length ≠ ys.length := by omega
    have hlen : xs.length ≠ ys.length := by omega
    refine T.seq (T.region ?_)
    refine TO.quiet (q_assign rfl) ?_
    refine TO.nil (T.ret ?_)
    refine Res.one (.bool false) Try.results23 rfl ?_
    exact ⟨congrArg Value.bool (decide_eq_false (fun e => hlen (by rw [e]))).symm, rfl⟩
  have hge10 : ¬ xs.length ≠ ys.length := by omega
  have hlen : xs.length = ys.length := by omega
  refine T.skip (T.seq (T.seq (T.region ?_)))
  refine TO.quiet (q_assign rfl) ?_
  refine TO.nil (T.block ?_)
  refine T.loop (fun (k : Nat) ρ O => O = [] ∧ k ≤ xs.length ∧ xs.take k = ys.take k ∧ Heads [(0, (.slice b1 xs.length c1)), (1, (.slice b2 ys.length c2)), (5, .int .i64 (k : Int))] ρ) (fun k => xs.length - k) 0 ?_ ?_
  · exact ⟨rfl, Nat.zero_le _, rfl, ⟨rfl, rfl, rfl, trivial⟩⟩
  rintro k ρ O ⟨rfl, hk, he, hH⟩
  obtain ⟨ρ0, rfl⟩ := hH.elim
  clear hH
  refine T.seq (T.seq (T.region ?_))
  refine TO.quiet (q_move rfl) (TO.quiet (q_move rfl) (TO.quiet (q_len Try.underlying39 rfl) (TO.quiet (q_lss rfl rfl) ?_)))
  refine TO.nil ?_
  refine T.condP rfl (fun hc => ?_) (fun hc => ?_)
  · have hlt14 : k < xs.length := by omega
    have hlt : k < xs.length := by omega
    have hlt2 : k < ys.length := by omega
    obtain ⟨kb1, ko1, rfl⟩ := h1.addr (i := k) (by simpa using hlt)
    obtain ⟨kb2, ko2, rfl⟩ := h2.addr (i := k) (by simpa using hlt2)
    refine T.skip (T.seq (T.block (T.seq ?_)))
    refine T.draws _ [(0, 0), (1, 0), (2, 0), (3, 0), (4, 0), (5, 0), (6, 0), (7, 0), (8, 0)] mixed (by kernel_rfl) (Sub.of (List.Sublist.refl _)) (fun _ _ _ h => h) ?_
    refine DO.quiet rfl (q_move rfl) (DO.quiet rfl (q_move rfl) (DO.quiet rfl (q_idx Try.underlying39 inf4 rfl rfl hlt) (DO.quiet rfl (q_load_sl Try.underlying4 rfl rfl h1 (bools_get hlt)) ?_)))
    refine DO.quiet rfl (q_move rfl) (DO.quiet rfl (q_move rfl) (DO.quiet rfl (q_idx Try.underlying39 inf4 rfl rfl hlt2) (DO.quiet rfl (q_load_sl Try.underlying4 rfl rfl h2 (bools_get hlt2)) ?_)))
    refine DO.quiet rfl (q_bneq Try.underlying4 rfl rfl) ?_
    refine DO.done ?_
    refine T.condP (p := ¬ xs[k] = ys[k]) (congrArg Value.bool (by cases xs[k] <;> cases ys[k] <;> rfl)) (fun hc => ?_) (fun hc => ?_)
    · refine T.seq ?_
      refine T.region ?_
      refine TO.quiet (q_assign rfl) ?_
      refine TO.nil (T.ret ?_)
      refine Res.one (.bool false) Try.results23 rfl ?_
      exact ⟨congrArg Value.bool (decide_eq_false (fun e => hc (by subst e; rfl))).symm, rfl⟩
    refine T.skip (T.region ?_)
    refine TO.quiet (q_move rfl) (TO.quiet (q_inc rfl rfl (by omega)) (TO.quiet (q_assign rfl) ?_))
    refine TO.nil ?_
    refine ⟨k + 1, by omega, rfl, by omega, ?_, ⟨rfl, rfl, rfl, trivial⟩⟩
    rw [List.take_succ_eq_append_getElem hlt, List.take_succ_eq_append_getElem hlt2, he]
    exact congrArg _ (congrArg (fun z => [z]) (Classical.not_not.1 hc))
  have hge14 : ¬ k < xs.length := by omega
  refine T.exit ?_
  refine T.seq (T.region ?_)
  refine TO.quiet (q_assign rfl) ?_
  refine TO.nil (T.ret ?_)
  refine Res.one (.bool true) Try.results23 rfl ?_
  exact ⟨congrArg Value.bool (decide_eq_true (show xs = ys by rw [List.take_of_length_le (by omega), List.take_of_length_le (by omega)] at he; exact he)).symm, rfl⟩
set_option maxHeartbeats 1000000 in
set_option maxRecDepth 20000 in
theorem copyInts (w : World) (b1 : Option Addr) (c1 : Nat) (xs : List Int) (h1 : Sl w b1 (ints xs)) (hb : xs.length * 8 ≤ 70368744177664) :
    PureT Try.prog 48 [.slice b1 xs.length c1] w fun v N => ∃ b c, v = .slice b xs.length c ∧ N = [rowI b c 3 1 (ints xs)] := by
  refine CallT.enter Try.func48 rfl Try.ntmps48 rfl ?_
  refine T.seq (T.region ?_)
  refine TO.quiet (q_assign rfl) ?_
  refine TO.nil (T.seq (T.region ?_))
  refine TO.quiet (q_move rfl) ?_
  refine TO.loud rfl (l_appendN (l := xs.length) Try.underlying22 Try.underlying22 inf3 rfl rfl rfl (by decide) (Src.sl h1 (by simp)) (ints_one xs) (by omega) (by decide) (by decide) (fun b1 c2 => ?_))
  refine TO.quiet (q_assign rfl) ?_
  refine TO.nil (T.ret ?_)
  refine Res.one (.slice b1 xs.length c2) Try.results48 rfl ?_
  exact ⟨_, _, rfl, rfl⟩
set_option maxHeartbeats 1000000 in
set_option maxRecDepth 20000 in
theorem equalRows (w : World) (b1 b2 : Option Addr) (c1 c2 : Nat) (vs us : List Value) (rs ss : List (List Int)) (h1 : Sl w b1 vs) (hr1 : RowsR w vs rs) (h2 : Sl w b2 us) (hr2 : RowsR w us ss) (hb : rs.length < 9223372036854775807) (hbr : ∀ r ∈ rs, r.length < 9223372036854775807) :
    PureT Try.prog 67 [.slice b1 rs.length c1, .slice b2 ss.length c2] w fun v N => v = .bool (decide (rs = ss)) ∧ N = [] := by
  refine CallT.enter Try.func67 rfl Try.ntmps67 rfl ?_
  refine T.seq (T.region ?_)
  refine TO.quiet (q_assign rfl) ?_
  refine TO.nil (T.seq (T.seq (T.region ?_)))
  refine TO.quiet (q_move rfl) (TO.quiet (q_len Try.underlying24 rfl) (TO.quiet (q_move rfl) (TO.quiet (q_len Try.underlying24 rfl) ?_)))
  refine TO.quiet (q_neq rfl rfl) ?_
  refine TO.nil ?_
  refine T.condP rfl (fun hc => ?_) (fun hc => ?_)
  · have hlt10 : rs.length ≠ ss.length := by omega
    have hlen : rs.length ≠ ss.length := by omega
    refine T.seq (T.region ?_)
    refine TO.quiet (q_assign rfl) ?_
    refine TO.nil (T.ret ?_)
    refine Res.one (.bool false) Try.results67 rfl ?_
    exact ⟨congrArg Value.bool (decide_eq_false (fun e => hlen (by rw [e]))).symm, rfl⟩
  have hge10 : ¬ rs.length ≠ ss.length := by omega
  have hlen : rs.length = ss.length := by omega
  refine T.skip (T.seq (T.seq (T.region ?_)))
  refine TO.quiet (q_assign rfl) ?_
  refine TO.nil (T.block ?_)
  refine T.loop (fun (k : Nat) ρ O => O = [] ∧ k ≤ rs.length ∧ rs.take k = ss.take k ∧ Heads [(0, (.slice b1 rs.length c1)), (1, (.slice b2 ss.length c2)), (5, .int .i64 (k : Int))] ρ) (fun k => rs.length - k) 0 ?_ ?_
  · exact ⟨rfl, Nat.zero_le _, rfl, ⟨rfl, rfl, rfl, trivial⟩⟩
  rintro k ρ O ⟨rfl, hk, he, hH⟩
  obtain ⟨ρ0, rfl⟩ := hH.elim
  clear hH
  refine T.seq (T.seq (T.region ?_))
  refine TO.quiet (q_move rfl) (TO.quiet (q_move rfl) (TO.quiet (q_len Try.underlying24 rfl) (TO.quiet (q_lss rfl rfl) ?_)))
  refine TO.nil ?_
  refine T.condP rfl (fun hc => ?_) (fun hc => ?_)
  · have hlt14 : k < rs.length := by omega
    have hlt : k < rs.length := by omega
    have hlt2 : k < ss.length := by omega
    obtain ⟨vb1, vc1, g1, s1⟩ := hr1.get hlt
    obtain ⟨vb2, vc2, g2, s2⟩ := hr2.get hlt2
    obtain ⟨kb1, ko1, rfl⟩ := h1.addr (i := k) (by rw [hr1.1]; exact hlt)
    obtain ⟨kb2, ko2, rfl⟩ := h2.addr (i := k) (by rw [hr2.1]; exact hlt2)
    refine T.skip (T.seq (T.block (T.seq ?_)))
    refine T.draws _ [(0, 0), (1, 0), (2, 0), (3, 0), (4, 0), (5, 0), (6, 0), (7, 0), (8, 2), (9, 2)] mixed (by kernel_rfl) (Sub.of (List.Sublist.refl _)) (fun _ _ _ h => h) ?_
    refine DO.quiet rfl (q_move rfl) (DO.quiet rfl (q_move rfl) (DO.quiet rfl (q_idx Try.underlying24 inf22 rfl rfl hlt) (DO.quiet rfl (q_load_sl Try.underlying22 rfl rfl h1 g1) ?_)))
    refine DO.quiet rfl (q_move rfl) (DO.quiet rfl (q_move rfl) (DO.quiet rfl (q_idx Try.underlying24 inf22 rfl rfl hlt2) (DO.quiet rfl (q_load_sl Try.underlying22 rfl rfl h2 g2) ?_)))
    have hk25 := fun (w1 : World) (hI : Inv w [] w1) => equalInts w1 vb1 vb2 vc1 vc2 rs[k] ss[k] (hI.sl s1) (hI.sl s2) (hbr _ (List.getElem_mem hlt))
    refine DO.last rfl rfl (l_call ent47 (CallT.of_pure hk25) rfl ?_)
    clear hk25
    rintro v O' ⟨N, rfl, rfl, rfl⟩
    refine DO.last rfl rfl (LT.of_quiet rfl rfl (q_not rfl) ?_)
    refine DO.done ?_
    refine T.condP (p := ¬ rs[k] = ss[k]) (congrArg Value.bool (by simp)) (fun hc => ?_) (fun hc => ?_)
    · refine T.seq ?_
      refine T.region ?_
      refine TO.quiet (q_assign rfl) ?_
      refine TO.nil (T.ret ?_)
      refine Res.one (.bool false) Try.results67 rfl ?_
      exact ⟨congrArg Value.bool (decide_eq_false (fun e => hc (by subst e; rfl))).symm, rfl⟩
    refine T.skip (T.region ?_)
    refine TO.quiet (q_move rfl) (TO.quiet (q_inc rfl rfl (by omega)) (TO.quiet (q_assign rfl) ?_))
    refine TO.nil ?_
    refine ⟨k + 1, by omega, rfl, by omega, ?_, ⟨rfl, rfl, rfl, trivial⟩⟩
    rw [List.take_succ_eq_append_getElem hlt, List.take_succ_eq_append_getElem hlt2, he]
    exact congrArg _ (congrArg (fun z => [z]) (Classical.not_not.1 hc))
  have hge14 : ¬ k < rs.length := by omega
  refine T.exit ?_
  refine T.seq (T.region ?_)
  refine TO.quiet (q_assign rfl) ?_
  refine TO.nil (T.ret ?_)
  refine Res.one (.bool true) Try.results67 rfl ?_
  exact ⟨congrArg Value.bool (decide_eq_true (show rs = ss by rw [List.take_of_length_le (by omega), List.take_of_length_le (by omega)] at he; exact he)).symm, rfl⟩
set_option maxHeartbeats 1000000 in
set_option maxRecDepth 20000 in
theorem copyRows (w : World) (b1 : Option Addr) (c1 : Nat) (vs : List Value) (rs : List (List Int)) (h1 : Sl w b1 vs) (hr1 : RowsR w vs rs) (hb : rs.length * 24 ≤ 70368744177664) (hbr : ∀ r ∈ rs, r.length * 8 ≤ 70368744177664) :
    PureT Try.prog 50 [.slice b1 rs.length c1] w fun v N => ∃ b c qs, v = .slice b rs.length c ∧ N = rowI b c 22 1 (vals qs) :: itms 3 qs ∧ nums qs = rs := by
  refine CallT.enter Try.func50 rfl Try.ntmps50 rfl ?_
  refine T.seq (T.region ?_)
  refine TO.quiet (q_assign rfl) ?_
  refine TO.nil (T.seq (T.region ?_))
  refine TO.quiet (q_assign rfl) ?_
  refine TO.nil (T.seq (T.seq (T.region ?_)))
  refine TO.quiet (q_assign rfl) ?_
  refine TO.nil (T.block ?_)
  refine T.nilRow 22 1 ?_
  refine T.loop (fun (k : Nat) ρ O => ∃ (qs : List Rec) (ob : Option Addr) (oc : Nat), O = ([rowI ob oc 22 1 (vals qs)] ++ (itms 3 qs)) ∧ k ≤ rs.length ∧ qs.length = k ∧ nums qs = rs.take k ∧ Heads [(0, (.slice b1 rs.length c1)), (2, (.slice none 0 0)), (3, (.slice ob k oc)), (4, .int .i64 (k : Int))] ρ) (fun k => rs.length - k) 0 ?_ ?_
  · exact ⟨[], none, 0, rfl, Nat.zero_le _, rfl, rfl, ⟨rfl, rfl, rfl, rfl, trivial⟩⟩
  rintro k ρ O ⟨qs, ob, oc, rfl, hk, hql, hqs, hH⟩
  obtain ⟨ρ0, rfl⟩ := hH.elim
  clear hH
  refine T.seq (T.seq (T.region ?_))
  refine TO.quiet (q_move rfl) (TO.quiet (q_move rfl) (TO.quiet (q_len Try.underlying24 rfl) (TO.quiet (q_lss rfl rfl) ?_)))
  refine TO.nil ?_
  refine T.condP rfl (fun hc => ?_) (fun hc => ?_)
  · have hlt8 : k < rs.length := by omega
    have hlt : k < rs.length := by omega
    obtain ⟨vb1, vc1, g1, s1⟩ := hr1.get hlt
    obtain ⟨kb1, ko1, rfl⟩ := h1.addr (i := k) (by rw [hr1.1]; exact hlt)
    have hbk := hbr _ (List.getElem_mem hlt)
    refine T.skip (T.seq (T.block (T.region ?_)))
    refine TO.quiet (q_move rfl) (TO.quiet (q_move rfl) (TO.quiet (q_move rfl) (TO.quiet (q_idx Try.underlying24 inf22 rfl rfl hlt) ?_)))
    refine TO.quiet (q_load_sl Try.underlying22 rfl rfl h1 g1) ?_
    have hk16 := fun (w1 : World) (hI : Inv w ([rowI ob oc 22 1 (vals qs)] ++ (itms 3 qs)) w1) => copyInts w1 vb1 vc1 rs[k] (hI.sl s1) hbk
    refine TO.loud rfl (l_call ent48 (CallT.of_pure hk16) rfl ?_)
    clear hk16
    rintro v O' ⟨N, rfl, cb, cc, rfl, rfl⟩
    refine TO.loud rfl (l_build1 (v := (.slice cb rs[k].length cc)) Try.underlying24 inf22 rfl rfl rfl (fun b1 => ?_))
    refine TO.loud rfl (l_append 2 Try.underlying24 Try.underlying24 inf22 rfl rfl rfl rfl (by simp [hql]) (by decide) (Src.row (j := 0) rfl (by simp)) (by simp [oneB]) (by omega) (by decide) (by decide) (fun b2 c3 => ?_))
    refine TO.quiet (q_assign rfl) ?_
    refine TO.nil ?_
    refine T.sub (O' := rowI b2 c3 22 1 (vals (qs ++ [⟨cb, cc, rs[k]⟩])) :: itms 3 (qs ++ [⟨cb, cc, rs[k]⟩])) (by rw [show vals qs ++ [Value.slice cb rs[k].length cc] = vals (qs ++ [⟨cb, cc, rs[k]⟩]) by simp [Rec.val]]; simp only [itms, List.map_append]; exact sub_push') ?_
    refine T.region ?_
    refine TO.quiet (q_move rfl) (TO.quiet (q_inc rfl rfl (by omega)) (TO.quiet (q_assign rfl) ?_))
    refine TO.nil ?_
    refine ⟨k + 1, by omega, qs ++ [⟨cb, cc, rs[k]⟩], _, _, rfl, by omega, by simp [hql], ?_, ⟨rfl, rfl, rfl, rfl, trivial⟩⟩
    rw [List.take_succ_eq_append_getElem hlt, ← hqs]; simp [nums]
  have hge8 : ¬ k < rs.length := by omega
  refine T.exit ?_
  refine T.seq (T.region ?_)
  refine TO.quiet (q_move rfl) (TO.quiet (q_assign rfl) ?_)
  refine TO.nil (T.ret ?_)
  refine Res.one (.slice ob k oc) Try.results50 rfl ?_
  have hke : k = rs.length := by omega
  subst hke
  exact ⟨ob, oc, qs, rfl, rfl, by rw [hqs, List.take_of_length_le (Nat.le_refl _)]⟩
set_option maxHeartbeats 1000000 in
set_option maxRecDepth 20000 in
theorem overBools (base : World) (b : Option Addr) (c c' : Nat) (xs : List Bool) (hb : xs.length < 9223372036854775807) :
    CallT Try.prog base 24 [.slice b xs.length c'] [rowI b c 4 1 (bools xs)] (fun _ O' => O' = []) := by
  refine CallT.enter Try.func24 rfl Try.ntmps24 rfl ?_
  refine T.seq (T.region ?_)
  refine TO.quiet (q_assign rfl) ?_
  refine TO.nil (T.block ?_)
  refine T.loop (fun (k : Nat) ρ O => ∃ (ys : List Bool), O = [rowI b c 4 1 (bools ys)] ∧ k ≤ xs.length ∧ ys.length = xs.length ∧ Heads [(0, (.slice b xs.length c')), (2, .int .i64 (k : Int))] ρ) (fun k => xs.length - k) 0 ?_ ?_
  · exact ⟨xs, rfl, Nat.zero_le _, rfl, ⟨rfl, rfl, trivial⟩⟩
  rintro k ρ O ⟨ys, rfl, hk, hyl, hH⟩
  obtain ⟨ρ0, rfl⟩ := hH.elim
  clear hH
  refine T.seq (T.seq (T.region ?_))
  refine TO.quiet (q_move rfl) (TO.quiet (q_move rfl) (TO.quiet (q_len Try.underlying39 rfl) (TO.quiet (q_lss rfl rfl) ?_)))
  refine TO.nil ?_
  refine T.condP rfl (fun hc => ?_) (fun hc => ?_)
  · have hlt6 : k < xs.length := by omega
    have hlt : k < ys.length := by omega
    refine T.skip (T.seq (T.block (T.region ?_)))
    refine TO.quiet (q_move rfl) (TO.quiet (q_move rfl) (TO.quiet (q_move rfl) (TO.quiet (q_move rfl) ?_)))
    refine TO.quiet (q_ix (i := k) Try.underlying39 inf4 rfl rfl (rowO (List.mem_of_getElem? (i := 0) rfl))) (TO.quiet (q_ld Try.underlying4 rfl rfl (rowO (List.mem_of_getElem? (i := 0) rfl)) bools_get) (TO.quiet (q_not rfl) (TO.quiet (q_ix (i := k) Try.underlying39 inf4 rfl rfl (rowO (List.mem_of_getElem? (i := 0) rfl))) ?_)))
    refine TO.loud rfl (l_st (j := k) (v := .bool (!ys[k])) (vs := [(.bool (!ys[k]))]) (cs := bools ys) 0 inf4 rfl rfl rfl rfl rfl (by simp) rfl (by first | (simp; omega) | (simp_all; omega)) ?_)
    refine TO.sub (O' := [rowI b c 4 1 (bools (ys.set k (!ys[k])))]) (by rw [show putL (bools ys) k [(.bool (!ys[k]))] = bools (ys.set k (!ys[k])) from by simp [putL]]; exact Sub.of (List.Sublist.refl _)) ?_
    refine TO.nil (T.region ?_)
    refine TO.quiet (q_move rfl) (TO.quiet (q_inc rfl rfl (by omega)) (TO.quiet (q_assign rfl) ?_))
    refine TO.nil ?_
    exact ⟨k + 1, by omega, ys.set k (!ys[k]), rfl, by omega, by simp [hyl], ⟨rfl, rfl, trivial⟩⟩
  have hge6 : ¬ k < xs.length := by omega
  refine T.exit ?_
  refine Res.drop ?_
  refine Res.zero Try.results24 ?_
  exact ⟨[], Sub.of (List.nil_sublist _), rfl⟩
set_option maxHeartbeats 1000000 in
set_option maxRecDepth 20000 in
theorem equalEdges (w : World) (b1 b2 : Option Addr) (c1 c2 : Nat) (xs ys : List Ed) (h1 : Sl w b1 (edsC xs)) (h2 : Sl w b2 (edsC ys)) (hb : xs.length ≤ 1000000) :
    PureT Try.prog 66 [.slice b1 xs.length c1, .slice b2 ys.length c2] w fun v N => v = .bool (decide (xs = ys)) ∧ N = [] := by
  refine CallT.enter Try.func66 rfl Try.ntmps66 rfl ?_
  refine T.seq (T.region ?_)
  refine TO.quiet (q_assign rfl) ?_
  refine TO.nil (T.seq (T.seq (T.region ?_)))
  refine TO.quiet (q_move rfl) (TO.quiet (q_len Try.underlying23 rfl) (TO.quiet (q_move rfl) (TO.quiet (q_len Try.underlying23 rfl) ?_)))
  refine TO.quiet (q_neq rfl rfl) ?_
  refine TO.nil ?_
  refine T.condP rfl (fun hc => ?_) (fun hc => ?_)
  · have hlt10 : xs.length ≠ ys.length := by omega
    have hlen : xs.length ≠ ys.length := by omega
    refine T.seq (T.region ?_)
    refine TO.quiet (q_assign rfl) ?_
    refine TO.nil (T.ret ?_)
    refine Res.one (.bool false) Try.results66 rfl ?_
    exact ⟨congrArg Value.bool (decide_eq_false (fun e => hlen (by rw [e]))).symm, rfl⟩
  have hge10 : ¬ xs.length ≠ ys.length := by omega
  have hlen : xs.length = ys.length := by omega
  refine T.skip (T.seq (T.seq (T.region ?_)))
  refine TO.quiet (q_assign rfl) ?_
  refine TO.nil (T.block ?_)
  refine T.loop (fun (k : Nat) ρ O => O = [] ∧ k ≤ xs.length ∧ xs.take k = ys.take k ∧ Heads [(0, (.slice b1 xs.length c1)), (1, (.slice b2 ys.length c2)), (5, .int .i64 (k : Int))] ρ) (fun k => xs.length - k) 0 ?_ ?_
  · exact ⟨rfl, Nat.zero_le _, rfl, ⟨rfl, rfl, rfl, trivial⟩⟩
  rintro k ρ O ⟨rfl, hk, he, hH⟩
  obtain ⟨ρ0, rfl⟩ := hH.elim
  clear hH
  refine T.seq (T.seq (T.region ?_))
  refine TO.quiet (q_move rfl) (TO.quiet (q_move rfl) (TO.quiet (q_len Try.underlying23 rfl) (TO.quiet (q_lss rfl rfl) ?_)))
  refine TO.nil ?_
  refine T.condP rfl (fun hc => ?_) (fun hc => ?_)
  · have hlt14 : k < xs.length := by omega
    have hlt2 : k < ys.length := by omega
    refine T.skip (T.seq (T.block (T.seq ?_)))
    refine T.draws _ [(0, 0), (1, 0), (2, 0), (3, 0), (4, 0), (5, 0), (6, 0), (7, 0), (8, 0)] mixed (by kernel_rfl) (Sub.of (List.Sublist.refl _)) (fun _ _ _ h => h) ?_
    refine DO.quiet rfl (q_move rfl) (DO.quiet rfl (q_move rfl) (DO.quiet rfl (q_ixK (i := k) Try.underlying23 inf54 rfl rfl (Sl.o h1) (by first | assumption | omega | (simp; omega) | simp_all) (by first | (rw [eds_len]; omega) | (simp [eds_len]; omega) | (simp_all [eds_len]; omega))) (DO.quiet rfl (q_ldK (vs := [.int .i64 xs[k].fr, .int .i64 xs[k].to, .int .u8 ((xs[k].pos : Nat) : Int), .int .u8 ((xs[k].neg : Nat) : Int)]) Try.underlying54 rfl inf54 rfl rfl (Nat.succ_pos _) (Sl.o h1) (eds_get (by first | assumption | omega | (simp; omega) | simp_all))) ?_)))
    refine DO.quiet rfl (q_move rfl) (DO.quiet rfl (q_move rfl) (DO.quiet rfl (q_ixK (i := k) Try.underlying23 inf54 rfl rfl (Sl.o h2) (by first | assumption | omega | (simp; omega) | simp_all) (by first | (rw [eds_len]; omega) | (simp [eds_len]; omega) | (simp_all [eds_len]; omega))) (DO.quiet rfl (q_ldK (vs := [.int .i64 ys[k].fr, .int .i64 ys[k].to, .int .u8 ((ys[k].pos : Nat) : Int), .int .u8 ((ys[k].neg : Nat) : Int)]) Try.underlying54 rfl inf54 rfl rfl (Nat.succ_pos _) (Sl.o h2) (eds_get (by first | assumption | omega | (simp; omega) | simp_all))) ?_)))
    refine DO.quiet rfl (q_edgeNeq edgeT rfl rfl) ?_
    refine DO.done ?_
    refine T.condP rfl (fun hc => ?_) (fun hc => ?_)
    · refine T.seq ?_
      refine T.region ?_
      refine TO.quiet (q_assign rfl) ?_
      refine TO.nil (T.ret ?_)
      refine Res.one (.bool false) Try.results66 rfl ?_
      exact ⟨congrArg Value.bool (decide_eq_false (fun e => hc (by subst e; exact ⟨rfl, rfl, rfl, rfl⟩))).symm, rfl⟩
    refine T.skip (T.region ?_)
    refine TO.quiet (q_move rfl) (TO.quiet (q_addN (a := k) (b := 1) rfl rfl (by omega)) (TO.quiet (q_assign rfl) ?_))
    refine TO.nil ?_
    refine ⟨k + 1, by omega, rfl, by omega, ?_, ⟨rfl, rfl, rfl, trivial⟩⟩
    rw [List.take_succ_eq_append_getElem hlt14, List.take_succ_eq_append_getElem hlt2, he]
    have hq := Classical.not_not.1 hc
    refine congrArg _ (congrArg (fun z => [z]) ?_)
    generalize xs[k] = p at hq; generalize ys[k] = q at hq
    cases p; cases q; simp only [Ed.mk.injEq] at hq ⊢; omega
  have hge14 : ¬ k < xs.length := by omega
  refine T.exit ?_
  refine T.seq (T.region ?_)
  refine TO.quiet (q_assign rfl) ?_
  refine TO.nil (T.ret ?_)
  refine Res.one (.bool true) Try.results66 rfl ?_
  exact ⟨congrArg Value.bool (decide_eq_true (show xs = ys by rw [List.take_of_length_le (by omega), List.take_of_length_le (by omega)] at he; exact he)).symm, rfl⟩
set_option maxHeartbeats 1000000 in
set_option maxRecDepth 20000 in
theorem copyEdges (w : World) (b1 : Option Addr) (c1 : Nat) (xs : List Ed) (h1 : Sl w b1 (edsC xs)) (hb : xs.length ≤ 1000000) :
    PureT Try.prog 49 [.slice b1 xs.length c1] w fun v N => ∃ b c, v = .slice b xs.length c ∧ N = [rowI b c 54 4 (edsC xs)] := by
  refine CallT.enter Try.func49 rfl Try.ntmps49 rfl ?_
  refine T.seq (T.region ?_)
  refine TO.quiet (q_assign rfl) ?_
  refine TO.nil (T.seq (T.region ?_))
  refine TO.quiet (q_move rfl) ?_
  refine TO.loud rfl (l_appendN (l := xs.length) Try.underlying23 Try.underlying23 inf54 rfl rfl rfl (by decide) (Src.sl h1 (eds_len xs)) (eds_one xs) (by omega) (by decide) (by decide) (fun bx1 c2 => ?_))
  refine TO.quiet (q_assign rfl) ?_
  refine TO.nil (T.ret ?_)
  refine Res.one (.slice bx1 xs.length c2) Try.results49 rfl ?_
  exact ⟨_, _, rfl, rfl⟩
set_option maxHeartbeats 1000000 in
set_option maxRecDepth 20000 in
theorem letters (w : World) (b1 b2 : Option Addr) (c1 c2 : Nat) (xs ys : List Nat) (h1 : Sl w b1 (byts xs)) (h2 : Sl w b2 (byts ys)) (hb : xs.length < 9223372036854775807) :
    PureT Try.prog 68 [(.slice b1 xs.length c1), (.slice b2 ys.length c2)] w fun v N => v = .bool (decide (xs = ys)) ∧ N = [] := by
  refine CallT.enter Try.func68 rfl Try.ntmps68 rfl ?_
  refine T.seq (T.region ?_)
  refine TO.quiet (q_assign rfl) ?_
  refine TO.nil (T.seq (T.seq (T.region ?_)))
  refine TO.quiet (q_move rfl) (TO.quiet (q_len Try.underlying27 rfl) (TO.quiet (q_move rfl) (TO.quiet (q_len Try.underlying27 rfl) ?_)))
  refine TO.quiet (q_neq rfl rfl) ?_
  refine TO.nil ?_
  refine T.condP rfl (fun hc => ?_) (fun hc => ?_)
  · have hlt10 : xs.length ≠ ys.length := by omega
    have hlen : xs.length ≠ ys.length := by omega
    refine T.seq (T.region ?_)
    refine TO.quiet (q_assign rfl) ?_
    refine TO.nil (T.ret ?_)
    refine Res.one (.bool false) Try.results68 rfl ?_
    exact ⟨congrArg Value.bool (decide_eq_false (fun e => hlen (by rw [e]))).symm, rfl⟩
  have hge10 : ¬ xs.length ≠ ys.length := by omega
  have hlen : xs.length = ys.length := by omega
  refine T.skip (T.seq (T.seq (T.region ?_)))
  refine TO.quiet (q_assign rfl) ?_
  refine TO.nil (T.block ?_)
  refine T.loop (fun (k : Nat) ρ O => O = [] ∧ k ≤ xs.length ∧ xs.take k = ys.take k ∧ Heads [(0, (.slice b1 xs.length c1)), (1, (.slice b2 ys.length c2)), (5, .int .i64 (k : Int))] ρ) (fun k => xs.length - k) 0 ?_ ?_
  · exact ⟨rfl, Nat.zero_le _, rfl, ⟨rfl, rfl, rfl, trivial⟩⟩
  rintro k ρ O ⟨rfl, hk, he, hH⟩
  obtain ⟨ρ0, rfl⟩ := hH.elim
  clear hH
  refine T.seq (T.seq (T.region ?_))
  refine TO.quiet (q_move rfl) (TO.quiet (q_move rfl) (TO.quiet (q_len Try.underlying27 rfl) (TO.quiet (q_lss rfl rfl) ?_)))
  refine TO.nil ?_
  refine T.condP rfl (fun hc => ?_) (fun hc => ?_)
  · have hlt14 : k < xs.length := by omega
    have hlt : k < xs.length := by omega
    have hlt2 : k < ys.length := by omega
    obtain ⟨kb1, ko1, rfl⟩ := h1.addr (i := k) (by simpa using hlt)
    obtain ⟨kb2, ko2, rfl⟩ := h2.addr (i := k) (by simpa using hlt2)
    refine T.skip (T.seq (T.block (T.seq ?_)))
    refine T.draws _ [(0, 0), (1, 0), (2, 0), (3, 0), (4, 0), (5, 0), (6, 0), (7, 0), (8, 0)] mixed (by kernel_rfl) (Sub.of (List.Sublist.refl _)) (fun _ _ _ h => h) ?_
    refine DO.quiet rfl (q_move rfl) (DO.quiet rfl (q_move rfl) (DO.quiet rfl (q_idx Try.underlying27 inf5 rfl rfl hlt) (DO.quiet rfl (q_load_sl Try.underlying5 rfl rfl h1 (byts_get hlt)) ?_)))
    refine DO.quiet rfl (q_move rfl) (DO.quiet rfl (q_move rfl) (DO.quiet rfl (q_idx Try.underlying27 inf5 rfl rfl hlt2) (DO.quiet rfl (q_load_sl Try.underlying5 rfl rfl h2 (byts_get hlt2)) ?_)))
    refine DO.quiet rfl (q_neq rfl rfl) ?_
    refine DO.done ?_
    refine T.condP (p := ¬ xs[k] = ys[k]) (congrArg Value.bool (decide_eq_decide.2 (by omega))) (fun hc => ?_) (fun hc => ?_)
    · have hlt25 : xs[k] ≠ ys[k] := by omega
      refine T.seq (T.region ?_)
      refine TO.quiet (q_assign rfl) ?_
      refine TO.nil (T.ret ?_)
      refine Res.one (.bool false) Try.results68 rfl ?_
      exact ⟨congrArg Value.bool (decide_eq_false (fun e => hc (by subst e; rfl))).symm, rfl⟩
    have hge25 : ¬ xs[k] ≠ ys[k] := by omega
    refine T.skip (T.region ?_)
    refine TO.quiet (q_move rfl) (TO.quiet (q_addN (a := k) (b := 1) rfl rfl (by omega)) (TO.quiet (q_assign rfl) ?_))
    refine TO.nil ?_
    refine ⟨k + 1, by omega, rfl, by omega, ?_, ⟨rfl, rfl, rfl, trivial⟩⟩
    rw [List.take_succ_eq_append_getElem hlt, List.take_succ_eq_append_getElem hlt2, he]
    exact congrArg _ (congrArg (fun z => [z]) (Classical.not_not.1 hc))
  have hge14 : ¬ k < xs.length := by omega
  refine T.exit ?_
  refine T.seq (T.region ?_)
  refine TO.quiet (q_assign rfl) ?_
  refine TO.nil (T.ret ?_)
  refine Res.one (.bool true) Try.results68 rfl ?_
  exact ⟨congrArg Value.bool (decide_eq_true (show xs = ys by rw [List.take_of_length_le (by omega), List.take_of_length_le (by omega)] at he; exact he)).symm, rfl⟩
set_option maxHeartbeats 1000000 in
set_option maxRecDepth 20000 in
theorem hasInt (w : World) (b : Option Addr) (c : Nat) (xs : List Int) (x : Int) (h : Sl w b (ints xs)) (hb : xs.length < 9223372036854775807) : PureT Try.prog 31 [.slice b xs.length c, .int .i64 x] w fun v N => v = .bool (decide (x ∈ xs)) ∧ N = [] := by
  refine CallT.enter Try.func31 rfl Try.ntmps31 rfl ?_
  refine T.seq (T.region ?_)
  refine TO.quiet (q_assign rfl) ?_
  refine TO.nil (T.seq (T.seq (T.region ?_)))
  refine TO.quiet (q_assign rfl) ?_
  refine TO.nil (T.block ?_)
  refine T.loop (fun (k : Nat) ρ O => O = [] ∧ k ≤ xs.length ∧ x ∉ xs.take k ∧ Heads [(0, (.slice b xs.length c)), (1, .int .i64 x), (5, .int .i64 (k : Int))] ρ) (fun k => xs.length - k) 0 ?_ ?_
  · exact ⟨rfl, Nat.zero_le _, by simp, ⟨rfl, rfl, rfl, trivial⟩⟩
  rintro k ρ O ⟨rfl, hk, hm, hH⟩
  obtain ⟨ρ0, rfl⟩ := hH.elim
  clear hH
  refine T.seq (T.seq (T.region ?_))
  refine TO.quiet (q_move rfl) (TO.quiet (q_move rfl) (TO.quiet (q_len Try.underlying22 rfl) (TO.quiet (q_lss rfl rfl) ?_)))
  refine TO.nil ?_
  refine T.condP rfl (fun hc => ?_) (fun hc => ?_)
  · have hlt9 : k < xs.length := by omega
    refine T.skip (T.seq (T.block (T.seq (T.region ?_))))
    refine TO.quiet (q_move rfl) (TO.quiet (q_move rfl) (TO.quiet (q_ix (i := k) Try.underlying22 inf3 rfl rfl (Sl.o h)) (TO.quiet (q_ld Try.underlying3 rfl rfl (Sl.o h) ints_get) ?_)))
    refine TO.quiet (q_move rfl) (TO.quiet (q_eql rfl rfl) ?_)
    refine TO.nil ?_
    refine T.condP rfl (fun hc => ?_) (fun hc => ?_)
    · refine T.seq ?_
      refine T.region ?_
      refine TO.quiet (q_assign rfl) ?_
      refine TO.nil (T.ret ?_)
      refine Res.one (.bool true) Try.results31 rfl ?_
      exact ⟨congrArg Value.bool (decide_eq_true (by rw [← hc]; exact List.getElem_mem _)).symm, rfl⟩
    refine T.skip (T.region ?_)
    refine TO.quiet (q_move rfl) (TO.quiet (q_addN (a := k) (b := 1) rfl rfl (by omega)) (TO.quiet (q_assign rfl) ?_))
    refine TO.nil ?_
    refine ⟨k + 1, by omega, rfl, by omega, ?_, ⟨rfl, rfl, rfl, trivial⟩⟩
    rw [List.take_succ_eq_append_getElem hlt9]
    simp only [List.mem_append, List.mem_singleton, not_or]
    exact ⟨hm, fun e => hc e.symm⟩
  have hge9 : ¬ k < xs.length := by omega
  refine T.exit ?_
  refine T.seq (T.region ?_)
  refine TO.quiet (q_assign rfl) ?_
  refine TO.nil (T.ret ?_)
  refine Res.one (.bool false) Try.results31 rfl ?_
  exact ⟨congrArg Value.bool (decide_eq_false (by rwa [List.take_of_length_le (by omega)] at hm)).symm, rfl⟩
end Go.Proofs.Ytnamoapbienooaa

namespace Go.Proofs.Ytnamoapbienooaa
open Go.Lx Go.RowKit
set_option linter.unusedVariables false
set_option linter.unusedSimpArgs false
set_option maxHeartbeats 1000000 in
set_option maxRecDepth 20000 in
theorem longF (w : World) (b : Option Addr) (c : Nat) (qs : List BuRef) (hS : Sl w b (busC qs)) (hq : ∀ q ∈ qs, BuAt w q.b q.sb q.eb q.tb q.vs) (hb : qs.length < 9223372036854775807) (hb2 : ∀ q ∈ qs, q.b.sets.length < 9223372036854775807) :
    PureT Try.prog 11 [.slice b qs.length c] w fun v N => v = .bool (qs.any fun q => longB q.b) ∧ N = [] := by
  refine CallT.enter Try.func11 rfl Try.ntmps11 rfl ?_
  refine T.seq (T.region ?_)
  refine TO.quiet (q_assign rfl) ?_
  refine TO.nil (T.seq (T.seq (T.region ?_)))
  refine TO.quiet (q_assign rfl) ?_
  refine TO.nil (T.block ?_)
  refine T.loop (fun (k : Nat) ρ O => O = [] ∧ k ≤ qs.length ∧ (qs.take k).any (fun q => longB q.b) = false ∧ Heads [(0, (.slice b qs.length c)), (3, .int .i64 (k : Int))] ρ) (fun k => qs.length - k) 0 ?_ ?_
  · exact ⟨rfl, Nat.zero_le _, rfl, ⟨rfl, rfl, trivial⟩⟩
  rintro k ρ O ⟨rfl, hk, hany, hH⟩
  obtain ⟨ρ0, rfl⟩ := hH.elim
  clear hH
  refine T.seq (T.seq (T.region ?_))
  refine TO.quiet (q_move rfl) (TO.quiet (q_move rfl) (TO.quiet (q_len Try.underlying71 rfl) (TO.quiet (q_lss rfl rfl) ?_)))
  refine TO.nil ?_
  refine T.condP rfl (fun hc => ?_) (fun hc => ?_)
  · have hlt8 : k < qs.length := by omega
    have hbb := hb2 _ (List.getElem_mem hlt8)
    have hvl := (hq _ (List.getElem_mem hlt8)).rows.1
    refine T.skip (T.seq (T.block (T.seq (T.seq (T.region ?_)))))
    refine TO.quiet (q_move rfl) (TO.quiet (q_move rfl) (TO.quiet (q_ixK (i := k) Try.underlying71 inf26 rfl rfl (Sl.o hS) (by first | assumption | omega | (simp; omega) | simp_all) (by first | (rw [bus_len]; omega) | (simp [bus_len]; omega) | (simp_all [bus_len]; omega))) (TO.quiet (q_fieldEl Try.underlying26 rfl inf22 rfl rfl (Sl.o hS) (by first | (rw [bus_len]; omega) | (simp [bus_len]; omega) | (simp_all [bus_len]; omega))) ?_)))
    refine TO.quiet (q_ld Try.underlying22 rfl rfl (Sl.o hS) (bus_get (by first | assumption | omega | (simp; omega) | simp_all) 2 (by decide))) (TO.quiet (q_len Try.underlying22 rfl) (TO.quiet (q_gtr rfl rfl) ?_))
    by_cases hs18 : (qs[k].b.start.length : Int) > 40
    · refine TO.quiet (QT.toB (q_move rfl) (decide_eq_true hs18)) ?_
      refine TO.passed rfl rfl ?_
      refine TO.passed rfl rfl ?_
      refine TO.passed rfl rfl ?_
      refine TO.passed rfl rfl ?_
      refine TO.passed rfl rfl ?_
      refine TO.passed rfl rfl ?_
      refine TO.passed rfl rfl ?_
      refine TO.quiet (q_pick1 rfl rfl) (TO.quiet (q_move rfl) ?_)
      refine TO.passed rfl rfl ?_
      refine TO.passed rfl rfl ?_
      refine TO.passed rfl rfl ?_
      refine TO.passed rfl rfl ?_
      refine TO.passed rfl rfl ?_
      refine TO.passed rfl rfl ?_
      refine TO.passed rfl rfl ?_
      refine TO.quiet (q_pick1 rfl rfl) (TO.quiet (q_move rfl) ?_)
      refine TO.passed rfl rfl ?_
      refine TO.passed rfl rfl ?_
      refine TO.passed rfl rfl ?_
      refine TO.passed rfl rfl ?_
      refine TO.passed rfl rfl ?_
      refine TO.passed rfl rfl ?_
      refine TO.passed rfl rfl ?_
      refine TO.passed rfl rfl ?_
      refine TO.passed rfl rfl ?_
      refine TO.passed rfl rfl ?_
      refine TO.passed rfl rfl ?_
      refine TO.passed rfl rfl ?_
      refine TO.passed rfl rfl ?_
      refine TO.passed rfl rfl ?_
      refine TO.quiet (q_pick1 rfl rfl) ?_
      refine TO.nil ?_
      refine T.cond1 rfl ?_
      refine T.seq (T.region ?_)
      refine TO.quiet (q_assign rfl) ?_
      refine TO.nil (T.ret ?_)
      refine Res.one (.bool true) Try.results11 rfl ?_
      exact ⟨congrArg Value.bool ((any_hit hlt8 (show longB _ = true by unfold longB; rw [show longN qs[k].b = true from decide_eq_true (by omega)]; rfl)).symm), rfl⟩
    refine TO.quiet (QT.toB (q_move rfl) (decide_eq_false hs18)) ?_
    refine TO.guarded rfl rfl rfl (LT.of_quiet rfl rfl (q_move rfl) ?_)
    refine TO.guarded rfl rfl rfl (LT.of_quiet rfl rfl (q_move rfl) ?_)
    refine TO.guarded rfl rfl rfl (LT.of_quiet rfl rfl (q_ixK (i := k) Try.underlying71 inf26 rfl rfl (Sl.o hS) (by first | assumption | omega | (simp; omega) | simp_all) (by first | (rw [bus_len]; omega) | (simp [bus_len]; omega) | (simp_all [bus_len]; omega))) ?_)
    refine TO.guarded rfl rfl rfl (LT.of_quiet rfl rfl (q_fieldEl Try.underlying26 rfl inf23 rfl rfl (Sl.o hS) (by first | (rw [bus_len]; omega) | (simp [bus_len]; omega) | (simp_all [bus_len]; omega))) ?_)
    refine TO.guarded rfl rfl rfl (LT.of_quiet rfl rfl (q_ld Try.underlying23 rfl rfl (Sl.o hS) (bus_get (by first | assumption | omega | (simp; omega) | simp_all) 3 (by decide))) ?_)
    refine TO.guarded rfl rfl rfl (LT.of_quiet rfl rfl (q_len Try.underlying23 rfl) ?_)
    refine TO.guarded rfl rfl rfl (LT.of_quiet rfl rfl (q_gtr rfl rfl) ?_)
    refine TO.quiet (q_pick0 rfl rfl) ?_
    by_cases hs27 : (qs[k].b.edges.length : Int) > 60
    · refine TO.quiet (QT.toB (q_move rfl) (decide_eq_true hs27)) ?_
      refine TO.passed rfl rfl ?_
      refine TO.passed rfl rfl ?_
      refine TO.passed rfl rfl ?_
      refine TO.passed rfl rfl ?_
      refine TO.passed rfl rfl ?_
      refine TO.passed rfl rfl ?_
      refine TO.passed rfl rfl ?_
      refine TO.quiet (q_pick1 rfl rfl) (TO.quiet (q_move rfl) ?_)
      refine TO.passed rfl rfl ?_
      refine TO.passed rfl rfl ?_
      refine TO.passed rfl rfl ?_
      refine TO.passed rfl rfl ?_
      refine TO.passed rfl rfl ?_
      refine TO.passed rfl rfl ?_
      refine TO.passed rfl rfl ?_
      refine TO.passed rfl rfl ?_
      refine TO.passed rfl rfl ?_
      refine TO.passed rfl rfl ?_
      refine TO.passed rfl rfl ?_
      refine TO.passed rfl rfl ?_
      refine TO.passed rfl rfl ?_
      refine TO.passed rfl rfl ?_
      refine TO.quiet (q_pick1 rfl rfl) ?_
      refine TO.nil ?_
      refine T.cond1 rfl ?_
      refine T.seq (T.region ?_)
      refine TO.quiet (q_assign rfl) ?_
      refine TO.nil (T.ret ?_)
      refine Res.one (.bool true) Try.results11 rfl ?_
      exact ⟨congrArg Value.bool ((any_hit hlt8 (show longB _ = true by unfold longB; rw [show longN qs[k].b = true from decide_eq_true (by omega)]; rfl)).symm), rfl⟩
    refine TO.quiet (QT.toB (q_move rfl) (decide_eq_false hs27)) ?_
    refine TO.guarded rfl rfl rfl (LT.of_quiet rfl rfl (q_move rfl) ?_)
    refine TO.guarded rfl rfl rfl (LT.of_quiet rfl rfl (q_move rfl) ?_)
    refine TO.guarded rfl rfl rfl (LT.of_quiet rfl rfl (q_ixK (i := k) Try.underlying71 inf26 rfl rfl (Sl.o hS) (by first | assumption | omega | (simp; omega) | simp_all) (by first | (rw [bus_len]; omega) | (simp [bus_len]; omega) | (simp_all [bus_len]; omega))) ?_)
    refine TO.guarded rfl rfl rfl (LT.of_quiet rfl rfl (q_fieldEl Try.underlying26 rfl inf24 rfl rfl (Sl.o hS) (by first | (rw [bus_len]; omega) | (simp [bus_len]; omega) | (simp_all [bus_len]; omega))) ?_)
    refine TO.guarded rfl rfl rfl (LT.of_quiet rfl rfl (q_ld Try.underlying24 rfl rfl (Sl.o hS) (bus_get (by first | assumption | omega | (simp; omega) | simp_all) 4 (by decide))) ?_)
    refine TO.guarded rfl rfl rfl (LT.of_quiet rfl rfl (q_len Try.underlying24 rfl) ?_)
    refine TO.guarded rfl rfl rfl (LT.of_quiet rfl rfl (q_gtr rfl rfl) ?_)
    refine TO.quiet (q_pick0 rfl rfl) ?_
    by_cases hs36 : (qs[k].b.sets.length : Int) > 12
    · refine TO.quiet (QT.toB (q_move rfl) (decide_eq_true hs36)) ?_
      refine TO.passed rfl rfl ?_
      refine TO.passed rfl rfl ?_
      refine TO.passed rfl rfl ?_
      refine TO.passed rfl rfl ?_
      refine TO.passed rfl rfl ?_
      refine TO.passed rfl rfl ?_
      refine TO.passed rfl rfl ?_
      refine TO.passed rfl rfl ?_
      refine TO.passed rfl rfl ?_
      refine TO.passed rfl rfl ?_
      refine TO.passed rfl rfl ?_
      refine TO.passed rfl rfl ?_
      refine TO.passed rfl rfl ?_
      refine TO.passed rfl rfl ?_
      refine TO.quiet (q_pick1 rfl rfl) ?_
      refine TO.nil ?_
      refine T.cond1 rfl ?_
      refine T.seq (T.region ?_)
      refine TO.quiet (q_assign rfl) ?_
      refine TO.nil (T.ret ?_)
      refine Res.one (.bool true) Try.results11 rfl ?_
      exact ⟨congrArg Value.bool ((any_hit hlt8 (show longB _ = true by unfold longB; rw [show longN qs[k].b = true from decide_eq_true (by omega)]; rfl)).symm), rfl⟩
    refine TO.quiet (QT.toB (q_move rfl) (decide_eq_false hs36)) ?_
    refine TO.guarded rfl rfl rfl (LT.of_quiet rfl rfl (q_move rfl) ?_)
    refine TO.guarded rfl rfl rfl (LT.of_quiet rfl rfl (q_move rfl) ?_)
    refine TO.guarded rfl rfl rfl (LT.of_quiet rfl rfl (q_ixK (i := k) Try.underlying71 inf26 rfl rfl (Sl.o hS) (by first | assumption | omega | (simp; omega) | simp_all) (by first | (rw [bus_len]; omega) | (simp [bus_len]; omega) | (simp_all [bus_len]; omega))) ?_)
    refine TO.guarded rfl rfl rfl (LT.of_quiet rfl rfl (q_fieldEl Try.underlying26 rfl inf3 rfl rfl (Sl.o hS) (by first | (rw [bus_len]; omega) | (simp [bus_len]; omega) | (simp_all [bus_len]; omega))) ?_)
    refine TO.guarded rfl rfl rfl (LT.of_quiet rfl rfl (q_ld Try.underlying3 rfl rfl (Sl.o hS) (bus_get (by first | assumption | omega | (simp; omega) | simp_all) 1 (by decide))) ?_)
    refine TO.guarded rfl rfl rfl (LT.of_quiet rfl rfl (q_gtr rfl rfl) ?_)
    by_cases hs43 : qs[k].b.states > 20
    · refine TO.guarded rfl rfl rfl (LT.of_quiet rfl rfl (QT.toB (q_move rfl) (decide_eq_true hs43)) ?_)
      refine TO.guarded rfl rfl rfl (LT.of_quiet rfl rfl (q_move rfl) ?_)
      refine TO.guarded rfl rfl rfl (LT.of_quiet rfl rfl (q_move rfl) ?_)
      refine TO.guarded rfl rfl rfl (LT.of_quiet rfl rfl (q_ixK (i := k) Try.underlying71 inf26 rfl rfl (Sl.o hS) (by first | assumption | omega | (simp; omega) | simp_all) (by first | (rw [bus_len]; omega) | (simp [bus_len]; omega) | (simp_all [bus_len]; omega))) ?_)
      refine TO.guarded rfl rfl rfl (LT.of_quiet rfl rfl (q_fieldEl Try.underlying26 rfl inf3 rfl rfl (Sl.o hS) (by first | (rw [bus_len]; omega) | (simp [bus_len]; omega) | (simp_all [bus_len]; omega))) ?_)
      refine TO.guarded rfl rfl rfl (LT.of_quiet rfl rfl (q_ld Try.underlying3 rfl rfl (Sl.o hS) (bus_get (by first | assumption | omega | (simp; omega) | simp_all) 1 (by decide))) ?_)
      refine TO.guarded rfl rfl rfl (LT.of_quiet rfl rfl (q_leq rfl rfl) ?_)
      refine TO.guarded rfl rfl rfl (LT.of_quiet rfl rfl (q_pick1 rfl rfl) ?_)
      refine TO.quiet (q_pick0 rfl rfl) ?_
      refine TO.nil ?_
      refine T.condP rfl (fun hc => ?_) (fun hc => ?_)
      · refine T.seq ?_
        refine T.region ?_
        refine TO.quiet (q_assign rfl) ?_
        refine TO.nil (T.ret ?_)
        refine Res.one (.bool true) Try.results11 rfl ?_
        exact ⟨congrArg Value.bool ((any_hit hlt8 (show longB _ = true by unfold longB; rw [show longN qs[k].b = true from decide_eq_true (by omega)]; rfl)).symm), rfl⟩
      refine T.skip (T.seq (T.region ?_))
      refine TO.quiet (q_assign rfl) ?_
      refine TO.nil (T.block ?_)
      refine T.loop (fun (j : Nat) ρ O => O = [] ∧ j ≤ qs[k].b.sets.length ∧ longN qs[k].b = false ∧ (qs[k].b.sets.take j).any (fun r => decide (40 < r.length)) = false ∧ Heads [(0, (.slice b qs.length c)), (3, .int .i64 (k : Int)), (4, .int .i64 (j : Int))] ρ) (fun j => qs[k].b.sets.length - j) 0 ?_ ?_
      · refine ⟨rfl, Nat.zero_le _, decide_eq_false (by omega), rfl, ⟨rfl, rfl, rfl, trivial⟩⟩
      rintro j ρ O ⟨rfl, hj, hnl, hj2, hH⟩
      obtain ⟨ρ0, rfl⟩ := hH.elim
      clear hH
      refine T.seq (T.seq (T.region ?_))
      refine TO.quiet (q_move rfl) (TO.quiet (q_move rfl) (TO.quiet (q_move rfl) (TO.quiet (q_ixK (i := k) Try.underlying71 inf26 rfl rfl (Sl.o hS) (by first | assumption | omega | (simp; omega) | simp_all) (by first | (rw [bus_len]; omega) | (simp [bus_len]; omega) | (simp_all [bus_len]; omega))) ?_)))
      refine TO.quiet (q_fieldEl Try.underlying26 rfl inf24 rfl rfl (Sl.o hS) (by first | (rw [bus_len]; omega) | (simp [bus_len]; omega) | (simp_all [bus_len]; omega))) (TO.quiet (q_ld Try.underlying24 rfl rfl (Sl.o hS) (bus_get (by first | assumption | omega | (simp; omega) | simp_all) 4 (by decide))) (TO.quiet (q_len Try.underlying24 rfl) (TO.quiet (q_lss rfl rfl) ?_)))
      refine TO.nil ?_
      refine T.condP rfl (fun hc => ?_) (fun hc => ?_)
      · have hlt59 : j < qs[k].b.sets.length := by omega
        obtain ⟨vb, vc, g1, s1⟩ := (hq _ (List.getElem_mem hlt8)).rows.get hlt59
        refine T.skip (T.seq (T.block (T.seq (T.region ?_))))
        refine TO.quiet (q_move rfl) (TO.quiet (q_move rfl) (TO.quiet (q_ixK (i := k) Try.underlying71 inf26 rfl rfl (Sl.o hS) (by first | assumption | omega | (simp; omega) | simp_all) (by first | (rw [bus_len]; omega) | (simp [bus_len]; omega) | (simp_all [bus_len]; omega))) (TO.quiet (q_fieldEl Try.underlying26 rfl inf24 rfl rfl (Sl.o hS) (by first | (rw [bus_len]; omega) | (simp [bus_len]; omega) | (simp_all [bus_len]; omega))) ?_)))
        refine TO.quiet (q_ld Try.underlying24 rfl rfl (Sl.o hS) (bus_get (by first | assumption | omega | (simp; omega) | simp_all) 4 (by decide))) (TO.quiet (q_move rfl) (TO.quiet (q_ix (i := j) Try.underlying24 inf22 rfl rfl (Sl.o (hq _ (List.getElem_mem hlt8)).out) (by first | assumption | omega | (simp; omega) | simp_all) (by rw [hvl]; exact hlt59)) (TO.quiet (q_ld Try.underlying22 rfl rfl (Sl.o (hq _ (List.getElem_mem hlt8)).out) g1) ?_)))
        refine TO.quiet (q_len Try.underlying22 rfl) (TO.quiet (q_gtr rfl rfl) ?_)
        refine TO.nil ?_
        refine T.condP rfl (fun hc => ?_) (fun hc => ?_)
        · have hlt71 : qs[k].b.sets[j].length > 40 := by omega
          refine T.seq (T.region ?_)
          refine TO.quiet (q_assign rfl) ?_
          refine TO.nil (T.ret ?_)
          refine Res.one (.bool true) Try.results11 rfl ?_
          exact ⟨congrArg Value.bool ((any_hit hlt8 (show longB _ = true by unfold longB; rw [any_hit hlt59 (decide_eq_true (by omega))]; simp)).symm), rfl⟩
        have hge71 : ¬ qs[k].b.sets[j].length > 40 := by omega
        refine T.skip (T.region ?_)
        refine TO.quiet (q_move rfl) (TO.quiet (q_addN (a := j) (b := 1) rfl rfl (by omega)) (TO.quiet (q_assign rfl) ?_))
        refine TO.nil ?_
        exact ⟨j + 1, by omega, rfl, by omega, hnl, any_snoc hlt59 hj2 (decide_eq_false (by omega)), ⟨rfl, rfl, rfl, trivial⟩⟩
      have hge59 : ¬ j < qs[k].b.sets.length := by omega
      refine T.exit ?_
      refine T.region ?_
      refine TO.quiet (q_move rfl) (TO.quiet (q_addN (a := k) (b := 1) rfl rfl (by omega)) (TO.quiet (q_assign rfl) ?_))
      refine TO.nil ?_
      refine ⟨k + 1, by omega, rfl, by omega, any_snoc hlt8 hany ?_, ⟨rfl, rfl, trivial⟩⟩
      show longB _ = false
      unfold longB; rw [hnl, any_done (by omega) hj2]; rfl
    refine TO.guarded rfl rfl rfl (LT.of_quiet rfl rfl (QT.toB (q_move rfl) (decide_eq_false hs43)) ?_)
    refine TO.passed rfl rfl ?_
    refine TO.passed rfl rfl ?_
    refine TO.passed rfl rfl ?_
    refine TO.passed rfl rfl ?_
    refine TO.passed rfl rfl ?_
    refine TO.passed rfl rfl ?_
    refine TO.guarded rfl rfl rfl (LT.of_quiet rfl rfl (q_pick0 rfl rfl) ?_)
    refine TO.quiet (q_pick0 rfl rfl) ?_
    refine TO.nil ?_
    refine T.cond0 rfl ?_
    refine T.skip (T.seq (T.region ?_))
    refine TO.quiet (q_assign rfl) ?_
    refine TO.nil (T.block ?_)
    refine T.loop (fun (j : Nat) ρ O => O = [] ∧ j ≤ qs[k].b.sets.length ∧ longN qs[k].b = false ∧ (qs[k].b.sets.take j).any (fun r => decide (40 < r.length)) = false ∧ Heads [(0, (.slice b qs.length c)), (3, .int .i64 (k : Int)), (4, .int .i64 (j : Int))] ρ) (fun j => qs[k].b.sets.length - j) 0 ?_ ?_
    · refine ⟨rfl, Nat.zero_le _, decide_eq_false (by omega), rfl, ⟨rfl, rfl, rfl, trivial⟩⟩
    rintro j ρ O ⟨rfl, hj, hnl, hj2, hH⟩
    obtain ⟨ρ0, rfl⟩ := hH.elim
    clear hH
    refine T.seq (T.seq (T.region ?_))
    refine TO.quiet (q_move rfl) (TO.quiet (q_move rfl) (TO.quiet (q_move rfl) (TO.quiet (q_ixK (i := k) Try.underlying71 inf26 rfl rfl (Sl.o hS) (by first | assumption | omega | (simp; omega) | simp_all) (by first | (rw [bus_len]; omega) | (simp [bus_len]; omega) | (simp_all [bus_len]; omega))) ?_)))
    refine TO.quiet (q_fieldEl Try.underlying26 rfl inf24 rfl rfl (Sl.o hS) (by first | (rw [bus_len]; omega) | (simp [bus_len]; omega) | (simp_all [bus_len]; omega))) (TO.quiet (q_ld Try.underlying24 rfl rfl (Sl.o hS) (bus_get (by first | assumption | omega | (simp; omega) | simp_all) 4 (by decide))) (TO.quiet (q_len Try.underlying24 rfl) (TO.quiet (q_lss rfl rfl) ?_)))
    refine TO.nil ?_
    refine T.condP rfl (fun hc => ?_) (fun hc => ?_)
    · have hlt59 : j < qs[k].b.sets.length := by omega
      obtain ⟨vb, vc, g1, s1⟩ := (hq _ (List.getElem_mem hlt8)).rows.get hlt59
      refine T.skip (T.seq (T.block (T.seq (T.region ?_))))
      refine TO.quiet (q_move rfl) (TO.quiet (q_move rfl) (TO.quiet (q_ixK (i := k) Try.underlying71 inf26 rfl rfl (Sl.o hS) (by first | assumption | omega | (simp; omega) | simp_all) (by first | (rw [bus_len]; omega) | (simp [bus_len]; omega) | (simp_all [bus_len]; omega))) (TO.quiet (q_fieldEl Try.underlying26 rfl inf24 rfl rfl (Sl.o hS) (by first | (rw [bus_len]; omega) | (simp [bus_len]; omega) | (simp_all [bus_len]; omega))) ?_)))
      refine TO.quiet (q_ld Try.underlying24 rfl rfl (Sl.o hS) (bus_get (by first | assumption | omega | (simp; omega) | simp_all) 4 (by decide))) (TO.quiet (q_move rfl) (TO.quiet (q_ix (i := j) Try.underlying24 inf22 rfl rfl (Sl.o (hq _ (List.getElem_mem hlt8)).out) (by first | assumption | omega | (simp; omega) | simp_all) (by rw [hvl]; exact hlt59)) (TO.quiet (q_ld Try.underlying22 rfl rfl (Sl.o (hq _ (List.getElem_mem hlt8)).out) g1) ?_)))
      refine TO.quiet (q_len Try.underlying22 rfl) (TO.quiet (q_gtr rfl rfl) ?_)
      refine TO.nil ?_
      refine T.condP rfl (fun hc => ?_) (fun hc => ?_)
      · have hlt71 : qs[k].b.sets[j].length > 40 := by omega
        refine T.seq (T.region ?_)
        refine TO.quiet (q_assign rfl) ?_
        refine TO.nil (T.ret ?_)
        refine Res.one (.bool true) Try.results11 rfl ?_
        exact ⟨congrArg Value.bool ((any_hit hlt8 (show longB _ = true by unfold longB; rw [any_hit hlt59 (decide_eq_true (by omega))]; simp)).symm), rfl⟩
      have hge71 : ¬ qs[k].b.sets[j].length > 40 := by omega
      refine T.skip (T.region ?_)
      refine TO.quiet (q_move rfl) (TO.quiet (q_addN (a := j) (b := 1) rfl rfl (by omega)) (TO.quiet (q_assign rfl) ?_))
      refine TO.nil ?_
      exact ⟨j + 1, by omega, rfl, by omega, hnl, any_snoc hlt59 hj2 (decide_eq_false (by omega)), ⟨rfl, rfl, rfl, trivial⟩⟩
    have hge59 : ¬ j < qs[k].b.sets.length := by omega
    refine T.exit ?_
    refine T.region ?_
    refine TO.quiet (q_move rfl) (TO.quiet (q_addN (a := k) (b := 1) rfl rfl (by omega)) (TO.quiet (q_assign rfl) ?_))
    refine TO.nil ?_
    refine ⟨k + 1, by omega, rfl, by omega, any_snoc hlt8 hany ?_, ⟨rfl, rfl, trivial⟩⟩
    show longB _ = false
    unfold longB; rw [hnl, any_done (by omega) hj2]; rfl
  have hge8 : ¬ k < qs.length := by omega
  refine T.exit ?_
  refine T.seq (T.region ?_)
  refine TO.quiet (q_assign rfl) ?_
  refine TO.nil (T.ret ?_)
  refine Res.one (.bool false) Try.results11 rfl ?_
  exact ⟨congrArg Value.bool ((any_done (by omega) hany).symm), rfl⟩
set_option maxHeartbeats 1000000 in
set_option maxRecDepth 20000 in
theorem longLF (w : World) (b : Option Addr) (c : Nat) (qs : List LaRef) (hS : Sl w b (lasC qs)) (hb : qs.length < 9223372036854775807) :
    PureT Try.prog 12 [.slice b qs.length c] w fun v N => v = .bool (qs.any fun q => longL q.l) ∧ N = [] := by
  refine CallT.enter Try.func12 rfl Try.ntmps12 rfl ?_
  refine T.seq (T.region ?_)
  refine TO.quiet (q_assign rfl) ?_
  refine TO.nil (T.seq (T.seq (T.region ?_)))
  refine TO.quiet (q_assign rfl) ?_
  refine TO.nil (T.block ?_)
  refine T.loop (fun (k : Nat) ρ O => O = [] ∧ k ≤ qs.length ∧ (qs.take k).any (fun q => longL q.l) = false ∧ Heads [(0, (.slice b qs.length c)), (3, .int .i64 (k : Int))] ρ) (fun k => qs.length - k) 0 ?_ ?_
  · exact ⟨rfl, Nat.zero_le _, rfl, ⟨rfl, rfl, trivial⟩⟩
  rintro k ρ O ⟨rfl, hk, hany, hH⟩
  obtain ⟨ρ0, rfl⟩ := hH.elim
  clear hH
  refine T.seq (T.seq (T.region ?_))
  refine TO.quiet (q_move rfl) (TO.quiet (q_move rfl) (TO.quiet (q_len Try.underlying72 rfl) (TO.quiet (q_lss rfl rfl) ?_)))
  refine TO.nil ?_
  refine T.condP rfl (fun hc => ?_) (fun hc => ?_)
  · have hlt7 : k < qs.length := by omega
    refine T.skip (T.seq (T.block (T.seq (T.region ?_))))
    refine TO.quiet (q_move rfl) (TO.quiet (q_move rfl) (TO.quiet (q_ixK (i := k) Try.underlying72 inf29 rfl rfl (Sl.o hS) (by first | assumption | omega | (simp; omega) | simp_all) (by first | (rw [las_len]; omega) | (simp [las_len]; omega) | (simp_all [las_len]; omega))) (TO.quiet (q_fieldEl Try.underlying29 rfl inf27 rfl rfl (Sl.o hS) (by first | (rw [las_len]; omega) | (simp [las_len]; omega) | (simp_all [las_len]; omega))) ?_)))
    refine TO.quiet (q_ld Try.underlying27 rfl rfl (Sl.o hS) (las_get (by first | assumption | omega | (simp; omega) | simp_all) 0 (by decide))) (TO.quiet (q_len Try.underlying27 rfl) (TO.quiet (q_gtr rfl rfl) ?_))
    by_cases hs17 : (qs[k].l.pre.length : Int) > 70
    · refine TO.quiet (QT.toB (q_move rfl) (decide_eq_true hs17)) ?_
      refine TO.passed rfl rfl ?_
      refine TO.passed rfl rfl ?_
      refine TO.passed rfl rfl ?_
      refine TO.passed rfl rfl ?_
      refine TO.passed rfl rfl ?_
      refine TO.passed rfl rfl ?_
      refine TO.passed rfl rfl ?_
      refine TO.quiet (q_pick1 rfl rfl) ?_
      refine TO.nil ?_
      refine T.cond1 rfl ?_
      refine T.seq (T.region ?_)
      refine TO.quiet (q_assign rfl) ?_
      refine TO.nil (T.ret ?_)
      refine Res.one (.bool true) Try.results12 rfl ?_
      exact ⟨congrArg Value.bool ((any_hit hlt7 (show longL _ = true from decide_eq_true (by omega))).symm), rfl⟩
    refine TO.quiet (QT.toB (q_move rfl) (decide_eq_false hs17)) ?_
    refine TO.guarded rfl rfl rfl (LT.of_quiet rfl rfl (q_move rfl) ?_)
    refine TO.guarded rfl rfl rfl (LT.of_quiet rfl rfl (q_move rfl) ?_)
    refine TO.guarded rfl rfl rfl (LT.of_quiet rfl rfl (q_ixK (i := k) Try.underlying72 inf29 rfl rfl (Sl.o hS) (by first | assumption | omega | (simp; omega) | simp_all) (by first | (rw [las_len]; omega) | (simp [las_len]; omega) | (simp_all [las_len]; omega))) ?_)
    refine TO.guarded rfl rfl rfl (LT.of_quiet rfl rfl (q_fieldEl Try.underlying29 rfl inf27 rfl rfl (Sl.o hS) (by first | (rw [las_len]; omega) | (simp [las_len]; omega) | (simp_all [las_len]; omega))) ?_)
    refine TO.guarded rfl rfl rfl (LT.of_quiet rfl rfl (q_ld Try.underlying27 rfl rfl (Sl.o hS) (las_get (by first | assumption | omega | (simp; omega) | simp_all) 1 (by decide))) ?_)
    refine TO.guarded rfl rfl rfl (LT.of_quiet rfl rfl (q_len Try.underlying27 rfl) ?_)
    refine TO.guarded rfl rfl rfl (LT.of_quiet rfl rfl (q_gtr rfl rfl) ?_)
    refine TO.quiet (q_pick0 rfl rfl) ?_
    refine TO.nil ?_
    refine T.condP rfl (fun hc => ?_) (fun hc => ?_)
    · have hlt25 : qs[k].l.loop.length > 70 := by omega
      refine T.seq (T.region ?_)
      refine TO.quiet (q_assign rfl) ?_
      refine TO.nil (T.ret ?_)
      refine Res.one (.bool true) Try.results12 rfl ?_
      exact ⟨congrArg Value.bool ((any_hit hlt7 (show longL _ = true from decide_eq_true (by omega))).symm), rfl⟩
    have hge25 : ¬ qs[k].l.loop.length > 70 := by omega
    refine T.skip (T.region ?_)
    refine TO.quiet (q_move rfl) (TO.quiet (q_addN (a := k) (b := 1) rfl rfl (by omega)) (TO.quiet (q_assign rfl) ?_))
    refine TO.nil ?_
    exact ⟨k + 1, by omega, rfl, by omega, any_snoc hlt7 hany (decide_eq_false (by omega)), ⟨rfl, rfl, trivial⟩⟩
  have hge7 : ¬ k < qs.length := by omega
  refine T.exit ?_
  refine T.seq (T.region ?_)
  refine TO.quiet (q_assign rfl) ?_
  refine TO.nil (T.ret ?_)
  refine Res.one (.bool false) Try.results12 rfl ?_
  exact ⟨congrArg Value.bool ((any_done (by omega) hany).symm), rfl⟩
set_option maxHeartbeats 1000000 in
set_option maxRecDepth 20000 in
theorem fairF (w : World) (l : La) (pb lb : Option Addr) (pc lc : Nat) (hb : l.pre.length ≤ 1000000000000) (hb2 : l.loop.length ≤ 1000000000000) :
    PureT Try.prog 13 [.agg (laCells l pb pc lb lc).toArray] w fun v N => v = .bool (decide (l.n ≤ 16)) ∧ N = [] := by
  refine CallT.enter Try.func13 rfl Try.ntmps13 rfl ?_
  refine T.seq (T.region ?_)
  refine TO.loud rfl (l_box (v := (.agg (laCells l pb pc lb lc).toArray)) (cs := (laCells l pb pc lb lc)) rfl rfl (fun bx1 => ?_))
  refine TO.quiet (q_assign rfl) ?_
  refine TO.nil (T.seq (T.region ?_))
  refine TO.quiet (q_fieldAddr Try.underlying29 rfl inf27 rfl rfl) (TO.quiet (q_load_box 0 Try.underlying27 rfl rfl rfl rfl) (TO.quiet (q_len Try.underlying27 rfl) (TO.quiet (q_fieldAddr Try.underlying29 rfl inf27 rfl rfl) ?_)))
  refine TO.quiet (q_load_box 0 Try.underlying27 rfl rfl rfl rfl) (TO.quiet (q_len Try.underlying27 rfl) (TO.quiet (q_addN (a := l.pre.length) (b := l.loop.length) rfl rfl (by omega)) (TO.quiet (q_leq rfl rfl) ?_)))
  refine TO.quiet (q_assign rfl) ?_
  refine TO.nil (T.ret (Res.drop ?_))
  refine Res.one (.bool (decide (((l.pre.length + l.loop.length : Nat) : Int) ≤ 16))) Try.results13 rfl ?_
  exact ⟨[], Sub.of (List.nil_sublist _), congrArg Value.bool (decide_eq_decide.2 (by show ((l.pre.length + l.loop.length : Nat) : Int) ≤ 16 ↔ l.pre.length + l.loop.length ≤ 16; omega)), rfl⟩
set_option maxHeartbeats 1000000 in
set_option maxRecDepth 20000 in
theorem copyBuchi (w : World) (b : Bu) (sb eb tb : Option Addr) (sc ec tc : Nat) (vs : List Value) (h : BuAt w b sb eb tb vs) (hB : BuB b) :
    PureT Try.prog 15 [.agg (buCells b sb sc eb ec tb tc).toArray] w fun v N => ∃ sb2 eb2 tb2 sc2 ec2 tc2 qs, v = .agg (buCells b sb2 sc2 eb2 ec2 tb2 tc2).toArray ∧ N = [rowI sb2 sc2 3 1 (ints b.start), rowI eb2 ec2 54 4 (edsC b.edges), rowI tb2 tc2 22 1 (vals qs)] ++ itms 3 qs ∧ nums qs = b.sets := by
  refine CallT.enter Try.func15 rfl Try.ntmps15 rfl ?_
  refine T.seq (T.region ?_)
  refine TO.loud rfl (l_box (v := (.agg (buCells b sb sc eb ec tb tc).toArray)) (cs := (buCells b sb sc eb ec tb tc)) rfl rfl (fun bx1 => ?_))
  refine TO.loud rfl (l_alloc inf26 rfl (fun bx2 => ?_))
  refine TO.nil (T.seq ?_)
  refine T.draws _ [(0, 0), (1, 0), (2, 0), (3, 0), (4, 0), (5, 0), (7, 0), (8, 0), (10, 0), (11, 0), (6, 1), (9, 1), (12, 1), (13, 0), (14, 2)] mixed (by kernel_rfl) (Sub.of (List.Sublist.refl _)) (fun _ _ _ h => h) ?_
  refine DO.quiet rfl (q_fieldAddr Try.underlying26 rfl inf3 rfl rfl) (DO.quiet rfl (q_load_box 1 Try.underlying3 rfl rfl rfl rfl) (DO.quiet rfl (q_fieldAddr Try.underlying26 rfl inf3 rfl rfl) (DO.quiet rfl (q_load_box 1 Try.underlying3 rfl rfl rfl rfl) ?_)))
  refine DO.quiet rfl (q_fieldAddr Try.underlying26 rfl inf22 rfl rfl) (DO.quiet rfl (q_load_box 1 Try.underlying22 rfl rfl rfl rfl) (DO.quiet rfl (q_fieldAddr Try.underlying26 rfl inf23 rfl rfl) (DO.quiet rfl (q_load_box 1 Try.underlying23 rfl rfl rfl rfl) ?_)))
  refine DO.quiet rfl (q_fieldAddr Try.underlying26 rfl inf24 rfl rfl) (DO.quiet rfl (q_load_box 1 Try.underlying24 rfl rfl rfl rfl) ?_)
  have hk9 := fun (w1 : World) (hI : Inv w [oI bx2 26 [(.int .i64 0), (.int .i64 0), (.slice none 0 0), (.slice none 0 0), (.slice none 0 0)], oI bx1 26 (buCells b sb sc eb ec tb tc)] w1) => copyInts w1 sb sc b.start (hI.sl h.st) (by have := hB.st; omega)
  refine DO.loud rfl rfl (l_call ent48 (CallT.of_pure hk9) rfl ?_)
  clear hk9
  rintro vr O' ⟨N, rfl, sb2, sc2, rfl, rfl⟩
  refine ⟨Sub.pick [1, 1] rfl, ?_⟩
  have hk12 := fun (w1 : World) (hI : Inv w [rowI sb2 sc2 3 1 (ints b.start), oI bx2 26 [(.int .i64 0), (.int .i64 0), (.slice none 0 0), (.slice none 0 0), (.slice none 0 0)], oI bx1 26 (buCells b sb sc eb ec tb tc)] w1) => copyEdges w1 eb ec b.edges (hI.sl h.ed) hB.ed
  refine DO.loud rfl rfl (l_call ent49 (CallT.of_pure hk12) rfl ?_)
  clear hk12
  rintro vr O' ⟨N, rfl, eb2, ec2, rfl, rfl⟩
  refine ⟨Sub.pick [2, 2] rfl, ?_⟩
  have hk15 := fun (w1 : World) (hI : Inv w [rowI eb2 ec2 54 4 (edsC b.edges), rowI sb2 sc2 3 1 (ints b.start), oI bx2 26 [(.int .i64 0), (.int .i64 0), (.slice none 0 0), (.slice none 0 0), (.slice none 0 0)], oI bx1 26 (buCells b sb sc eb ec tb tc)] w1) => copyRows w1 tb tc vs b.sets (hI.sl h.out) (hI.rows h.rows) (by have := hB.se; omega) (fun r hr => by have := hB.sr r hr; omega)
  refine DO.loud rfl rfl (l_call ent50 (CallT.of_pure hk15) rfl ?_)
  clear hk15
  rintro vr O' ⟨N, rfl, tb2, tc2, qs, rfl, rfl, hqs⟩
  refine ⟨Sub.appL _ (Sub.pick [2, 2] rfl), ?_⟩
  refine DO.sub (O' := ([rowI tb2 tc2 22 1 (vals qs), rowI eb2 ec2 54 4 (edsC b.edges), rowI sb2 sc2 3 1 (ints b.start), oI bx2 26 [(.int .i64 0), (.int .i64 0), (.slice none 0 0), (.slice none 0 0), (.slice none 0 0)], oI bx1 26 (buCells b sb sc eb ec tb tc)] ++ (itms 3 qs))) (Sub.cnt [] (by intro a; simp only [itms, oI, List.set_cons_zero, List.set_cons_succ, putL, List.cons_append, List.nil_append, List.append_nil, List.append_assoc, List.map_append, List.map_cons, List.map_nil, cnt_append, cnt_cons, cnt_nil, buCells, laCells] <;> omega)) ?_
  refine DO.quiet rfl (q_build (cs := (buCells b sb2 sc2 eb2 ec2 tb2 tc2)) plan26 inf26 (by kernel_rfl)) ?_
  refine DO.last rfl rfl (l_store_box (v := (.agg (buCells b sb2 sc2 eb2 ec2 tb2 tc2).toArray)) (vs := (buCells b sb2 sc2 eb2 ec2 tb2 tc2)) 3 inf26 rfl rfl rfl rfl rfl rfl (by simp [putL]) ?_)
  refine DO.done ?_
  refine T.ret (Res.drop ?_)
  refine Res.cell1 (i := 3) Try.results15 Try.underlying26 rfl inf26 rfl rfl rfl ?_
  exact ⟨[rowI sb2 sc2 3 1 (ints b.start), rowI eb2 ec2 54 4 (edsC b.edges), rowI tb2 tc2 22 1 (vals qs)] ++ itms 3 qs, Sub.cnt [oI bx2 26 (buCells b sb2 sc2 eb2 ec2 tb2 tc2), oI bx1 26 (buCells b sb sc eb ec tb tc)] (by intro a; simp only [itms, oI, List.set_cons_zero, List.set_cons_succ, putL, List.cons_append, List.nil_append, List.append_nil, List.append_assoc, List.map_append, List.map_cons, List.map_nil, cnt_append, cnt_cons, cnt_nil, buCells, laCells] <;> omega), sb2, eb2, tb2, sc2, ec2, tc2, qs, rfl, rfl, hqs⟩
set_option maxHeartbeats 1000000 in
set_option maxRecDepth 20000 in
theorem ownLa (w : World) (l : La) (pb lb : Option Addr) (pc lc : Nat) (h : LaAt w l pb lb pc lc) (hL : LaB l) :
    PureT Try.prog 16 [.agg (laCells l pb pc lb lc).toArray] w fun v N => ∃ pb2 lb2 pc2 lc2, v = .agg (laCells l pb2 pc2 lb2 lc2).toArray ∧ N = [rowI pb2 pc2 5 1 (byts l.pre), rowI lb2 lc2 5 1 (byts l.loop)] := by
  refine CallT.enter Try.func16 rfl Try.ntmps16 rfl ?_
  refine T.seq (T.region ?_)
  refine TO.loud rfl (l_box (v := (.agg (laCells l pb pc lb lc).toArray)) (cs := (laCells l pb pc lb lc)) rfl rfl (fun nb1 => ?_))
  refine TO.loud rfl (l_alloc inf29 rfl (fun nb2 => ?_))
  refine TO.nil (T.seq ?_)
  refine T.draws _ [(0, 0), (1, 0), (3, 0), (4, 0), (2, 1), (5, 2), (6, 2), (7, 2)] mixed (by kernel_rfl) (Sub.of (List.Sublist.refl _)) (fun _ _ _ h => h) ?_
  refine DO.quiet rfl (q_fieldAddr Try.underlying29 rfl inf27 rfl rfl) (DO.quiet rfl (q_load_box 1 Try.underlying27 rfl rfl rfl rfl) (DO.quiet rfl (q_fieldAddr Try.underlying29 rfl inf27 rfl rfl) (DO.quiet rfl (q_load_box 1 Try.underlying27 rfl rfl rfl rfl) ?_)))
  refine DO.loud rfl rfl (l_appendN (l := l.pre.length) Try.underlying27 Try.underlying27 inf5 rfl rfl rfl (by decide) (Src.sl h.pre (by simp)) (byts_one l.pre) (by have := hL.pre; omega) (by decide) (by decide) (fun nb3 nc4 => ⟨Sub.pick [1, 1] rfl, ?_⟩))
  refine DO.last rfl rfl (l_appendN (l := l.loop.length) Try.underlying27 Try.underlying27 inf5 rfl rfl rfl (by decide) (Src.sl h.loop (by simp)) (byts_one l.loop) (by have := hL.loop; omega) (by decide) (by decide) (fun nb5 nc6 => ?_))
  refine DO.last rfl rfl (LT.of_quiet rfl rfl (q_build (cs := (laCells l nb3 nc4 nb5 nc6)) plan29 inf29 (by kernel_rfl)) ?_)
  refine DO.last rfl rfl (l_store_box (v := (.agg (laCells l nb3 nc4 nb5 nc6).toArray)) (vs := (laCells l nb3 nc4 nb5 nc6)) 2 inf29 rfl rfl rfl rfl rfl rfl (by simp [putL]) ?_)
  refine DO.done ?_
  refine T.ret (Res.drop ?_)
  refine Res.cell1 (i := 2) Try.results16 Try.underlying29 rfl inf29 rfl rfl rfl ?_
  exact ⟨[rowI nb3 nc4 5 1 (byts l.pre), rowI nb5 nc6 5 1 (byts l.loop)], (Sub.pick [1, 0] rfl), _, _, _, _, rfl, rfl⟩
set_option maxHeartbeats 1000000 in
set_option maxRecDepth 20000 in
theorem equalBuchi (w : World) (b : Bu) (sb eb tb : Option Addr) (sc ec tc : Nat) (vs : List Value) (h : BuAt w b sb eb tb vs) (hB : BuB b) (b2 : Bu) (sb2 eb2 tb2 : Option Addr) (sc2 ec2 tc2 : Nat) (vs2 : List Value) (h2 : BuAt w b2 sb2 eb2 tb2 vs2) :
    PureT Try.prog 25 [.agg (buCells b sb sc eb ec tb tc).toArray, .agg (buCells b2 sb2 sc2 eb2 ec2 tb2 tc2).toArray] w fun v N => v = .bool (decide (b = b2)) ∧ N = [] := by
  refine CallT.enter Try.func25 rfl Try.ntmps25 rfl ?_
  refine T.seq (T.region ?_)
  refine TO.loud rfl (l_box (v := (.agg (buCells b sb sc eb ec tb tc).toArray)) (cs := (buCells b sb sc eb ec tb tc)) rfl rfl (fun bx1 => ?_))
  refine TO.loud rfl (l_box (v := (.agg (buCells b2 sb2 sc2 eb2 ec2 tb2 tc2).toArray)) (cs := (buCells b2 sb2 sc2 eb2 ec2 tb2 tc2)) rfl rfl (fun bx2 => ?_))
  refine TO.quiet (q_assign rfl) ?_
  refine TO.nil (T.seq (T.region ?_))
  refine TO.quiet (q_fieldAddr Try.underlying26 rfl inf3 rfl rfl) (TO.quiet (q_load_box 1 Try.underlying3 rfl rfl rfl rfl) (TO.quiet (q_fieldAddr Try.underlying26 rfl inf3 rfl rfl) (TO.quiet (q_load_box 0 Try.underlying3 rfl rfl rfl rfl) ?_)))
  refine TO.quiet (q_eql rfl rfl) ?_
  by_cases hs10 : b.vars = b2.vars
  · refine TO.quiet (QT.toB (q_move rfl) (decide_eq_true hs10)) ?_
    refine TO.guarded rfl rfl rfl (LT.of_quiet rfl rfl (q_fieldAddr Try.underlying26 rfl inf3 rfl rfl) ?_)
    refine TO.guarded rfl rfl rfl (LT.of_quiet rfl rfl (q_load_box 1 Try.underlying3 rfl rfl rfl rfl) ?_)
    refine TO.guarded rfl rfl rfl (LT.of_quiet rfl rfl (q_fieldAddr Try.underlying26 rfl inf3 rfl rfl) ?_)
    refine TO.guarded rfl rfl rfl (LT.of_quiet rfl rfl (q_load_box 0 Try.underlying3 rfl rfl rfl rfl) ?_)
    refine TO.guarded rfl rfl rfl (LT.of_quiet rfl rfl (q_eql rfl rfl) ?_)
    refine TO.quiet (q_pick1 rfl rfl) ?_
    by_cases hs17 : b.states = b2.states
    · refine TO.quiet (QT.toB (q_move rfl) (decide_eq_true hs17)) ?_
      refine TO.guarded rfl rfl rfl (LT.of_quiet rfl rfl (q_fieldAddr Try.underlying26 rfl inf22 rfl rfl) ?_)
      refine TO.guarded rfl rfl rfl (LT.of_quiet rfl rfl (q_load_box 1 Try.underlying22 rfl rfl rfl rfl) ?_)
      refine TO.guarded rfl rfl rfl (LT.of_quiet rfl rfl (q_fieldAddr Try.underlying26 rfl inf22 rfl rfl) ?_)
      refine TO.guarded rfl rfl rfl (LT.of_quiet rfl rfl (q_load_box 0 Try.underlying22 rfl rfl rfl rfl) ?_)
      by_cases e3 : b.start = b2.start
      · have hk22 := fun (w1 : World) (hI : Inv w [oI bx2 26 (buCells b2 sb2 sc2 eb2 ec2 tb2 tc2), oI bx1 26 (buCells b sb sc eb ec tb tc)] w1) => equalInts w1 sb sb2 sc sc2 b.start b2.start (hI.sl h.st) (hI.sl h2.st) (by have := hB.st; omega)
        refine TO.guarded rfl rfl rfl (l_call ent47 (CallT.of_pure hk22) rfl ?_)
        clear hk22
        rintro vr O' ⟨N, rfl, rfl, rfl⟩
        rw [decide_eq_true e3]
        refine TO.quiet (q_pick1 rfl rfl) (TO.quiet (q_move rfl) ?_)
        refine TO.guarded rfl rfl rfl (LT.of_quiet rfl rfl (q_fieldAddr Try.underlying26 rfl inf23 rfl rfl) ?_)
        refine TO.guarded rfl rfl rfl (LT.of_quiet rfl rfl (q_load_box 1 Try.underlying23 rfl rfl rfl rfl) ?_)
        refine TO.guarded rfl rfl rfl (LT.of_quiet rfl rfl (q_fieldAddr Try.underlying26 rfl inf23 rfl rfl) ?_)
        refine TO.guarded rfl rfl rfl (LT.of_quiet rfl rfl (q_load_box 0 Try.underlying23 rfl rfl rfl rfl) ?_)
        by_cases e4 : b.edges = b2.edges
        · have hk29 := fun (w1 : World) (hI : Inv w [oI bx2 26 (buCells b2 sb2 sc2 eb2 ec2 tb2 tc2), oI bx1 26 (buCells b sb sc eb ec tb tc)] w1) => equalEdges w1 eb eb2 ec ec2 b.edges b2.edges (hI.sl h.ed) (hI.sl h2.ed) hB.ed
          refine TO.guarded rfl rfl rfl (l_call ent66 (CallT.of_pure hk29) rfl ?_)
          clear hk29
          rintro vr O' ⟨N, rfl, rfl, rfl⟩
          rw [decide_eq_true e4]
          refine TO.quiet (q_pick1 rfl rfl) (TO.quiet (q_move rfl) ?_)
          refine TO.guarded rfl rfl rfl (LT.of_quiet rfl rfl (q_fieldAddr Try.underlying26 rfl inf24 rfl rfl) ?_)
          refine TO.guarded rfl rfl rfl (LT.of_quiet rfl rfl (q_load_box 1 Try.underlying24 rfl rfl rfl rfl) ?_)
          refine TO.guarded rfl rfl rfl (LT.of_quiet rfl rfl (q_fieldAddr Try.underlying26 rfl inf24 rfl rfl) ?_)
          refine TO.guarded rfl rfl rfl (LT.of_quiet rfl rfl (q_load_box 0 Try.underlying24 rfl rfl rfl rfl) ?_)
          by_cases e5 : b.sets = b2.sets
          · have hk36 := fun (w1 : World) (hI : Inv w [oI bx2 26 (buCells b2 sb2 sc2 eb2 ec2 tb2 tc2), oI bx1 26 (buCells b sb sc eb ec tb tc)] w1) => equalRows w1 tb tb2 tc tc2 vs vs2 b.sets b2.sets (hI.sl h.out) (hI.rows h.rows) (hI.sl h2.out) (hI.rows h2.rows) (by have := hB.se; omega) (fun r hr => by have := hB.sr r hr; omega)
            refine TO.guarded rfl rfl rfl (l_call ent67 (CallT.of_pure hk36) rfl ?_)
            clear hk36
            rintro vr O' ⟨N, rfl, rfl, rfl⟩
            rw [decide_eq_true e5]
            refine TO.quiet (q_pick1 rfl rfl) (TO.quiet (q_assign rfl) ?_)
            refine TO.nil (T.ret (Res.drop ?_))
            refine Res.one (.bool true) Try.results25 rfl ?_
            refine ⟨[], Sub.of (List.nil_sublist _), congrArg Value.bool (decide_eq_true ?_).symm, rfl⟩
            cases b; cases b2; simp only at hs10 hs17 e3 e4 e5; rw [hs10, hs17, e3, e4, e5]
          have hk36 := fun (w1 : World) (hI : Inv w [oI bx2 26 (buCells b2 sb2 sc2 eb2 ec2 tb2 tc2), oI bx1 26 (buCells b sb sc eb ec tb tc)] w1) => equalRows w1 tb tb2 tc tc2 vs vs2 b.sets b2.sets (hI.sl h.out) (hI.rows h.rows) (hI.sl h2.out) (hI.rows h2.rows) (by have := hB.se; omega) (fun r hr => by have := hB.sr r hr; omega)
          refine TO.guarded rfl rfl rfl (l_call ent67 (CallT.of_pure hk36) rfl ?_)
          clear hk36
          rintro vr O' ⟨N, rfl, rfl, rfl⟩
          rw [decide_eq_false e5]
          refine TO.quiet (q_pick1 rfl rfl) (TO.quiet (q_assign rfl) ?_)
          refine TO.nil (T.ret (Res.drop ?_))
          refine Res.one (.bool false) Try.results25 rfl ?_
          refine ⟨[], Sub.of (List.nil_sublist _), congrArg Value.bool (decide_eq_false (fun e => ?_)).symm, rfl⟩
          subst e; first | exact hs10 rfl | exact hs17 rfl | exact e3 rfl | exact e4 rfl | exact e5 rfl
        have hk29 := fun (w1 : World) (hI : Inv w [oI bx2 26 (buCells b2 sb2 sc2 eb2 ec2 tb2 tc2), oI bx1 26 (buCells b sb sc eb ec tb tc)] w1) => equalEdges w1 eb eb2 ec ec2 b.edges b2.edges (hI.sl h.ed) (hI.sl h2.ed) hB.ed
        refine TO.guarded rfl rfl rfl (l_call ent66 (CallT.of_pure hk29) rfl ?_)
        clear hk29
        rintro vr O' ⟨N, rfl, rfl, rfl⟩
        rw [decide_eq_false e4]
        refine TO.quiet (q_pick1 rfl rfl) (TO.quiet (q_move rfl) ?_)
        refine TO.passed rfl rfl ?_
        refine TO.passed rfl rfl ?_
        refine TO.passed rfl rfl ?_
        refine TO.passed rfl rfl ?_
        refine TO.passed rfl rfl ?_
        refine TO.quiet (q_pick0 rfl rfl) (TO.quiet (q_assign rfl) ?_)
        refine TO.nil (T.ret (Res.drop ?_))
        refine Res.one (.bool false) Try.results25 rfl ?_
        refine ⟨[], Sub.of (List.nil_sublist _), congrArg Value.bool (decide_eq_false (fun e => ?_)).symm, rfl⟩
        subst e; first | exact hs10 rfl | exact hs17 rfl | exact e3 rfl | exact e4 rfl | exact e5 rfl
      have hk22 := fun (w1 : World) (hI : Inv w [oI bx2 26 (buCells b2 sb2 sc2 eb2 ec2 tb2 tc2), oI bx1 26 (buCells b sb sc eb ec tb tc)] w1) => equalInts w1 sb sb2 sc sc2 b.start b2.start (hI.sl h.st) (hI.sl h2.st) (by have := hB.st; omega)
      refine TO.guarded rfl rfl rfl (l_call ent47 (CallT.of_pure hk22) rfl ?_)
      clear hk22
      rintro vr O' ⟨N, rfl, rfl, rfl⟩
      rw [decide_eq_false e3]
      refine TO.quiet (q_pick1 rfl rfl) (TO.quiet (q_move rfl) ?_)
      refine TO.passed rfl rfl ?_
      refine TO.passed rfl rfl ?_
      refine TO.passed rfl rfl ?_
      refine TO.passed rfl rfl ?_
      refine TO.passed rfl rfl ?_
      refine TO.quiet (q_pick0 rfl rfl) (TO.quiet (q_move rfl) ?_)
      refine TO.passed rfl rfl ?_
      refine TO.passed rfl rfl ?_
      refine TO.passed rfl rfl ?_
      refine TO.passed rfl rfl ?_
      refine TO.passed rfl rfl ?_
      refine TO.quiet (q_pick0 rfl rfl) (TO.quiet (q_assign rfl) ?_)
      refine TO.nil (T.ret (Res.drop ?_))
      refine Res.one (.bool false) Try.results25 rfl ?_
      refine ⟨[], Sub.of (List.nil_sublist _), congrArg Value.bool (decide_eq_false (fun e => ?_)).symm, rfl⟩
      subst e; first | exact hs10 rfl | exact hs17 rfl | exact e3 rfl | exact e4 rfl | exact e5 rfl
    refine TO.quiet (QT.toB (q_move rfl) (decide_eq_false hs17)) ?_
    refine TO.passed rfl rfl ?_
    refine TO.passed rfl rfl ?_
    refine TO.passed rfl rfl ?_
    refine TO.passed rfl rfl ?_
    refine TO.passed rfl rfl ?_
    refine TO.quiet (q_pick0 rfl rfl) (TO.quiet (q_move rfl) ?_)
    refine TO.passed rfl rfl ?_
    refine TO.passed rfl rfl ?_
    refine TO.passed rfl rfl ?_
    refine TO.passed rfl rfl ?_
    refine TO.passed rfl rfl ?_
    refine TO.quiet (q_pick0 rfl rfl) (TO.quiet (q_move rfl) ?_)
    refine TO.passed rfl rfl ?_
    refine TO.passed rfl rfl ?_
    refine TO.passed rfl rfl ?_
    refine TO.passed rfl rfl ?_
    refine TO.passed rfl rfl ?_
    refine TO.quiet (q_pick0 rfl rfl) (TO.quiet (q_assign rfl) ?_)
    refine TO.nil (T.ret (Res.drop ?_))
    refine Res.one (.bool false) Try.results25 rfl ?_
    refine ⟨[], Sub.of (List.nil_sublist _), congrArg Value.bool (decide_eq_false (fun e => ?_)).symm, rfl⟩
    subst e; first | exact hs10 rfl | exact hs17 rfl | exact e3 rfl | exact e4 rfl | exact e5 rfl
  refine TO.quiet (QT.toB (q_move rfl) (decide_eq_false hs10)) ?_
  refine TO.passed rfl rfl ?_
  refine TO.passed rfl rfl ?_
  refine TO.passed rfl rfl ?_
  refine TO.passed rfl rfl ?_
  refine TO.passed rfl rfl ?_
  refine TO.quiet (q_pick0 rfl rfl) (TO.quiet (q_move rfl) ?_)
  refine TO.passed rfl rfl ?_
  refine TO.passed rfl rfl ?_
  refine TO.passed rfl rfl ?_
  refine TO.passed rfl rfl ?_
  refine TO.passed rfl rfl ?_
  refine TO.quiet (q_pick0 rfl rfl) (TO.quiet (q_move rfl) ?_)
  refine TO.passed rfl rfl ?_
  refine TO.passed rfl rfl ?_
  refine TO.passed rfl rfl ?_
  refine TO.passed rfl rfl ?_
  refine TO.passed rfl rfl ?_
  refine TO.quiet (q_pick0 rfl rfl) (TO.quiet (q_move rfl) ?_)
  refine TO.passed rfl rfl ?_
  refine TO.passed rfl rfl ?_
  refine TO.passed rfl rfl ?_
  refine TO.passed rfl rfl ?_
  refine TO.passed rfl rfl ?_
  refine TO.quiet (q_pick0 rfl rfl) (TO.quiet (q_assign rfl) ?_)
  refine TO.nil (T.ret (Res.drop ?_))
  refine Res.one (.bool false) Try.results25 rfl ?_
  refine ⟨[], Sub.of (List.nil_sublist _), congrArg Value.bool (decide_eq_false (fun e => ?_)).symm, rfl⟩
  subst e; first | exact hs10 rfl | exact hs17 rfl | exact e3 rfl | exact e4 rfl | exact e5 rfl
set_option maxHeartbeats 1000000 in
set_option maxRecDepth 20000 in
theorem isF (w : World) (l : La) (pb lb : Option Addr) (pc lc : Nat) (h : LaAt w l pb lb pc lc) (hb1 : l.pre.length ≤ 1000000) (hb2 : l.loop.length ≤ 1000000) (l2 : La) (pb2 lb2 : Option Addr) (pc2 lc2 : Nat) (h2 : LaAt w l2 pb2 lb2 pc2 lc2) :
    PureT Try.prog 26 [.agg (laCells l pb pc lb lc).toArray, .agg (laCells l2 pb2 pc2 lb2 lc2).toArray] w fun v N => v = .bool (decide (l = l2)) ∧ N = [] := by
  refine CallT.enter Try.func26 rfl Try.ntmps26 rfl ?_
  refine T.seq (T.region ?_)
  refine TO.loud rfl (l_box (v := (.agg (laCells l pb pc lb lc).toArray)) (cs := (laCells l pb pc lb lc)) rfl rfl (fun bx1 => ?_))
  refine TO.loud rfl (l_box (v := (.agg (laCells l2 pb2 pc2 lb2 lc2).toArray)) (cs := (laCells l2 pb2 pc2 lb2 lc2)) rfl rfl (fun bx2 => ?_))
  refine TO.quiet (q_assign rfl) ?_
  refine TO.nil (T.seq (T.region ?_))
  refine TO.quiet (q_fieldAddr Try.underlying29 rfl inf27 rfl rfl) (TO.quiet (q_load_box 1 Try.underlying27 rfl rfl rfl rfl) (TO.quiet (q_fieldAddr Try.underlying29 rfl inf27 rfl rfl) (TO.quiet (q_load_box 0 Try.underlying27 rfl rfl rfl rfl) ?_)))
  by_cases e1 : l.pre = l2.pre
  · have hk9 := fun (w1 : World) (hI : Inv w [oI bx2 29 (laCells l2 pb2 pc2 lb2 lc2), oI bx1 29 (laCells l pb pc lb lc)] w1) => letters w1 pb pb2 pc pc2 l.pre l2.pre (hI.sl h.pre) (hI.sl h2.pre) (by omega)
    refine TO.loud rfl (l_call ent68 (CallT.of_pure hk9) rfl ?_)
    clear hk9
    rintro vr O' ⟨N, rfl, rfl, rfl⟩
    rw [decide_eq_true e1]
    refine TO.quiet (q_move rfl) ?_
    refine TO.guarded rfl rfl rfl (LT.of_quiet rfl rfl (q_fieldAddr Try.underlying29 rfl inf27 rfl rfl) ?_)
    refine TO.guarded rfl rfl rfl (LT.of_quiet rfl rfl (q_load_box 1 Try.underlying27 rfl rfl rfl rfl) ?_)
    refine TO.guarded rfl rfl rfl (LT.of_quiet rfl rfl (q_fieldAddr Try.underlying29 rfl inf27 rfl rfl) ?_)
    refine TO.guarded rfl rfl rfl (LT.of_quiet rfl rfl (q_load_box 0 Try.underlying27 rfl rfl rfl rfl) ?_)
    by_cases e2 : l.loop = l2.loop
    · have hk15 := fun (w1 : World) (hI : Inv w [oI bx2 29 (laCells l2 pb2 pc2 lb2 lc2), oI bx1 29 (laCells l pb pc lb lc)] w1) => letters w1 lb lb2 lc lc2 l.loop l2.loop (hI.sl h.loop) (hI.sl h2.loop) (by omega)
      refine TO.guarded rfl rfl rfl (l_call ent68 (CallT.of_pure hk15) rfl ?_)
      clear hk15
      rintro vr O' ⟨N, rfl, rfl, rfl⟩
      rw [decide_eq_true e2]
      refine TO.quiet (q_pick1 rfl rfl) (TO.quiet (q_assign rfl) ?_)
      refine TO.nil (T.ret (Res.drop ?_))
      refine Res.one (.bool true) Try.results26 rfl ?_
      refine ⟨[], Sub.of (List.nil_sublist _), congrArg Value.bool (decide_eq_true ?_).symm, rfl⟩
      cases l; cases l2; simp only at e1 e2; rw [e1, e2]
    have hk15 := fun (w1 : World) (hI : Inv w [oI bx2 29 (laCells l2 pb2 pc2 lb2 lc2), oI bx1 29 (laCells l pb pc lb lc)] w1) => letters w1 lb lb2 lc lc2 l.loop l2.loop (hI.sl h.loop) (hI.sl h2.loop) (by omega)
    refine TO.guarded rfl rfl rfl (l_call ent68 (CallT.of_pure hk15) rfl ?_)
    clear hk15
    rintro vr O' ⟨N, rfl, rfl, rfl⟩
    rw [decide_eq_false e2]
    refine TO.quiet (q_pick1 rfl rfl) (TO.quiet (q_assign rfl) ?_)
    refine TO.nil (T.ret (Res.drop ?_))
    refine Res.one (.bool false) Try.results26 rfl ?_
    refine ⟨[], Sub.of (List.nil_sublist _), congrArg Value.bool (decide_eq_false (fun e => ?_)).symm, rfl⟩
    subst e; first | exact e1 rfl | exact e2 rfl
  have hk9 := fun (w1 : World) (hI : Inv w [oI bx2 29 (laCells l2 pb2 pc2 lb2 lc2), oI bx1 29 (laCells l pb pc lb lc)] w1) => letters w1 pb pb2 pc pc2 l.pre l2.pre (hI.sl h.pre) (hI.sl h2.pre) (by omega)
  refine TO.loud rfl (l_call ent68 (CallT.of_pure hk9) rfl ?_)
  clear hk9
  rintro vr O' ⟨N, rfl, rfl, rfl⟩
  rw [decide_eq_false e1]
  refine TO.quiet (q_move rfl) ?_
  refine TO.passed rfl rfl ?_
  refine TO.passed rfl rfl ?_
  refine TO.passed rfl rfl ?_
  refine TO.passed rfl rfl ?_
  refine TO.passed rfl rfl ?_
  refine TO.quiet (q_pick0 rfl rfl) (TO.quiet (q_assign rfl) ?_)
  refine TO.nil (T.ret (Res.drop ?_))
  refine Res.one (.bool false) Try.results26 rfl ?_
  refine ⟨[], Sub.of (List.nil_sublist _), congrArg Value.bool (decide_eq_false (fun e => ?_)).symm, rfl⟩
  subst e; first | exact e1 rfl | exact e2 rfl
set_option maxHeartbeats 1000000 in
set_option maxRecDepth 20000 in
theorem statesF (w : World) (b : Option Addr) (c : Nat) (xs : List Int) (n : Int) (h : Sl w b (ints xs)) (hb : xs.length ≤ 1000000) :
    PureT Try.prog 64 [.slice b xs.length c, .int .i64 n] w fun v N => v = .bool (rises n (-1) xs) ∧ N = [] := by
  refine CallT.enter Try.func64 rfl Try.ntmps64 rfl ?_
  refine T.seq (T.region ?_)
  refine TO.quiet (q_assign rfl) ?_
  refine TO.nil (T.seq (T.region ?_))
  refine TO.quiet (q_assign rfl) ?_
  refine TO.nil (T.seq (T.seq (T.region ?_)))
  refine TO.quiet (q_move rfl) (TO.quiet (q_len Try.underlying22 rfl) (TO.quiet (q_move rfl) ?_))
  refine TO.nil (T.block ?_)
  refine T.loop (fun (k : Nat) ρ O => ∃ (a : Int), O = [] ∧ k ≤ xs.length ∧ rises n a (xs.drop k) = rises n (-1) xs ∧ Heads [(0, (.slice b xs.length c)), (1, .int .i64 n), (5, .int .i64 a), (8, (.slice b xs.length c)), (9, .int .i64 (xs.length : Int)), (10, .int .i64 (k : Int))] ρ) (fun k => xs.length - k) 0 ?_ ?_
  · exact ⟨-1, rfl, Nat.zero_le _, rfl, ⟨rfl, rfl, rfl, rfl, rfl, rfl, trivial⟩⟩
  rintro k ρ O ⟨a, rfl, hk, hr, hH⟩
  obtain ⟨ρ0, rfl⟩ := hH.elim
  clear hH
  refine T.seq (T.region ?_)
  refine TO.quiet (q_lss rfl rfl) ?_
  refine TO.nil (T.seq ?_)
  refine T.condP rfl (fun hc => ?_) (fun hc => ?_)
  · have hlt11 : k < xs.length := by omega
    refine T.skip (T.seq (T.block (T.seq (T.region ?_))))
    refine TO.quiet (q_ix (i := k) Try.underlying22 inf3 rfl rfl (Sl.o h)) (TO.quiet (q_ld Try.underlying3 rfl rfl (Sl.o h) ints_get) (TO.quiet (q_assign rfl) ?_))
    refine TO.nil (T.seq (T.seq (T.region ?_)))
    refine TO.quiet (q_move rfl) (TO.quiet (q_move rfl) (TO.quiet (q_leq rfl rfl) ?_))
    by_cases hs17 : xs[k] ≤ a
    · refine TO.quiet (QT.toB (q_move rfl) (decide_eq_true hs17)) ?_
      refine TO.passed rfl rfl ?_
      refine TO.passed rfl rfl ?_
      refine TO.passed rfl rfl ?_
      refine TO.quiet (q_pick1 rfl rfl) ?_
      refine TO.nil ?_
      refine T.cond1 rfl ?_
      refine T.seq (T.region ?_)
      refine TO.quiet (q_assign rfl) ?_
      refine TO.nil (T.ret ?_)
      refine Res.one (.bool false) Try.results64 rfl ?_
      exact ⟨congrArg Value.bool (by rw [← hr, rises_no hlt11 (by omega)]), rfl⟩
    refine TO.quiet (QT.toB (q_move rfl) (decide_eq_false hs17)) ?_
    refine TO.guarded rfl rfl rfl (LT.of_quiet rfl rfl (q_move rfl) ?_)
    refine TO.guarded rfl rfl rfl (LT.of_quiet rfl rfl (q_move rfl) ?_)
    refine TO.guarded rfl rfl rfl (LT.of_quiet rfl rfl (q_geq rfl rfl) ?_)
    refine TO.quiet (q_pick0 rfl rfl) ?_
    refine TO.nil ?_
    refine T.condP rfl (fun hc => ?_) (fun hc => ?_)
    · refine T.seq ?_
      refine T.region ?_
      refine TO.quiet (q_assign rfl) ?_
      refine TO.nil (T.ret ?_)
      refine Res.one (.bool false) Try.results64 rfl ?_
      exact ⟨congrArg Value.bool (by rw [← hr, rises_no hlt11 (by omega)]), rfl⟩
    refine T.skip (T.region ?_)
    refine TO.quiet (q_move rfl) (TO.quiet (q_assign rfl) ?_)
    refine TO.nil (T.region ?_)
    refine TO.quiet (q_addN (a := k) (b := 1) rfl rfl (by omega)) (TO.quiet (q_move rfl) ?_)
    refine TO.nil ?_
    exact ⟨k + 1, by omega, xs[k], rfl, by omega, by rw [← hr, rises_yes hlt11 (by omega) (by omega)], ⟨rfl, rfl, rfl, rfl, rfl, rfl, trivial⟩⟩
  have hge11 : ¬ k < xs.length := by omega
  refine T.exit ?_
  refine T.seq (T.region ?_)
  refine TO.quiet (q_assign rfl) ?_
  refine TO.nil (T.ret ?_)
  refine Res.one (.bool true) Try.results64 rfl ?_
  exact ⟨congrArg Value.bool (by rw [← hr, rises_end (by omega)]), rfl⟩
set_option maxHeartbeats 1000000 in
set_option maxRecDepth 20000 in
theorem risesF (w : World) (b : Option Addr) (c : Nat) (xs : List Int) (n : Int) (h : Sl w b (ints xs)) (hb : xs.length ≤ 1000000) :
    PureT Try.prog 65 [.slice b xs.length c, .int .i64 n] w fun v N => v = .bool (rises n (-1) xs) ∧ N = [] := by
  refine CallT.enter Try.func65 rfl Try.ntmps65 rfl ?_
  refine T.seq (T.region ?_)
  refine TO.quiet (q_assign rfl) ?_
  refine TO.nil (T.seq (T.seq (T.region ?_)))
  refine TO.quiet (q_assign rfl) ?_
  refine TO.nil (T.block ?_)
  refine T.loop (fun (k : Nat) ρ O => ∃ (a : Int), O = [] ∧ k ≤ xs.length ∧ rises n a (xs.drop k) = rises n (-1) xs ∧ (k = 0 → a = -1) ∧ (0 < k → 0 ≤ a ∧ xs[k - 1]? = some a) ∧ Heads [(0, (.slice b xs.length c)), (1, .int .i64 n), (5, .int .i64 (k : Int))] ρ) (fun k => xs.length - k) 0 ?_ ?_
  · exact ⟨-1, rfl, Nat.zero_le _, rfl, fun _ => rfl, fun h => absurd h (by omega), ⟨rfl, rfl, rfl, trivial⟩⟩
  rintro k ρ O ⟨a, rfl, hk, hr, h0, h1, hH⟩
  obtain ⟨ρ0, rfl⟩ := hH.elim
  clear hH
  refine T.seq (T.seq (T.region ?_))
  refine TO.quiet (q_move rfl) (TO.quiet (q_move rfl) (TO.quiet (q_len Try.underlying22 rfl) (TO.quiet (q_lss rfl rfl) ?_)))
  refine TO.nil ?_
  refine T.condP rfl (fun hc => ?_) (fun hc => ?_)
  · have hlt9 : k < xs.length := by omega
    refine T.skip (T.seq (T.block (T.seq ?_)))
    refine T.draws _ [(0, 0), (1, 0), (2, 0), (3, 0), (4, 0), (5, 0), (6, 0), (7, 0), (8, 0), (9, 0), (10, 0), (11, 0), (12, 0), (13, 0), (14, 0), (15, 0), (16, 0), (17, 0), (18, 0), (19, 0), (20, 0), (21, 0), (22, 0), (23, 0), (24, 0), (25, 0), (26, 0), (27, 0), (28, 0)] mixed (by kernel_rfl) (Sub.of (List.Sublist.refl _)) (fun _ _ _ h => h) ?_
    refine DO.quiet rfl (q_move rfl) (DO.quiet rfl (q_move rfl) (DO.quiet rfl (q_ix (i := k) Try.underlying22 inf3 rfl rfl (Sl.o h)) (DO.quiet rfl (q_ld Try.underlying3 rfl rfl (Sl.o h) ints_get) ?_)))
    refine DO.quiet rfl (q_lss rfl rfl) ?_
    by_cases hs17 : xs[k] < 0
    · refine DO.quiet rfl (QT.toB (q_move rfl) (decide_eq_true hs17)) ?_
      refine DO.passed rfl rfl rfl ?_
      refine DO.passed rfl rfl rfl ?_
      refine DO.passed rfl rfl rfl ?_
      refine DO.passed rfl rfl rfl ?_
      refine DO.passed rfl rfl rfl ?_
      refine DO.passed rfl rfl rfl ?_
      refine DO.quiet rfl (q_pick1 rfl rfl) (DO.quiet rfl (q_move rfl) ?_)
      refine DO.passed rfl rfl rfl ?_
      refine DO.passed rfl rfl rfl ?_
      refine DO.passed rfl rfl rfl ?_
      refine DO.passed rfl rfl rfl ?_
      refine DO.passed rfl rfl rfl ?_
      refine DO.passed rfl rfl rfl ?_
      refine DO.passed rfl rfl rfl ?_
      refine DO.passed rfl rfl rfl ?_
      refine DO.passed rfl rfl rfl ?_
      refine DO.passed rfl rfl rfl ?_
      refine DO.passed rfl rfl rfl ?_
      refine DO.passed rfl rfl rfl ?_
      refine DO.passed rfl rfl rfl ?_
      refine DO.passed rfl rfl rfl ?_
      refine DO.quiet rfl (q_pick1 rfl rfl) ?_
      refine DO.done ?_
      refine T.cond1 rfl ?_
      refine T.seq (T.region ?_)
      refine TO.quiet (q_assign rfl) ?_
      refine TO.nil (T.ret ?_)
      refine Res.one (.bool false) Try.results65 rfl ?_
      have hno : xs[k] ≤ a ∨ n ≤ xs[k] := by
        by_cases e : k = 0
        · have := h0 e; omega
        · have h2 := (h1 (by omega)).2
          rw [List.getElem?_eq_getElem (by omega)] at h2
          have h3 := Option.some.inj h2
          have := (h1 (by omega)).1; omega
      exact ⟨congrArg Value.bool (by rw [← hr, rises_no hlt9 hno]), rfl⟩
    refine DO.quiet rfl (QT.toB (q_move rfl) (decide_eq_false hs17)) ?_
    refine DO.guarded rfl rfl rfl (q_move rfl) ?_
    refine DO.guarded rfl rfl rfl (q_move rfl) ?_
    refine DO.guarded rfl rfl rfl (q_ix (i := k) Try.underlying22 inf3 rfl rfl (Sl.o h)) ?_
    refine DO.guarded rfl rfl rfl (q_ld Try.underlying3 rfl rfl (Sl.o h) ints_get) ?_
    refine DO.guarded rfl rfl rfl (q_move rfl) ?_
    refine DO.guarded rfl rfl rfl (q_geq rfl rfl) ?_
    refine DO.quiet rfl (q_pick0 rfl rfl) ?_
    by_cases hs25 : xs[k] ≥ n
    · refine DO.quiet rfl (QT.toB (q_move rfl) (decide_eq_true hs25)) ?_
      refine DO.passed rfl rfl rfl ?_
      refine DO.passed rfl rfl rfl ?_
      refine DO.passed rfl rfl rfl ?_
      refine DO.passed rfl rfl rfl ?_
      refine DO.passed rfl rfl rfl ?_
      refine DO.passed rfl rfl rfl ?_
      refine DO.passed rfl rfl rfl ?_
      refine DO.passed rfl rfl rfl ?_
      refine DO.passed rfl rfl rfl ?_
      refine DO.passed rfl rfl rfl ?_
      refine DO.passed rfl rfl rfl ?_
      refine DO.passed rfl rfl rfl ?_
      refine DO.passed rfl rfl rfl ?_
      refine DO.passed rfl rfl rfl ?_
      refine DO.quiet rfl (q_pick1 rfl rfl) ?_
      refine DO.done ?_
      refine T.cond1 rfl ?_
      refine T.seq (T.region ?_)
      refine TO.quiet (q_assign rfl) ?_
      refine TO.nil (T.ret ?_)
      refine Res.one (.bool false) Try.results65 rfl ?_
      have hno : xs[k] ≤ a ∨ n ≤ xs[k] := by
        by_cases e : k = 0
        · have := h0 e; omega
        · have h2 := (h1 (by omega)).2
          rw [List.getElem?_eq_getElem (by omega)] at h2
          have h3 := Option.some.inj h2
          have := (h1 (by omega)).1; omega
      exact ⟨congrArg Value.bool (by rw [← hr, rises_no hlt9 hno]), rfl⟩
    refine DO.quiet rfl (QT.toB (q_move rfl) (decide_eq_false hs25)) ?_
    refine DO.guarded rfl rfl rfl (q_move rfl) ?_
    refine DO.guarded rfl rfl rfl (q_gtr rfl rfl) ?_
    by_cases hs28 : (k : Int) > 0
    · refine DO.guarded rfl rfl rfl (QT.toB (q_move rfl) (decide_eq_true hs28)) ?_
      refine DO.guarded rfl rfl rfl (q_move rfl) ?_
      refine DO.guarded rfl rfl rfl (q_move rfl) ?_
      refine DO.guarded rfl rfl rfl (q_ix (i := k) Try.underlying22 inf3 rfl rfl (Sl.o h)) ?_
      refine DO.guarded rfl rfl rfl (q_ld Try.underlying3 rfl rfl (Sl.o h) ints_get) ?_
      refine DO.guarded rfl rfl rfl (q_move rfl) ?_
      refine DO.guarded rfl rfl rfl (q_move rfl) ?_
      refine DO.guarded rfl rfl rfl (q_subN (a := k) (b := 1) rfl rfl (by omega) (by omega)) ?_
      refine DO.guarded rfl rfl rfl (q_ix (i := (k - 1)) Try.underlying22 inf3 rfl rfl (Sl.o h)) ?_
      refine DO.guarded rfl rfl rfl (q_ld Try.underlying3 rfl rfl (Sl.o h) ints_get) ?_
      refine DO.guarded rfl rfl rfl (q_leq rfl rfl) ?_
      refine DO.guarded rfl rfl rfl (q_pick1 rfl rfl) ?_
      refine DO.quiet rfl (q_pick0 rfl rfl) ?_
      refine DO.done ?_
      refine T.condP rfl (fun hc => ?_) (fun hc => ?_)
      · refine T.seq ?_
        refine T.region ?_
        refine TO.quiet (q_assign rfl) ?_
        refine TO.nil (T.ret ?_)
        refine Res.one (.bool false) Try.results65 rfl ?_
        have hno : xs[k] ≤ a ∨ n ≤ xs[k] := by
          by_cases e : k = 0
          · have := h0 e; omega
          · have h2 := (h1 (by omega)).2
            rw [List.getElem?_eq_getElem (by omega)] at h2
            have h3 := Option.some.inj h2
            have := (h1 (by omega)).1; omega
        exact ⟨congrArg Value.bool (by rw [← hr, rises_no hlt9 hno]), rfl⟩
      refine T.skip (T.region ?_)
      refine TO.quiet (q_move rfl) (TO.quiet (q_addN (a := k) (b := 1) rfl rfl (by omega)) (TO.quiet (q_assign rfl) ?_))
      refine TO.nil ?_
      have hxk : xs[k] < n := by omega
      have hak : a < xs[k] := by
        by_cases e : k = 0
        · have := h0 e; omega
        · have h2 := (h1 (by omega)).2
          rw [List.getElem?_eq_getElem (by omega)] at h2
          have h3 := Option.some.inj h2; omega
      exact ⟨k + 1, by omega, xs[k], rfl, by omega, by rw [← hr, rises_yes hlt9 hak hxk], fun h => absurd h (by omega), fun _ => ⟨by omega, by rw [Nat.add_sub_cancel, List.getElem?_eq_getElem hlt9]⟩, ⟨rfl, rfl, rfl, trivial⟩⟩
    refine DO.guarded rfl rfl rfl (QT.toB (q_move rfl) (decide_eq_false hs28)) ?_
    refine DO.passed rfl rfl rfl ?_
    refine DO.passed rfl rfl rfl ?_
    refine DO.passed rfl rfl rfl ?_
    refine DO.passed rfl rfl rfl ?_
    refine DO.passed rfl rfl rfl ?_
    refine DO.passed rfl rfl rfl ?_
    refine DO.passed rfl rfl rfl ?_
    refine DO.passed rfl rfl rfl ?_
    refine DO.passed rfl rfl rfl ?_
    refine DO.passed rfl rfl rfl ?_
    refine DO.guarded rfl rfl rfl (q_pick0 rfl rfl) ?_
    refine DO.quiet rfl (q_pick0 rfl rfl) ?_
    refine DO.done ?_
    refine T.cond0 rfl ?_
    refine T.skip (T.region ?_)
    refine TO.quiet (q_move rfl) (TO.quiet (q_addN (a := k) (b := 1) rfl rfl (by omega)) (TO.quiet (q_assign rfl) ?_))
    refine TO.nil ?_
    have hxk : xs[k] < n := by omega
    have hak : a < xs[k] := by
      by_cases e : k = 0
      · have := h0 e; omega
      · have h2 := (h1 (by omega)).2
        rw [List.getElem?_eq_getElem (by omega)] at h2
        have h3 := Option.some.inj h2; omega
    exact ⟨k + 1, by omega, xs[k], rfl, by omega, by rw [← hr, rises_yes hlt9 hak hxk], fun h => absurd h (by omega), fun _ => ⟨by omega, by rw [Nat.add_sub_cancel, List.getElem?_eq_getElem hlt9]⟩, ⟨rfl, rfl, rfl, trivial⟩⟩
  have hge9 : ¬ k < xs.length := by omega
  refine T.exit ?_
  refine T.seq (T.region ?_)
  refine TO.quiet (q_assign rfl) ?_
  refine TO.nil (T.ret ?_)
  refine Res.one (.bool true) Try.results65 rfl ?_
  exact ⟨congrArg Value.bool (by rw [← hr, rises_end (by omega)]), rfl⟩
end Go.Proofs.Ytnamoapbienooaa

namespace Go.Lx
open Go.RowKit
set_option linter.unusedVariables false
structure TL where
  idx : List Nat
  low : List Nat
  comp : List Int
  stk : List Nat
  clk : Nat
  cnt : Nat
def TL.ts (s : TL) : TS := ⟨fn s.idx, fn s.low, fz s.comp, s.stk, s.clk, s.cnt⟩
def adjE (nx : List (List Int)) (u v : Nat) : Prop := ∃ r, nx[u]? = some r ∧ (v : Int) ∈ r
def adjN (nx : List (List Int)) (v : Nat) : List Nat := (nx.getD v []).map Int.toNat
structure TLok (n : Nat) (s : TL) : Prop where
  li : s.idx.length = n
  ll : s.low.length = n
  lc : s.comp.length = n
  ck : s.clk + s.idx.count 0 = n
  sk : s.stk.length ≤ s.clk
  ct : s.cnt + s.idx.count 0 ≤ n
structure VDone (n : Nat) (nx : List (List Int)) (gray : List Nat) (s : TL) (v : Nat) (s' : TL) (t : List Nat) : Prop where
  ok : TLok n s'
  inv : TInv n (adjE nx) gray s'.ts
  ext : TExt s.ts s'.ts t
  post : VPost (adjE nx) s.ts s'.ts t v
  ct : s'.cnt + s'.idx.count 0 ≤ s.cnt + s.idx.count 0
  lt : s'.idx.count 0 < s.idx.count 0
structure VRun (n : Nat) (nx : List (List Int)) (gray : List Nat) (s0 : TL) (v k : Nat) (s : TL) (t : List Nat) : Prop where
  ok : TLok n s
  lp : VLoop n (adjE nx) gray s0.ts v (adjN nx v) k s.ts t
  ct : s.cnt + s.idx.count 0 + 1 ≤ s0.cnt + s0.idx.count 0
  lt : s.idx.count 0 < s0.idx.count 0
theorem count_set0 {l : List Nat} {v a : Nat} (h : v < l.length) (h0 : l[v] = 0) (ha : a ≠ 0) : (l.set v a).count 0 + 1 = l.count 0 := by
  rw [List.count_set h, h0]
  have : 0 < l.count 0 := List.count_pos_iff.2 (by rw [← h0]; exact List.getElem_mem h)
  have ha' : (a == 0) = false := by simpa using ha
  simp [ha']; omega
section
variable {n : Nat} {nx : List (List Int)} {gray : List Nat} {s0 s : TL} {v k : Nat} {t : List Nat}
theorem fn_at {l : List Nat} {v : Nat} (h : v < l.length) : fn l v = l[v] := fn_get h
theorem VRun.enter (hok : TLok n s) (h : TInv n (adjE nx) gray s.ts) (hn : v < n) (hv : s.idx[v]'(by rw [hok.li]; exact hn) = 0) (hg : ∀ g ∈ gray, Rch (adjE nx) g v) :
    VRun n nx gray s v 0 { s with idx := s.idx.set v (s.clk + 1), low := s.low.set v (s.clk + 1), stk := s.stk ++ [v], clk := s.clk + 1 } [] := by
  have hvi : v < s.idx.length := by rw [hok.li]; exact hn
  have hc := count_set0 hvi hv (a := s.clk + 1) (by omega)
  have h0 : s.ts.idx v = 0 := (fn_at hvi).trans hv
  have hck := hok.ck
  have hct := hok.ct
  have hsk := hok.sk
  refine ⟨⟨by simp [hok.li], by simp [hok.ll], hok.lc, ?_, ?_, ?_⟩, ?_, ?_, ?_⟩
  · show s.clk + 1 + (s.idx.set v (s.clk + 1)).count 0 = n; omega
  · show (s.stk ++ [v]).length ≤ s.clk + 1; rw [List.length_append]; simpa using hsk
  · show s.cnt + (s.idx.set v (s.clk + 1)).count 0 ≤ n; omega
  · exact VLoop.enter h h0 hn hg (fun x => fn_set hvi x) (fun x => fn_set (by rw [hok.ll]; exact hn) x) (by
      by_cases hcn : s.ts.comp v < 0
      · exact hcn
      · exact absurd h0 (h.cmp v (by omega)).1) (fun _ => rfl)
  · show s.cnt + (s.idx.set v (s.clk + 1)).count 0 + 1 ≤ _; omega
  · show (s.idx.set v (s.clk + 1)).count 0 < _; omega
theorem adjN_get (hk : k < (nx.getD v []).length) {u : Nat} (hu : (nx.getD v [])[k] = (u : Int)) : ∃ h : k < (adjN nx v).length, (adjN nx v)[k] = u :=
  ⟨by simpa [adjN] using hk, by simp only [adjN, List.getElem_map, hu]; rfl⟩
theorem adjE_of (hv : v < nx.length) {u : Nat} (h : (u : Int) ∈ nx[v]) : adjE nx v u := ⟨_, List.getElem?_eq_getElem hv, h⟩
theorem adjN_of {u : Nat} (h : adjE nx v u) : u ∈ adjN nx v := by
  obtain ⟨r, h1, h2⟩ := h
  unfold adjN
  rw [List.getD_eq_getElem?_getD, h1]
  exact List.mem_map.2 ⟨_, h2, by simp⟩
theorem getD_at {nx : List (List Int)} {v : Nat} (hv : v < nx.length) : nx.getD v [] = nx[v] := by simp [hv]
theorem VRun.skip (h : VRun n nx gray s0 v k s t) (h0 : TInv n (adjE nx) gray s0.ts) (hv : v < nx.length) (hk : k < nx[v].length) {u : Nat} (hu : nx[v][k] = (u : Int)) (hi : s.idx.getD u 0 ≠ 0) (hc : ¬ s.comp.getD u (-1) < 0) : VRun n nx gray s0 v (k + 1) s t := by
  have hd := getD_at hv
  obtain ⟨h1, h2⟩ := adjN_get (v := v) (k := k) (nx := nx) (u := u) (by rw [hd]; exact hk) (by simp only [hd]; exact hu)
  exact ⟨h.ok, h.lp.stepSkip h1 h2 hi (show (0 : Int) ≤ s.comp.getD u (-1) by omega) h0, h.ct, h.lt⟩
theorem VRun.back (h : VRun n nx gray s0 v k s t) (h0 : TInv n (adjE nx) gray s0.ts) (hvn : v < n) (hv : v < nx.length) (hk : k < nx[v].length) {u : Nat} (hu : nx[v][k] = (u : Int)) (hi : s.idx.getD u 0 ≠ 0) (hc : s.comp.getD u (-1) < 0) {a : Nat} (ha : a = min (s.low.getD v 0) (s.idx.getD u 0)) :
    VRun n nx gray s0 v (k + 1) { s with low := s.low.set v a } t := by
  have hd := getD_at hv
  obtain ⟨h1, h2⟩ := adjN_get (v := v) (k := k) (nx := nx) (u := u) (by rw [hd]; exact hk) (by simp only [hd]; exact hu)
  refine ⟨⟨h.ok.li, by simp [h.ok.ll], h.ok.lc, h.ok.ck, h.ok.sk, h.ok.ct⟩, ?_, h.ct, h.lt⟩
  exact h.lp.stepBack h1 h2 (adjE_of hv (by rw [← hu]; exact List.getElem_mem hk)) hi hc h0 (fun x => by subst ha; exact fn_set (by rw [h.ok.ll]; exact hvn) x)
theorem VRun.tree (h : VRun n nx gray s0 v k s t) (h0 : TInv n (adjE nx) gray s0.ts) (hvn : v < n) (hv : v < nx.length) (hk : k < nx[v].length) {u : Nat} (hu : nx[v][k] = (u : Int)) (hi : s.idx.getD u 0 = 0) {s' : TL} {t2 : List Nat} (hd' : VDone n nx (gray ++ [v]) s u s' t2) {a : Nat} (ha : a = min (s'.low.getD v 0) (s'.low.getD u 0)) :
    VRun n nx gray s0 v (k + 1) { s' with low := s'.low.set v a } (t ++ t2) := by
  have hd := getD_at hv
  obtain ⟨h1, h2⟩ := adjN_get (v := v) (k := k) (nx := nx) (u := u) (by rw [hd]; exact hk) (by simp only [hd]; exact hu)
  have := h.ct; have := h.lt; have := hd'.ct; have := hd'.lt
  refine ⟨⟨hd'.ok.li, by simp [hd'.ok.ll], hd'.ok.lc, hd'.ok.ck, hd'.ok.sk, hd'.ok.ct⟩, ?_, by show s'.cnt + s'.idx.count 0 + 1 ≤ _; omega, by show s'.idx.count 0 < _; omega⟩
  exact h.lp.stepTree h1 h2 (adjE_of hv (by rw [← hu]; exact List.getElem_mem hk)) hi h0 hd'.inv hd'.ext hd'.post (fun x => by subst ha; exact fn_set (by rw [hd'.ok.ll]; exact hvn) x)
theorem VRun.child (h : VRun n nx gray s0 v k s t) (hg : ∀ g ∈ gray, Rch (adjE nx) g v) (hv : v < nx.length) (hk : k < nx[v].length) {u : Nat} (hu : nx[v][k] = (u : Int)) : ∀ g ∈ gray ++ [v], Rch (adjE nx) g u := fun g hm => by
  have hE : adjE nx v u := adjE_of hv (by rw [← hu]; exact List.getElem_mem hk)
  rcases List.mem_append.1 hm with hm | hm
  · exact (hg g hm).tail hE
  · simp at hm; subst hm; exact .one hE
theorem VRun.leave (h : VRun n nx gray s0 v k s t) (h0 : TInv n (adjE nx) gray s0.ts) (hv : v < nx.length) (hk : ¬ k < nx[v].length) (hne : s.low.getD v 0 ≠ s.idx.getD v 0) : VDone n nx gray s0 v s (v :: t) := by
  have hl : (adjN nx v).length ≤ k := by simp only [adjN, List.length_map, getD_at hv]; omega
  obtain ⟨h1, h2, h3⟩ := h.lp.leave h0 hl (fun u hu => adjN_of hu) hne
  exact ⟨h.ok, h1, h2, h3, by have := h.ct; omega, h.lt⟩
theorem VRun.pop (h : VRun n nx gray s0 v k s t) (h0 : TInv n (adjE nx) gray s0.ts) (hok0 : TLok n s0) (hv : v < nx.length) (hk : ¬ k < nx[v].length) (he : s.low.getD v 0 = s.idx.getD v 0) {comp : List Int} (hl : comp.length = n) (hc : ∀ x, comp.getD x (-1) = if x ∈ v :: t then (s.cnt : Int) else s.comp.getD x (-1)) :
    VDone n nx gray s0 v { s with comp := comp, stk := s0.stk, cnt := s.cnt + 1 } [] := by
  have hl' : (adjN nx v).length ≤ k := by simp only [adjN, List.length_map, getD_at hv]; omega
  obtain ⟨h1, h2, h3⟩ := h.lp.pop h0 hl' (fun u hu => adjN_of hu) he hc
  have := h.ct; have := h.ok.ct; have := hok0.sk; have h8 := hok0.ct
  have h9 : s0.clk ≤ s.clk := h.lp.clk
  refine ⟨⟨h.ok.li, h.ok.ll, hl, h.ok.ck, by show s0.stk.length ≤ s.clk; omega, ?_⟩, h1, h2, h3, by show s.cnt + 1 + s.idx.count 0 ≤ _; omega, h.lt⟩
  show s.cnt + 1 + s.idx.count 0 ≤ n
  omega
theorem rowP.cap {b : Option Addr} {c : Nat} {T : TypeId} {cs : List Value} {w : World} (h : rowP b c T 1 cs w) : cs.length ≤ c := by
  cases b with
  | none => obtain ⟨rfl, rfl⟩ := h; exact Nat.le_refl _
  | some a => obtain ⟨_, _, _, h3, _⟩ := h; omega
theorem gd {l : List Nat} {v : Nat} (h : v < l.length) : l.getD v 0 = l[v] := by simp [h]
theorem gz {l : List Int} {v : Nat} (h : v < l.length) : l.getD v (-1) = l[v] := by simp [h]
theorem tlok_start (n : Nat) : TLok n { idx := List.replicate n 0, low := List.replicate n 0, comp := List.replicate n (-1), stk := [], clk := 0, cnt := 0 } :=
  ⟨by simp, by simp, by simp, by simp, by simp, by simp⟩
theorem tinv_start {nx : List (List Int)} (n : Nat) : TInv n (adjE nx) [] (TL.ts { idx := List.replicate n 0, low := List.replicate n 0, comp := List.replicate n (-1), stk := [], clk := 0, cnt := 0 }) := by
  have h := TInv.start (E := adjE nx) n (fun _ => 0)
  refine TInv.ext (idx := fn (List.replicate n 0)) (low := fn (List.replicate n 0)) (comp := fz (List.replicate n (-1))) h (fun x => ?_) (fun x => ?_)
  · show (List.replicate n 0).getD x 0 = 0
    rw [List.getD_eq_getElem?_getD, List.getElem?_replicate]; split <;> rfl
  · show (List.replicate n (-1 : Int)).getD x (-1) = -1
    rw [List.getD_eq_getElem?_getD, List.getElem?_replicate]; split <;> rfl
theorem vis_snoc {l : List Nat} {k : Nat} (h : ∀ x, x < k → l.getD x 0 ≠ 0) (hk : l.getD k 0 ≠ 0) : ∀ x, x < k + 1 → l.getD x 0 ≠ 0 := fun x hx => by
  by_cases e : x = k
  · subst e; exact hk
  · exact h x (by omega)
theorem vis_step {s s2 : TL} {t : List Nat} {k : Nat} (he : TExt s.ts s2.ts t) (h : ∀ x, x < k → s.idx.getD x 0 ≠ 0) (hk : s2.ts.idx k ≠ 0) : ∀ x, x < k + 1 → s2.idx.getD x 0 ≠ 0 :=
  vis_snoc (fun x hx => by
    have := he.idx x (h x hx)
    show s2.ts.idx x ≠ 0
    rw [this]; exact h x hx) hk
theorem set_take {cp : List Int} {k : Nat} {a : Int} (h : cp.take k = List.replicate k a) (hk : k < cp.length) : (cp.set k a).take (k + 1) = List.replicate (k + 1) a := by
  rw [List.take_succ_eq_append_getElem (by simpa using hk), List.getElem_set_self, List.take_set_of_le (Nat.le_refl _), h, List.replicate_succ']
theorem pop_split {a t1 st2 : List Nat} {v u : Nat} (h : a ++ v :: t1 = st2 ++ [u]) (hne : u ≠ v) : ∃ t1b, t1 = t1b ++ [u] ∧ st2 = a ++ v :: t1b := by
  rcases List.eq_nil_or_concat t1 with rfl | ⟨t1b, x, rfl⟩
  · have := (List.append_inj' h rfl).2
    simp at this; exact absurd this.symm hne
  · have h' : (a ++ v :: t1b) ++ [x] = st2 ++ [u] := by rw [← h]; simp
    have h2 := List.append_inj' h' rfl
    simp at h2
    exact ⟨t1b, by rw [h2.2]; simp, h2.1.symm⟩
theorem pop_last {a t1 st2 : List Nat} {v u : Nat} (h : a ++ v :: t1 = st2 ++ [u]) (hu : u = v) (hv : v ∉ t1) : t1 = [] ∧ st2 = a := by
  rcases List.eq_nil_or_concat t1 with rfl | ⟨t1b, x, rfl⟩
  · exact ⟨rfl, (List.append_inj' h rfl).1.symm⟩
  · have h' : (a ++ v :: t1b) ++ [x] = st2 ++ [u] := by rw [← h]; simp
    have h2 := (List.append_inj' h' rfl).2
    simp at h2 hv
    exact absurd (h2.trans hu).symm hv.2
theorem fz_pop {cp : List Int} {u : Nat} {c : Int} {pop : List Nat} {g : Nat → Int} (hu : u < cp.length) (h : ∀ x, cp.getD x (-1) = if x ∈ pop then c else g x) (x : Nat) : (cp.set u c).getD x (-1) = if x ∈ u :: pop then c else g x := by
  have := fz_set (a := c) hu x
  rw [show (cp.set u c).getD x (-1) = fz (cp.set u c) x from rfl, this]
  by_cases e : x = u
  · simp [e]
  · rw [if_neg e, show fz cp x = cp.getD x (-1) from rfl, h x]
    simp [e]
end
end Go.Lx

namespace Go.Lx
open Go.RowKit
set_option linter.unusedVariables false
def mkM (nx : List (List Int)) (ms : List Nat) (k v : Nat) : Prop := v < nx.length ∧ (ms.getD v 0).testBit k = true
def okRows (nx : List (List Int)) : Prop := ∀ r ∈ nx, ∀ x ∈ r, 0 ≤ x ∧ x < (nx.length : Int)
theorem adjE_lt {nx : List (List Int)} (h : okRows nx) {u v : Nat} (he : adjE nx u v) : u < nx.length ∧ v < nx.length := by
  obtain ⟨r, h1, h2⟩ := he
  obtain ⟨hl, e⟩ := List.getElem?_eq_some_iff.1 h1
  have := h r (by rw [← e]; exact List.getElem_mem hl) _ h2
  exact ⟨hl, by omega⟩
section
variable {nx : List (List Int)} {ms : List Nat} {m cnt : Nat} {cn : List Nat}
abbrev CompN (nx : List (List Int)) (cn : List Nat) (cnt : Nat) : Prop := CompOk nx.length (adjE nx) (fun v => ((fn cn v : Nat) : Int)) cnt
def seen (nx : List (List Int)) (k j v u : Nat) : Prop := (v < k ∧ adjE nx v u) ∨ (v = k ∧ (u : Int) ∈ (nx.getD k []).take j)
structure CyP (nx : List (List Int)) (cn : List Nat) (cnt k j : Nat) (cy : List Bool) : Prop where
  l : cy.length = cnt
  h : ∀ c, cy.getD c false = true ↔ ∃ v u, seen nx k j v u ∧ fn cn v = c ∧ fn cn u = c
theorem CyP.start : CyP nx cn cnt 0 0 (List.replicate cnt false) := by
  refine ⟨by simp, fun c => ⟨fun h => ?_, ?_⟩⟩
  · rw [List.getD_eq_getElem?_getD, List.getElem?_replicate] at h
    split at h <;> simp at h
  · rintro ⟨v, u, h, _⟩
    rcases h with h | h
    · omega
    · simp at h
theorem seen_row {k v u : Nat} (hk : k < nx.length) : seen nx k nx[k].length v u ↔ seen nx (k + 1) 0 v u := by
  unfold seen
  have hd : nx.getD k [] = nx[k] := getD_at hk
  rw [hd, List.take_of_length_le (Nat.le_refl _)]
  constructor
  · rintro (h | ⟨rfl, h⟩)
    · exact .inl ⟨by omega, h.2⟩
    · exact .inl ⟨by omega, adjE_of hk h⟩
  · rintro (h | h)
    · by_cases e : v = k
      · subst e
        obtain ⟨r, h1, h2⟩ := h.2
        rw [List.getElem?_eq_getElem hk] at h1
        cases h1
        exact .inr ⟨rfl, h2⟩
      · exact .inl ⟨by omega, h.2⟩
    · simp at h
theorem seen_snoc {k j v u : Nat} (hk : k < nx.length) (hj : j < nx[k].length) {x : Nat} (hx : nx[k][j] = (x : Int)) : seen nx k (j + 1) v u ↔ seen nx k j v u ∨ (v = k ∧ u = x) := by
  unfold seen
  have hd : nx.getD k [] = nx[k] := getD_at hk
  rw [hd, List.take_succ_eq_append_getElem hj, List.mem_append, List.mem_singleton, hx]
  constructor
  · rintro (h | ⟨h1, h2 | h2⟩)
    · exact .inl (.inl h)
    · exact .inl (.inr ⟨h1, h2⟩)
    · exact .inr ⟨h1, by omega⟩
  · rintro ((h | h) | h)
    · exact .inl h
    · exact .inr ⟨h.1, .inl h.2⟩
    · exact .inr ⟨h.1, .inr (by omega)⟩
theorem CyP.row {cy : List Bool} {k j : Nat} (h : CyP nx cn cnt k j cy) (hk : k < nx.length) (hj : ¬ j < nx[k].length) (hj2 : j ≤ nx[k].length) : CyP nx cn cnt (k + 1) 0 cy := by
  have : j = nx[k].length := by omega
  subst this
  exact ⟨h.l, fun c => by rw [h.h]; simp only [seen_row hk]⟩
theorem CyP.step {cy : List Bool} {k j x : Nat} (h : CyP nx cn cnt k j cy) (hk : k < nx.length) (hj : j < nx[k].length) (hx : nx[k][j] = (x : Int)) (hc : fn cn k < cnt) {b : Bool} (hb : b = true ↔ cy.getD (fn cn k) false = true ∨ fn cn x = fn cn k) : CyP nx cn cnt k (j + 1) (cy.set (fn cn k) b) := by
  refine ⟨by simp [h.l], fun c => ?_⟩
  have hs := fb_set (a := b) (l := cy) (v := fn cn k) (by rw [h.l]; exact hc) c
  rw [show (cy.set (fn cn k) b).getD c false = fb (cy.set (fn cn k) b) c from rfl, hs]
  simp only [seen_snoc hk hj hx]
  by_cases e : c = fn cn k
  · subst e
    rw [if_pos rfl, hb, h.h]
    constructor
    · rintro (⟨v, u, h1, h2, h3⟩ | h1)
      · exact ⟨v, u, .inl h1, h2, h3⟩
      · exact ⟨k, x, .inr ⟨rfl, rfl⟩, rfl, h1⟩
    · rintro ⟨v, u, h1 | ⟨rfl, rfl⟩, h2, h3⟩
      · exact .inl ⟨v, u, h1, h2, h3⟩
      · exact .inr h3
  · rw [if_neg e, show fb cy c = cy.getD c false from rfl, h.h]
    constructor
    · rintro ⟨v, u, h1, h2, h3⟩
      exact ⟨v, u, .inl h1, h2, h3⟩
    · rintro ⟨v, u, h1 | ⟨rfl, rfl⟩, h2, h3⟩
      · exact ⟨v, u, h1, h2, h3⟩
      · exact absurd h2.symm e
structure HaP (nx : List (List Int)) (ms cn : List Nat) (m cnt k : Nat) (ha : List Nat) : Prop where
  l : ha.length = cnt
  b : ∀ c, ha.getD c 0 < 2 ^ m
  h : ∀ c i, (ha.getD c 0).testBit i = true ↔ ∃ v, v < k ∧ fn cn v = c ∧ (ms.getD v 0).testBit i = true
theorem HaP.start : HaP nx ms cn m cnt 0 (List.replicate cnt 0) := by
  have h0 : ∀ c, (List.replicate cnt 0).getD c 0 = 0 := fun c => by
    rw [List.getD_eq_getElem?_getD, List.getElem?_replicate]; split <;> rfl
  refine ⟨by simp, fun c => by rw [h0]; exact Nat.two_pow_pos m, fun c i => ⟨fun h => ?_, ?_⟩⟩
  · rw [h0] at h; simp at h
  · rintro ⟨v, h, _⟩; omega
theorem HaP.step {ha : List Nat} {k : Nat} (h : HaP nx ms cn m cnt k ha) (hc : fn cn k < cnt) (hm : ms.getD k 0 < 2 ^ m) {a : Nat} (hab : a = ha.getD (fn cn k) 0 ||| ms.getD k 0) : HaP nx ms cn m cnt (k + 1) (ha.set (fn cn k) a) := by
  have hs := fun c => fn_set (a := a) (l := ha) (v := fn cn k) (by rw [h.l]; exact hc) c
  have hs' : ∀ c, (ha.set (fn cn k) a).getD c 0 = if c = fn cn k then a else ha.getD c 0 := hs
  refine ⟨by simp [h.l], fun c => ?_, fun c i => ?_⟩
  · rw [hs']; split
    · subst hab; exact Nat.or_lt_two_pow (h.b _) hm
    · exact h.b c
  · rw [hs']
    by_cases e : c = fn cn k
    · subst e
      rw [if_pos rfl, hab, Nat.testBit_or, Bool.or_eq_true, h.h]
      constructor
      · rintro (⟨v, h1, h2, h3⟩ | h1)
        · exact ⟨v, by omega, h2, h3⟩
        · exact ⟨k, by omega, rfl, h1⟩
      · rintro ⟨v, h1, h2, h3⟩
        by_cases e : v = k
        · subst e; exact .inr h3
        · exact .inl ⟨v, by omega, h2, h3⟩
    · rw [if_neg e, h.h]
      constructor
      · rintro ⟨v, h1, h2, h3⟩; exact ⟨v, by omega, h2, h3⟩
      · rintro ⟨v, h1, h2, h3⟩
        by_cases e' : v = k
        · subst e'; exact absurd h2.symm e
        · exact ⟨v, by omega, h2, h3⟩
theorem full_iff {a m : Nat} (h : a < 2 ^ m) : a = 2 ^ m - 1 ↔ ∀ i, i < m → a.testBit i = true := by
  constructor
  · rintro rfl i hi; rw [Nat.testBit_two_pow_sub_one]; simpa using hi
  · intro hb
    apply Nat.eq_of_testBit_eq
    intro i
    rw [Nat.testBit_two_pow_sub_one]
    by_cases hi : i < m
    · rw [hb i hi]; simp [hi]
    · rw [Nat.testBit_lt_two_pow (Nat.lt_of_lt_of_le h (Nat.pow_le_pow_right (by omega) (by omega)))]; simp [hi]
theorem core_iff (hC : CompN nx cn cnt) (hok : okRows nx) {cy : List Bool} {ha : List Nat} (hy : CyP nx cn cnt nx.length 0 cy) (hh : HaP nx ms cn m cnt nx.length ha) {v c : Nat} (hv : v < nx.length) (hc : fn cn v = c) :
    (cy.getD c false = true ∧ ha.getD c 0 = 2 ^ m - 1) ↔ Core (adjE nx) m (mkM nx ms) v := by
  rw [core_comp hC (fun u v h => adjE_lt hok h) (fun k v h => h.1) hv, hy.h, full_iff (hh.b c)]
  constructor
  · rintro ⟨⟨a, b, h1, h2, h3⟩, h4⟩
    refine ⟨⟨a, b, ?_, by show ((fn cn a : Nat) : Int) = fn cn v; omega, by show ((fn cn b : Nat) : Int) = fn cn v; omega⟩, fun k hk => ?_⟩
    · rcases h1 with h1 | ⟨rfl, h1⟩
      · exact h1.2
      · simp at h1
    · obtain ⟨u, h5, h6, h7⟩ := (hh.h c k).1 (h4 k hk)
      exact ⟨u, ⟨h5, h7⟩, by show ((fn cn u : Nat) : Int) = fn cn v; omega⟩
  · rintro ⟨⟨a, b, h1, h2, h3⟩, h4⟩
    refine ⟨⟨a, b, .inl ⟨(adjE_lt hok h1).1, h1⟩, by have : ((fn cn a : Nat) : Int) = fn cn v := h2; omega, by have : ((fn cn b : Nat) : Int) = fn cn v := h3; omega⟩, fun k hk => ?_⟩
    obtain ⟨u, h5, h6⟩ := h4 k hk
    exact (hh.h c k).2 ⟨u, h5.1, by have : ((fn cn u : Nat) : Int) = fn cn v := h6; omega, h5.2⟩
structure OrP (nx : List (List Int)) (cn : List Nat) (cnt k : Nat) (os : List (List Int)) : Prop where
  l : os.length = cnt
  n : ∀ c, (os.getD c []).length ≤ k
  h : ∀ c x, c < cnt → (x ∈ os.getD c [] ↔ ∃ v : Nat, x = (v : Int) ∧ v < k ∧ fn cn v = c)
theorem OrP.start : OrP nx cn cnt 0 (List.replicate cnt []) := by
  have h0 : ∀ c, (List.replicate cnt ([] : List Int)).getD c [] = [] := fun c => by
    rw [List.getD_eq_getElem?_getD, List.getElem?_replicate]; split <;> rfl
  refine ⟨by simp, fun c => by rw [h0]; exact Nat.le_refl _, fun c x hc => ?_⟩
  rw [h0]
  constructor
  · intro h; cases h
  · rintro ⟨v, _, h, _⟩; omega
theorem OrP.step {os : List (List Int)} {k : Nat} (h : OrP nx cn cnt k os) (hc : fn cn k < cnt) : OrP nx cn cnt (k + 1) (os.set (fn cn k) (os.getD (fn cn k) [] ++ [(k : Int)])) := by
  have hs : ∀ c, (os.set (fn cn k) (os.getD (fn cn k) [] ++ [(k : Int)])).getD c [] = if c = fn cn k then os.getD (fn cn k) [] ++ [(k : Int)] else os.getD c [] := fun c => by
    rw [List.getD_eq_getElem?_getD, List.getElem?_set]
    by_cases e : fn cn k = c
    · subst e; rw [if_pos rfl, if_pos (by rw [h.l]; exact hc), if_pos rfl]; rfl
    · rw [if_neg e, if_neg (fun h => e h.symm)]; simp
  refine ⟨by simp [h.l], fun c => ?_, fun c x hcc => ?_⟩
  · rw [hs]; split
    · have := h.n (fn cn k); simp; exact this
    · have := h.n c; omega
  · rw [hs]
    by_cases e : c = fn cn k
    · subst e
      rw [if_pos rfl, List.mem_append, List.mem_singleton, h.h _ _ hc]
      constructor
      · rintro (⟨v, h1, h2, h3⟩ | rfl)
        · exact ⟨v, h1, by omega, h3⟩
        · exact ⟨k, rfl, by omega, rfl⟩
      · rintro ⟨v, h1, h2, h3⟩
        by_cases e : v = k
        · subst e; exact .inr h1
        · exact .inl ⟨v, h1, by omega, h3⟩
    · rw [if_neg e, h.h c x hcc]
      constructor
      · rintro ⟨v, h1, h2, h3⟩; exact ⟨v, h1, by omega, h3⟩
      · rintro ⟨v, h1, h2, h3⟩
        by_cases e' : v = k
        · subst e'; exact absurd h3.symm e
        · exact ⟨v, h1, by omega, h3⟩
def Cor (nx : List (List Int)) (ms : List Nat) (m v : Nat) : Prop := Core (adjE nx) m (mkM nx ms) v
def Liv (nx : List (List Int)) (ms : List Nat) (m v : Nat) : Prop := LiveG (adjE nx) m (mkM nx ms) v
theorem Liv.edge {u v : Nat} (h : Liv nx ms m u) (he : adjE nx v u) : Liv nx ms m v := LiveG.back h (.one he)
theorem Liv.same (hC : CompN nx cn cnt) {u v : Nat} (h : Liv nx ms m u) (hv : v < nx.length) (hu : u < nx.length) (e : fn cn v = fn cn u) : Liv nx ms m v := LiveG.back h (hC.cls v u hv hu (by show ((fn cn v : Nat) : Int) = fn cn u; omega))
theorem Cor.live {v : Nat} (h : Cor nx ms m v) : Liv nx ms m v := ⟨v, .refl _, h⟩
structure LvP (nx : List (List Int)) (ms : List Nat) (m : Nat) (cn : List Nat) (cnt c : Nat) (gs ls cs : List Bool) : Prop where
  lg : gs.length = cnt
  ll : ls.length = nx.length
  lc : cs.length = nx.length
  g : ∀ v, v < nx.length → fn cn v < c → (gs.getD (fn cn v) false = true ↔ Liv nx ms m v)
  li : ∀ v, v < nx.length → fn cn v < c → (ls.getD v false = true ↔ Liv nx ms m v)
  co : ∀ v, v < nx.length → fn cn v < c → (cs.getD v false = true ↔ Cor nx ms m v)
structure LvC (nx : List (List Int)) (ms : List Nat) (m : Nat) (cn : List Nat) (cnt c : Nat) (row : List Int) (j : Nat) (gs ls cs : List Bool) : Prop where
  lg : gs.length = cnt
  ll : ls.length = nx.length
  lc : cs.length = nx.length
  g : ∀ v, v < nx.length → fn cn v < c → (gs.getD (fn cn v) false = true ↔ Liv nx ms m v)
  li : ∀ v, v < nx.length → fn cn v < c → (ls.getD v false = true ↔ Liv nx ms m v)
  co : ∀ v, v < nx.length → (fn cn v < c ∨ (v : Int) ∈ row.take j) → (cs.getD v false = true ↔ Cor nx ms m v)
  b0 : ∀ v, v < nx.length → fn cn v = c → (gs.getD c false = true ↔ Cor nx ms m v)
theorem getB_set {l : List Bool} {v : Nat} {a : Bool} (h : v < l.length) (x : Nat) : (l.set v a).getD x false = if x = v then a else l.getD x false := fb_set h x
theorem LvP.begin {c : Nat} {gs ls cs : List Bool} (h : LvP nx ms m cn cnt c gs ls cs) (hc : c < cnt) {row : List Int} {b : Bool} (hb : ∀ v, v < nx.length → fn cn v = c → (b = true ↔ Cor nx ms m v)) : LvC nx ms m cn cnt c row 0 (gs.set c b) ls cs := by
  have hs := fun x => getB_set (a := b) (l := gs) (v := c) (by rw [h.lg]; exact hc) x
  refine ⟨by simp [h.lg], h.ll, h.lc, fun v hv hlt => ?_, h.li, fun v hv hor => ?_, fun v hv e => ?_⟩
  · rw [hs, if_neg (by omega)]; exact h.g v hv hlt
  · rcases hor with hor | hor
    · exact h.co v hv hor
    · simp at hor
  · rw [hs, if_pos rfl]; exact hb v hv e
theorem LvC.coreStep {c j : Nat} {gs ls cs : List Bool} {row : List Int} (h : LvC nx ms m cn cnt c row j gs ls cs) (hj : j < row.length) {x : Nat} (hx : row[j] = (x : Int)) (hxl : x < nx.length) (hxc : fn cn x = c) {b : Bool} (hb : b = gs.getD c false) : LvC nx ms m cn cnt c row (j + 1) gs ls (cs.set x b) := by
  have hs := fun y => getB_set (a := b) (l := cs) (v := x) (by rw [h.lc]; exact hxl) y
  refine ⟨h.lg, h.ll, by simp [h.lc], h.g, h.li, fun v hv hor => ?_, h.b0⟩
  rw [hs]
  by_cases e : v = x
  · subst e; rw [if_pos rfl, hb]; exact h.b0 v hxl hxc
  · rw [if_neg e]
    refine h.co v hv ?_
    rcases hor with hor | hor
    · exact .inl hor
    · rw [List.take_succ_eq_append_getElem hj, List.mem_append, List.mem_singleton, hx] at hor
      rcases hor with hor | hor
      · exact .inr hor
      · exact absurd (by omega) e
structure LvD (nx : List (List Int)) (ms : List Nat) (m : Nat) (cn : List Nat) (cnt c : Nat) (row : List Int) (j i : Nat) (gs ls cs : List Bool) : Prop where
  lg : gs.length = cnt
  ll : ls.length = nx.length
  lc : cs.length = nx.length
  g : ∀ v, v < nx.length → fn cn v < c → (gs.getD (fn cn v) false = true ↔ Liv nx ms m v)
  li : ∀ v, v < nx.length → fn cn v < c → (ls.getD v false = true ↔ Liv nx ms m v)
  co : ∀ v, v < nx.length → fn cn v ≤ c → (cs.getD v false = true ↔ Cor nx ms m v)
  b0 : ∀ v, v < nx.length → fn cn v = c → Cor nx ms m v → gs.getD c false = true
  sd : gs.getD c false = true → ∀ v, v < nx.length → fn cn v = c → Liv nx ms m v
  pr : ∀ v u : Nat, (((v : Int) ∈ row.take j ∧ adjE nx v u) ∨ (row[j]? = some (v : Int) ∧ (u : Int) ∈ (nx.getD v []).take i)) → fn cn u < c → Liv nx ms m u → gs.getD c false = true
theorem LvC.toD {c j : Nat} {gs ls cs : List Bool} {row : List Int} (h : LvC nx ms m cn cnt c row j gs ls cs) (hj : ¬ j < row.length) (hrow : ∀ v : Nat, v < nx.length → fn cn v = c → (v : Int) ∈ row) : LvD nx ms m cn cnt c row 0 0 gs ls cs := by
  refine ⟨h.lg, h.ll, h.lc, h.g, h.li, fun v hv hle => ?_, fun v hv e hc => (h.b0 v hv e).2 hc, fun hg v hv e => Cor.live ((h.b0 v hv e).1 hg), fun v u hor => ?_⟩
  · refine h.co v hv ?_
    by_cases e : fn cn v = c
    · right; rw [List.take_of_length_le (by omega)]; exact hrow v hv e
    · left; omega
  · rcases hor with hor | hor
    · simp at hor
    · simp at hor
theorem LvD.step {c j i : Nat} {gs ls cs : List Bool} {row : List Int} (hC : CompN nx cn cnt) (hok : okRows nx) (h : LvD nx ms m cn cnt c row j i gs ls cs) (hc : c < cnt) (hj : j < row.length) {x u : Nat} (hx : row[j] = (x : Int)) (hxl : x < nx.length) (hxc : fn cn x = c) (hi : i < nx[x].length) (hu : nx[x][i] = (u : Int)) {b : Bool} (hb : b = true ↔ gs.getD c false = true ∨ gs.getD (fn cn u) false = true) :
    LvD nx ms m cn cnt c row j (i + 1) (gs.set c b) ls cs := by
  have hs := fun y => getB_set (a := b) (l := gs) (v := c) (by rw [h.lg]; exact hc) y
  have hE : adjE nx x u := adjE_of hxl (by rw [← hu]; exact List.getElem_mem hi)
  have hul := (adjE_lt hok hE).2
  have hle : fn cn u ≤ c := by
    have := hC.clo x u hxl hE
    have : ((fn cn u : Nat) : Int) ≤ fn cn x := this
    omega
  refine ⟨by simp [h.lg], h.ll, h.lc, fun v hv hlt => ?_, h.li, h.co, fun v hv e hcv => ?_, fun hg v hv e => ?_, fun v w hor hlt hL => ?_⟩
  · rw [hs, if_neg (by omega)]; exact h.g v hv hlt
  · rw [hs, if_pos rfl, hb]; exact .inl (h.b0 v hv e hcv)
  · rw [hs, if_pos rfl, hb] at hg
    rcases hg with hg | hg
    · exact h.sd hg v hv e
    · by_cases e2 : fn cn u = c
      · rw [e2] at hg; exact h.sd hg v hv e
      · have hLu := (h.g u hul (by omega)).1 hg
        exact Liv.same hC (hLu.edge hE) hv hxl (by omega)
  · rw [hs, if_pos rfl, hb]
    rcases hor with hor | ⟨h1, h2⟩
    · exact .inl (h.pr v w (.inl hor) hlt hL)
    · rw [List.getElem?_eq_getElem hj, hx] at h1
      have hvx : v = x := by have := Option.some.inj h1; omega
      subst hvx
      rw [getD_at hxl, List.take_succ_eq_append_getElem hi, List.mem_append, List.mem_singleton, hu] at h2
      rcases h2 with h2 | h2
      · exact .inl (h.pr v w (.inr ⟨by rw [List.getElem?_eq_getElem hj, hx], by rw [getD_at hxl]; exact h2⟩) hlt hL)
      · have : w = u := by omega
        subst this
        exact .inr ((h.g w hul hlt).2 hL)
theorem LvD.next {c j i : Nat} {gs ls cs : List Bool} {row : List Int} (h : LvD nx ms m cn cnt c row j i gs ls cs) (hj : j < row.length) {x : Nat} (hx : row[j] = (x : Int)) (hxl : x < nx.length) (hi : ¬ i < nx[x].length) : LvD nx ms m cn cnt c row (j + 1) 0 gs ls cs := by
  refine { h with pr := fun v u hor hlt hL => ?_ }
  rcases hor with ⟨h1, h2⟩ | ⟨_, h2⟩
  · rw [List.take_succ_eq_append_getElem hj, List.mem_append, List.mem_singleton, hx] at h1
    rcases h1 with h1 | h1
    · exact h.pr v u (.inl ⟨h1, h2⟩) hlt hL
    · have : v = x := by omega
      subst this
      refine h.pr v u (.inr ⟨by rw [List.getElem?_eq_getElem hj, hx], ?_⟩) hlt hL
      rw [getD_at hxl, List.take_of_length_le (by omega)]
      obtain ⟨r, h3, h4⟩ := h2
      rw [List.getElem?_eq_getElem hxl] at h3; cases h3; exact h4
  · simp at h2
theorem leaves (hC : CompN nx cn cnt) (hok : okRows nx) {v w : Nat} (h : Rch (adjE nx) v w) (hv : v < nx.length) : fn cn w = fn cn v ∨ ∃ a b, fn cn a = fn cn v ∧ a < nx.length ∧ adjE nx a b ∧ fn cn b < fn cn v ∧ Rch (adjE nx) b w := by
  induction h with
  | refl => exact .inl rfl
  | @step a b w e hr ih =>
    have hb := (adjE_lt hok e).2
    have hle : fn cn b ≤ fn cn a := by
      have : ((fn cn b : Nat) : Int) ≤ fn cn a := hC.clo a b hv e
      omega
    by_cases e2 : fn cn b = fn cn a
    · rcases ih hb with h1 | ⟨p, q, h1, h2, h3, h4, h5⟩
      · exact .inl (by omega)
      · exact .inr ⟨p, q, by omega, h2, h3, by omega, h5⟩
    · exact .inr ⟨a, b, rfl, hv, e, by omega, hr⟩
theorem LvD.flag {c j i : Nat} {gs ls cs : List Bool} {row : List Int} (hC : CompN nx cn cnt) (hok : okRows nx) (h : LvD nx ms m cn cnt c row j i gs ls cs) (hj : ¬ j < row.length) (hrow : ∀ v : Nat, v < nx.length → fn cn v = c → (v : Int) ∈ row) {v : Nat} (hv : v < nx.length) (e : fn cn v = c) : gs.getD c false = true ↔ Liv nx ms m v := by
  refine ⟨fun hg => h.sd hg v hv e, ?_⟩
  rintro ⟨w, h1, h2⟩
  have hw : w < nx.length := (CompOk.rch hC (fun u v h => adjE_lt hok h) hv h1).2
  rcases leaves hC hok h1 hv with h3 | ⟨a, b, h3, h4, h5, h6, h7⟩
  · exact h.b0 w hw (by omega) h2
  · refine h.pr a b (.inl ⟨?_, h5⟩) (by omega) ⟨w, h7, h2⟩
    rw [List.take_of_length_le (by omega)]
    exact hrow a h4 (by omega)
structure LvE (nx : List (List Int)) (ms : List Nat) (m : Nat) (cn : List Nat) (cnt c : Nat) (row : List Int) (j : Nat) (gs ls cs : List Bool) : Prop where
  lg : gs.length = cnt
  ll : ls.length = nx.length
  lc : cs.length = nx.length
  g : ∀ v, v < nx.length → fn cn v ≤ c → (gs.getD (fn cn v) false = true ↔ Liv nx ms m v)
  li : ∀ v, v < nx.length → (fn cn v < c ∨ (v : Int) ∈ row.take j) → (ls.getD v false = true ↔ Liv nx ms m v)
  co : ∀ v, v < nx.length → fn cn v ≤ c → (cs.getD v false = true ↔ Cor nx ms m v)
theorem LvD.toE {c j i : Nat} {gs ls cs : List Bool} {row : List Int} (hC : CompN nx cn cnt) (hok : okRows nx) (h : LvD nx ms m cn cnt c row j i gs ls cs) (hj : ¬ j < row.length) (hrow : ∀ v : Nat, v < nx.length → fn cn v = c → (v : Int) ∈ row) : LvE nx ms m cn cnt c row 0 gs ls cs := by
  refine ⟨h.lg, h.ll, h.lc, fun v hv hle => ?_, fun v hv hor => ?_, h.co⟩
  · by_cases e : fn cn v = c
    · rw [e]; exact h.flag hC hok hj hrow hv e
    · exact h.g v hv (by omega)
  · rcases hor with hor | hor
    · exact h.li v hv hor
    · simp at hor
theorem LvE.step {c j : Nat} {gs ls cs : List Bool} {row : List Int} (h : LvE nx ms m cn cnt c row j gs ls cs) (hj : j < row.length) {x : Nat} (hx : row[j] = (x : Int)) (hxl : x < nx.length) (hxc : fn cn x = c) {b : Bool} (hb : b = gs.getD c false) : LvE nx ms m cn cnt c row (j + 1) gs (ls.set x b) cs := by
  have hs := fun y => getB_set (a := b) (l := ls) (v := x) (by rw [h.ll]; exact hxl) y
  refine ⟨h.lg, by simp [h.ll], h.lc, h.g, fun v hv hor => ?_, h.co⟩
  rw [hs]
  by_cases e : v = x
  · subst e; rw [if_pos rfl, hb, ← hxc]; exact h.g v hxl (by omega)
  · rw [if_neg e]
    refine h.li v hv ?_
    rcases hor with hor | hor
    · exact .inl hor
    · rw [List.take_succ_eq_append_getElem hj, List.mem_append, List.mem_singleton, hx] at hor
      rcases hor with hor | hor
      · exact .inr hor
      · exact absurd (by omega) e
theorem LvE.done {c j : Nat} {gs ls cs : List Bool} {row : List Int} (h : LvE nx ms m cn cnt c row j gs ls cs) (hj : ¬ j < row.length) (hrow : ∀ v : Nat, v < nx.length → fn cn v = c → (v : Int) ∈ row) : LvP nx ms m cn cnt (c + 1) gs ls cs := by
  refine ⟨h.lg, h.ll, h.lc, fun v hv hlt => h.g v hv (by omega), fun v hv hlt => ?_, fun v hv hlt => h.co v hv (by omega)⟩
  refine h.li v hv ?_
  by_cases e : fn cn v = c
  · right; rw [List.take_of_length_le (by omega)]; exact hrow v hv e
  · left; omega
theorem LvP.start {gs ls cs : List Bool} (h1 : gs.length = cnt) (h2 : ls.length = nx.length) (h3 : cs.length = nx.length) : LvP nx ms m cn cnt 0 gs ls cs :=
  ⟨h1, h2, h3, fun v _ h => by omega, fun v _ h => by omega, fun v _ h => by omega⟩
theorem ints_nats {cp : List Int} (h : ∀ v, v < cp.length → 0 ≤ fz cp v) : ints cp = nats (cp.map Int.toNat) := by
  apply List.ext_getElem
  · simp
  · intro i h1 h2
    have hi : i < cp.length := by simpa using h1
    have := h i hi
    rw [fz_get hi] at this
    simp [Int.toNat_of_nonneg this]
theorem comp_nats {cp : List Int} {cnt : Nat} (hl : cp.length = nx.length) (h : CompOk nx.length (adjE nx) (fz cp) cnt) (hok : okRows nx) : CompN nx (cp.map Int.toNat) cnt := by
  have key : ∀ v, v < nx.length → ((fn (cp.map Int.toNat) v : Nat) : Int) = fz cp v := fun v hv => by
    have h0 := (h.pos v hv).1
    rw [fn_get (by rw [List.length_map, hl]; exact hv), List.getElem_map]
    rw [fz_get (by rw [hl]; exact hv)] at h0 ⊢
    exact Int.toNat_of_nonneg h0
  refine ⟨fun v hv => by rw [key v hv]; exact h.pos v hv, fun u v hu he => ?_, fun u v hu hv e => ?_⟩
  · have h1 := adjE_lt hok he
    rw [key u h1.1, key v h1.2]; exact h.clo u v hu he
  · change ((fn (cp.map Int.toNat) u : Nat) : Int) = ((fn (cp.map Int.toNat) v : Nat) : Int) at e
    rw [key u hu, key v hv] at e; exact h.cls u v hu hv e
theorem OrP.at {qs : List Rec} (h : OrP nx cn cnt nx.length (nums qs)) {c j : Nat} (hc : c < qs.length) (hj : j < qs[c].xs.length) : ∃ x : Nat, qs[c].xs[j] = (x : Int) ∧ x < nx.length ∧ fn cn x = c := by
  have hl := h.l
  have hq : (nums qs).getD c [] = qs[c].xs := by simp [hc]
  have := (h.h c qs[c].xs[j] (by rw [← hl]; simpa using hc)).1 (by rw [hq]; exact List.getElem_mem hj)
  exact this
theorem OrP.all {qs : List Rec} (h : OrP nx cn cnt nx.length (nums qs)) {c : Nat} (hc : c < qs.length) : ∀ v : Nat, v < nx.length → fn cn v = c → (v : Int) ∈ qs[c].xs := fun v hv e => by
  have hl := h.l
  have hq : (nums qs).getD c [] = qs[c].xs := by simp [hc]
  rw [← hq]
  exact (h.h c v (by rw [← hl]; simpa using hc)).2 ⟨v, rfl, hv, e⟩
theorem OrP.ql {qs : List Rec} {k : Nat} (h : OrP nx cn cnt k (nums qs)) : qs.length = cnt := by simpa using h.l
theorem OrP.rl {qs : List Rec} {k : Nat} (h : OrP nx cn cnt k (nums qs)) {c : Nat} (hc : c < qs.length) : qs[c].xs.length ≤ k := by
  have := h.n c
  rwa [show (nums qs).getD c [] = qs[c].xs by simp [hc]] at this
theorem OrP.push {qs : List Rec} {k : Nat} (h : OrP nx cn cnt k (nums qs)) (hk : k < cn.length) (hc : cn[k] < cnt) (b : Option Addr) (c : Nat) : OrP nx cn cnt (k + 1) (nums (qs.set cn[k] ⟨b, c, (qs[cn[k]]'(by rw [h.ql]; exact hc)).xs ++ [(k : Int)]⟩)) := by
  have hf : fn cn k = cn[k] := fn_get hk
  have := h.step (by rw [hf]; exact hc)
  rw [hf] at this
  rw [nums_set]
  have hq : (nums qs).getD cn[k] [] = (qs[cn[k]]'(by rw [h.ql]; exact hc)).xs := by simp [h.ql, hc]
  rwa [hq] at this
theorem gb {l : List Bool} {v : Nat} (h : v < l.length) : l.getD v false = l[v] := by simp [h]
theorem lt64 {x m : Nat} (h : x < 2 ^ m) (hm : m ≤ 8) : x < 256 := Nat.lt_of_lt_of_le h (Nat.pow_le_pow_right (n := 2) (by omega) hm)
end
end Go.Lx

namespace Go.Lx
open Go.RowKit
set_option linter.unusedVariables false
abbrev KI : Int → Value := fun a => .int .i64 a
abbrev VU : Nat → Value := fun x => .int .u64 (x : Int)
theorem sbI (a : Int) : Instr.sameBits 10000 (KI a) (KI a) = true := by simp [Instr.sameBits]
def mkN : List (List Int) → Int → Nat
  | [], _ => 0
  | S :: r, s => (if s ∈ S then 1 else 0) + 2 * mkN r s
theorem mkN_test : ∀ (A : List (List Int)) (s : Int) (i : Nat), (mkN A s).testBit i = true ↔ ∃ S, A[i]? = some S ∧ s ∈ S
  | [], s, i => by simp [mkN]
  | S :: r, s, 0 => by
    rw [Nat.testBit_zero]
    simp only [mkN, decide_eq_true_eq, List.getElem?_cons_zero, Option.some.injEq, exists_eq_left']
    split <;> rename_i h
    · simp [h]
    · simp [h]
  | S :: r, s, i + 1 => by
    have ih := mkN_test r s i
    rw [Nat.testBit_succ]
    simp only [mkN, List.getElem?_cons_succ]
    rw [← ih]
    have : ((if s ∈ S then 1 else 0) + 2 * mkN r s) / 2 = mkN r s := by split <;> omega
    rw [this]
theorem mkN_lt : ∀ (A : List (List Int)) (s : Int), mkN A s < 2 ^ A.length
  | [], _ => by simp [mkN]
  | S :: r, s => by
    have := mkN_lt r s
    simp only [mkN, List.length_cons, Nat.pow_succ]
    split <;> omega
theorem nat_ext {a b : Nat} (h : ∀ i, a.testBit i = true ↔ b.testBit i = true) : a = b := by
  apply Nat.eq_of_testBit_eq
  intro i
  cases h1 : a.testBit i <;> cases h2 : b.testBit i
  · rfl
  · exact absurd ((h i).2 h2) (by rw [h1]; decide)
  · exact absurd ((h i).1 h1) (by rw [h2]; decide)
  · rfl
theorem get_snoc {α : Type} {A : List α} {B : α} {i : Nat} : (A ++ [B])[i]? = if i < A.length then A[i]? else if i = A.length then some B else none := by
  by_cases h : i < A.length
  · rw [if_pos h, List.getElem?_append_left h]
  · rw [if_neg h, List.getElem?_append_right (by omega)]
    by_cases e : i = A.length
    · subst e; simp
    · rw [if_neg e]
      have : i - A.length ≠ 0 := by omega
      rw [List.getElem?_singleton, if_neg (by omega)]
theorem mkN_or {A : List (List Int)} {B : List Int} {a : Int} : mkN (A ++ [B]) a ||| 1 * 2 ^ A.length = mkN (A ++ [B ++ [a]]) a := by
  apply nat_ext
  intro i
  rw [Nat.testBit_or, Bool.or_eq_true, mkN_test, mkN_test, Nat.one_mul, Nat.testBit_two_pow]
  simp only [get_snoc, decide_eq_true_eq]
  by_cases h : i < A.length
  · simp [h]; intro e; omega
  · by_cases e : i = A.length
    · subst e; simp
    · simp [h, e]; omega
theorem mkN_ne {A : List (List Int)} {B : List Int} {a s : Int} (h : s ≠ a) : mkN (A ++ [B ++ [a]]) s = mkN (A ++ [B]) s := by
  apply nat_ext
  intro i
  rw [mkN_test, mkN_test]
  simp only [get_snoc]
  by_cases h1 : i < A.length
  · simp [h1]
  · by_cases e : i = A.length
    · subst e; simp [h]
    · simp [h1, e]
theorem mkN_nil {A : List (List Int)} {s : Int} : mkN (A ++ [[]]) s = mkN A s := by
  apply nat_ext
  intro i
  rw [mkN_test, mkN_test]
  simp only [get_snoc]
  by_cases h1 : i < A.length
  · simp [h1]
  · by_cases e : i = A.length
    · subst e; simp
    · rw [if_neg h1, if_neg e, List.getElem?_eq_none (by omega)]
structure MapP (l : List (Int × Nat)) (F : Int → Nat) : Prop where
  nd : (l.map Prod.fst).Nodup
  h : ∀ s, (lookL s l).getD 0 = F s
theorem look_putA {α β : Type} [DecidableEq α] {a : α} {v : β} (s : α) : ∀ (l : List (α × β)), lookL s (putA a v l) = if s = a then some v else lookL s l
  | [] => by simp only [putA, lookL]
  | q :: l => by
    have ih := look_putA (a := a) (v := v) s l
    by_cases h : a = q.1
    · subst h
      simp only [putA, if_true, lookL]
      by_cases e : s = q.1 <;> simp [e]
    · simp only [putA, if_neg h, lookL, ih]
      by_cases e : s = q.1
      · subst e; simp [Ne.symm h]
      · simp [e]
theorem keys_putA {α β : Type} [DecidableEq α] {a : α} {v : β} : ∀ (l : List (α × β)), (putA a v l).map Prod.fst = if a ∈ l.map Prod.fst then l.map Prod.fst else l.map Prod.fst ++ [a]
  | [] => by simp [putA]
  | q :: l => by
    have ih := keys_putA (a := a) (v := v) l
    by_cases h : a = q.1
    · subst h; simp [putA]
    · have e : putA a v (q :: l) = q :: putA a v l := by simp only [putA]; rw [if_neg h]
      rw [e, List.map_cons, ih, List.map_cons]
      by_cases hm : a ∈ l.map Prod.fst
      · rw [if_pos hm, if_pos (List.mem_cons_of_mem _ hm)]
      · rw [if_neg hm, if_neg (fun q9 => (List.mem_cons.1 q9).elim h hm)]; rfl
theorem MapP.put {l : List (Int × Nat)} {F : Int → Nat} (h : MapP l F) (a : Int) (v : Nat) : MapP (putA a v l) (fun s => if s = a then v else F s) := by
  refine ⟨?_, fun s => ?_⟩
  · rw [keys_putA]; split
    · exact h.nd
    · rename_i hn
      rw [List.nodup_append]
      exact ⟨h.nd, by simp, fun x hx y hy e => by simp at hy; subst hy; subst e; exact hn hx⟩
  · rw [look_putA]
    by_cases e : s = a
    · simp [e]
    · simp [e, h.h]
theorem MapP.congr {l : List (Int × Nat)} {F G : Int → Nat} (h : MapP l F) (e : ∀ s, F s = G s) : MapP l G := ⟨h.nd, fun s => (h.h s).trans (e s)⟩
theorem MapP.nil : MapP [] (fun _ => 0) := ⟨by simp, fun s => rfl⟩
theorem look_mem {α β : Type} [DecidableEq α] : ∀ {l : List (α × β)} {q : α × β}, (l.map Prod.fst).Nodup → q ∈ l → lookL q.1 l = some q.2
  | p :: l, q, hn, hq => by
    simp only [List.map_cons, List.nodup_cons] at hn
    rcases List.mem_cons.1 hq with rfl | hq
    · simp [lookL]
    · have : q.1 ≠ p.1 := fun e => hn.1 (by rw [← e]; exact List.mem_map.2 ⟨q, hq, rfl⟩)
      simp only [lookL, if_neg this]
      exact look_mem hn.2 hq
theorem look_none {α β : Type} [DecidableEq α] {a : α} : ∀ {l : List (α × β)}, a ∉ l.map Prod.fst → lookL a l = none
  | [], _ => rfl
  | p :: l, h => by
    simp only [List.map_cons, List.mem_cons, not_or] at h
    simp only [lookL, if_neg h.1]
    exact look_none h.2
theorem MapP.val {l : List (Int × Nat)} {F : Int → Nat} (h : MapP l F) {q : Int × Nat} (hq : q ∈ l) : q.2 = F q.1 := by
  rw [← h.h, look_mem h.nd hq]; rfl
theorem MapP.out {l : List (Int × Nat)} {F : Int → Nat} (h : MapP l F) {s : Int} (hs : s ∉ l.map Prod.fst) : F s = 0 := by
  rw [← h.h, look_none hs]; rfl
theorem MapP.step {l : List (Int × Nat)} {A : List (List Int)} {B : List Int} {a : Int} (h : MapP l (mkN (A ++ [B]))) : MapP (putA a (mkN (A ++ [B]) a ||| 1 * 2 ^ A.length) l) (mkN (A ++ [B ++ [a]])) :=
  (h.put a _).congr fun s => by
    split
    · rename_i e; subst e; exact mkN_or
    · rename_i e; exact (mkN_ne e).symm
structure RowsP (n : Nat) (R : Nat → Int → Prop) (b : Nat) (os : List (List Int)) : Prop where
  l : os.length = n
  h : ∀ v x, v < n → (x ∈ os.getD v [] ↔ R v x)
  b : ∀ v, (os.getD v []).length ≤ b
theorem getD_set_row {os : List (List Int)} {v : Nat} {r : List Int} (hv : v < os.length) (c : Nat) : (os.set v r).getD c [] = if c = v then r else os.getD c [] := by
  rw [List.getD_eq_getElem?_getD, List.getElem?_set]
  by_cases e : v = c
  · subst e; rw [if_pos rfl, if_pos hv, if_pos rfl]; rfl
  · rw [if_neg e, if_neg (fun h => e h.symm)]; simp
theorem RowsP.push {n b : Nat} {R R' : Nat → Int → Prop} {qs : List Rec} (h : RowsP n R b (nums qs)) {v : Nat} (hv : v < qs.length) (x : Int) (hR : ∀ u y, u < n → (R' u y ↔ R u y ∨ (u = v ∧ y = x))) (bb : Option Addr) (cc : Nat) : RowsP n R' (b + 1) (nums (qs.set v ⟨bb, cc, qs[v].xs ++ [x]⟩)) := by
  have hvl : v < (nums qs).length := by simpa using hv
  have hq : (nums qs).getD v [] = qs[v].xs := by simp [hv]
  rw [nums_set]
  refine ⟨by rw [List.length_set]; exact h.l, fun u y hu => ?_, fun u => ?_⟩
  · rw [getD_set_row hvl, hR u y hu]
    by_cases e : u = v
    · subst e; rw [if_pos rfl, List.mem_append, List.mem_singleton, ← hq, h.h u y hu]; simp
    · rw [if_neg e, h.h u y hu]; simp [e]
  · rw [getD_set_row hvl]; split
    · have := h.b v; rw [hq] at this; simp; exact this
    · have := h.b u; omega
theorem RowsP.same {n b : Nat} {R R' : Nat → Int → Prop} {os : List (List Int)} (h : RowsP n R b os) (hR : ∀ u y, u < n → (R' u y ↔ R u y)) : RowsP n R' b os := ⟨h.l, fun v x hv => by rw [h.h v x hv, hR v x hv], h.b⟩
theorem RowsP.more {n b b' : Nat} {R : Nat → Int → Prop} {os : List (List Int)} (h : RowsP n R b os) (hb : b ≤ b') : RowsP n R b' os := ⟨h.l, h.h, fun v => Nat.le_trans (h.b v) hb⟩
theorem RowsP.start {n : Nat} {R : Nat → Int → Prop} (hR : ∀ u y, u < n → ¬ R u y) (b : Nat) : RowsP n R b (nums (List.replicate n nilRec)) := by
  have h0 : ∀ c, (nums (List.replicate n nilRec)).getD c [] = [] := fun c => by
    rw [List.getD_eq_getElem?_getD]
    simp only [nums, List.getElem?_map, List.getElem?_replicate]; split <;> rfl
  refine ⟨by simp, fun v x hv => ?_, fun v => by rw [h0]; exact Nat.zero_le _⟩
  rw [h0]
  constructor
  · intro h; cases h
  · intro h; exact absurd h (hR v x hv)
theorem RowsP.ql {n b : Nat} {R : Nat → Int → Prop} {qs : List Rec} (h : RowsP n R b (nums qs)) : qs.length = n := by simpa using h.l
theorem RowsP.rl {n b : Nat} {R : Nat → Int → Prop} {qs : List Rec} (h : RowsP n R b (nums qs)) {v : Nat} (hv : v < qs.length) : qs[v].xs.length ≤ b := by
  have := h.b v
  rwa [show (nums qs).getD v [] = qs[v].xs by simp [hv]] at this
theorem RowsP.adj {n b : Nat} {R : Nat → Int → Prop} {os : List (List Int)} (h : RowsP n R b os) (hR : ∀ u y, R u y → u < n) (u v : Nat) : adjE os u v ↔ R u v := by
  constructor
  · rintro ⟨r, h1, h2⟩
    have hu : u < n := by rw [← h.l]; exact (List.getElem?_eq_some_iff.1 h1).1
    refine (h.h u v hu).1 ?_
    rw [List.getD_eq_getElem?_getD, h1]; exact h2
  · intro hr
    have hu := hR u v hr
    have := (h.h u v hu).2 hr
    refine ⟨os.getD u [], ?_, this⟩
    rw [List.getD_eq_getElem?_getD]
    rw [List.getElem?_eq_getElem (by rw [h.l]; exact hu)]; rfl
theorem List.sublist_append_left_of_sublist_cons {α : Type} (A : List α) (e : α) (B : List α) : (A ++ B).Sublist (A ++ e :: B) := (List.Sublist.refl A).append (List.sublist_cons_self e B)
theorem nodup_mid {A B : List (Int × Nat)} {e : Int × Nat} (h : ((A ++ e :: B).map Prod.fst).Nodup) : ((A ++ B).map Prod.fst).Nodup :=
  ((List.sublist_append_left_of_sublist_cons A e B).map Prod.fst).nodup h
def autR (es : List Ed) (u : Nat) (y : Int) : Prop := ∃ e ∈ es, e.fr = (u : Int) ∧ e.to = y
theorem autR_snoc {es : List Ed} {k : Nat} (hk : k < es.length) (u : Nat) (y : Int) : autR (es.take (k + 1)) u y ↔ autR (es.take k) u y ∨ (es[k].fr = (u : Int) ∧ es[k].to = y) := by
  unfold autR
  rw [List.take_succ_eq_append_getElem hk]
  constructor
  · rintro ⟨e, h, h1⟩
    rcases List.mem_append.1 h with h | h
    · exact .inl ⟨e, h, h1⟩
    · rw [List.mem_singleton] at h; subst h; exact .inr h1
  · rintro (⟨e, h, h1⟩ | h1)
    · exact ⟨e, List.mem_append_left _ h, h1⟩
    · exact ⟨es[k], List.mem_append_right _ (by simp), h1⟩
theorem marks_step {ms : List Nat} {n : Nat} {F : Int → Nat} {A B : List (Int × Nat)} {e : Int × Nat} (hl : ms.length = n) (h : ∀ s, s < n → ms.getD s 0 = if (s : Int) ∈ (A ++ e :: B).map Prod.fst then 0 else F s) (hn : ((A ++ e :: B).map Prod.fst).Nodup) (he : e.2 = F e.1) {x : Nat} (hx : e.1 = (x : Int)) (hxn : x < n) :
    ∀ s, s < n → (ms.set x e.2).getD s 0 = if (s : Int) ∈ (A ++ B).map Prod.fst then 0 else F s := fun s hs => by
  have h1 := fn_set (a := e.2) (l := ms) (v := x) (by rw [hl]; exact hxn) s
  rw [show (ms.set x e.2).getD s 0 = fn (ms.set x e.2) s from rfl, h1]
  simp only [List.map_append, List.map_cons, List.nodup_append, List.nodup_cons, List.mem_cons] at hn
  by_cases es : s = x
  · subst es
    rw [if_pos rfl, if_neg, he, hx]
    rw [List.map_append, List.mem_append, ← hx]
    rintro (h2 | h2)
    · exact hn.2.2 _ h2 _ (.inl rfl) rfl
    · exact hn.2.1.1 h2
  · rw [if_neg es, show fn ms s = ms.getD s 0 from rfl, h s hs]
    have : ¬ (s : Int) = e.1 := by rw [hx]; omega
    by_cases hm : (s : Int) ∈ (A ++ B).map Prod.fst
    · rw [if_pos hm, if_pos]
      rw [List.map_append, List.mem_append] at hm ⊢
      rcases hm with hm | hm
      · exact .inl hm
      · exact .inr (List.mem_cons_of_mem _ hm)
    · rw [if_neg hm, if_neg]
      rw [List.map_append, List.mem_append] at hm ⊢
      rintro (h2 | h2)
      · exact hm (.inl h2)
      · rw [List.map_cons, List.mem_cons] at h2
        exact h2.elim this (fun h3 => hm (.inr h3))
def autE (b : Bu) (u v : Nat) : Prop := autR b.edges u (v : Int)
def autM (b : Bu) (k v : Nat) : Prop := v < b.states.toNat ∧ ∃ S, b.sets[k]? = some S ∧ (v : Int) ∈ S
def liveB (b : Bu) (v : Nat) : Prop := LiveG (autE b) b.sets.length (autM b) v
def coreB (b : Bu) (v : Nat) : Prop := Core (autE b) b.sets.length (autM b) v
structure AutG (b : Bu) (nx : List (List Int)) (ms : List Nat) : Prop where
  r : RowsP b.states.toNat (autR b.edges) b.edges.length nx
  l : ms.length = b.states.toNat
  m : ∀ s, s < b.states.toNat → ms.getD s 0 = mkN b.sets s
theorem AutG.ok {b : Bu} {nx : List (List Int)} {ms : List Nat} (h : AutG b nx ms) (hv : ValidB b) : okRows nx := fun r hr x hx => by
  obtain ⟨i, hi, rfl⟩ := List.mem_iff_getElem.1 hr
  have hl := h.r.l
  have := (h.r.h i x (by omega)).1 (by rw [getD_at hi]; exact hx)
  obtain ⟨e, he, _, rfl⟩ := this
  have := (hv.ed e he).2
  omega
theorem AutG.adj {b : Bu} {nx : List (List Int)} {ms : List Nat} (h : AutG b nx ms) (hv : ValidB b) : adjE nx = autE b := by
  funext u v
  exact propext (h.r.adj (fun u y ⟨e, he, h1, _⟩ => by have := (hv.ed e he).1; omega) u v)
theorem AutG.mrk {b : Bu} {nx : List (List Int)} {ms : List Nat} (h : AutG b nx ms) : mkM nx ms = autM b := by
  funext k v
  apply propext
  unfold mkM autM
  rw [h.r.l]
  constructor
  · rintro ⟨h1, h2⟩
    rw [h.m v h1, mkN_test] at h2
    exact ⟨h1, h2⟩
  · rintro ⟨h1, h2⟩
    exact ⟨h1, by rw [h.m v h1, mkN_test]; exact h2⟩
theorem AutG.liv {b : Bu} {nx : List (List Int)} {ms : List Nat} (h : AutG b nx ms) (hv : ValidB b) (v : Nat) : Liv nx ms b.sets.length v ↔ liveB b v := by
  unfold Liv liveB; rw [h.adj hv, h.mrk]
theorem AutG.cor {b : Bu} {nx : List (List Int)} {ms : List Nat} (h : AutG b nx ms) (hv : ValidB b) (v : Nat) : Cor nx ms b.sets.length v ↔ coreB b v := by
  unfold Cor coreB; rw [h.adj hv, h.mrk]
theorem AutG.lt {b : Bu} {nx : List (List Int)} {ms : List Nat} (h : AutG b nx ms) : ∀ x ∈ ms, x < 2 ^ b.sets.length := fun x hx => by
  obtain ⟨i, hi, rfl⟩ := List.mem_iff_getElem.1 hx
  have := h.m i (by rw [← h.l]; exact hi)
  rw [gd hi] at this
  rw [this]; exact mkN_lt _ _
end Go.Lx

namespace Go.Lx
open Go.RowKit
set_option linter.unusedVariables false
def prodP (l : La) (e : Ed) (j u : Nat) (y : Int) : Prop := mtch e (l.at j) ∧ (u : Int) = e.fr * (l.n : Int) + (j : Int) ∧ y = e.to * (l.n : Int) + (l.ix (j + 1) : Int)
def prodR (es : List Ed) (l : La) (i k : Nat) (u : Nat) (y : Int) : Prop := (∃ j, j < i ∧ ∃ e ∈ es, prodP l e j u y) ∨ ∃ e ∈ es.take k, prodP l e i u y
theorem prodR_hit {es : List Ed} {l : La} {i k : Nat} (hk : k < es.length) {u : Nat} {y : Int} : prodR es l i (k + 1) u y ↔ prodR es l i k u y ∨ prodP l es[k] i u y := by
  unfold prodR
  rw [List.take_succ_eq_append_getElem hk]
  constructor
  · rintro (h | ⟨e, h1, h2⟩)
    · exact .inl (.inl h)
    · rcases List.mem_append.1 h1 with h1 | h1
      · exact .inl (.inr ⟨e, h1, h2⟩)
      · rw [List.mem_singleton] at h1; subst h1; exact .inr h2
  · rintro ((h | ⟨e, h1, h2⟩) | h)
    · exact .inl h
    · exact .inr ⟨e, List.mem_append_left _ h1, h2⟩
    · exact .inr ⟨es[k], List.mem_append_right _ (by simp), h⟩
theorem prodR_row {es : List Ed} {l : La} {i : Nat} {u : Nat} {y : Int} : prodR es l (i + 1) 0 u y ↔ prodR es l i es.length u y := by
  unfold prodR
  rw [List.take_length, List.take_zero]
  constructor
  · rintro (⟨j, h1, h2⟩ | ⟨e, h1, _⟩)
    · by_cases e : j = i
      · subst e; exact .inr h2
      · exact .inl ⟨j, by omega, h2⟩
    · cases h1
  · rintro (⟨j, h1, h2⟩ | h)
    · exact .inl ⟨j, by omega, h2⟩
    · exact .inl ⟨i, by omega, h⟩
structure ProdG (b : Bu) (l : La) (nx : List (List Int)) (ms : List Nat) : Prop where
  r : ∃ B, B ≤ 1000000 ∧ RowsP (b.states.toNat * l.n) (prodR b.edges l l.n 0) B nx
  ll : ms.length = b.states.toNat * l.n
  m : ∀ v, v < b.states.toNat * l.n → ms.getD v 0 = mkN b.sets ((v / l.n : Nat) : Int)
theorem prod_pe {b : Bu} {l : La} (hv : ValidB b) {u v : Nat} : prodR b.edges l l.n 0 u (v : Int) ↔ PE b l u v := by
  have key : ∀ e ∈ b.edges, ∀ j : Nat, ((u : Int) = e.fr * (l.n : Int) + (j : Int) ↔ u = e.fr.toNat * l.n + j) ∧ ((v : Int) = e.to * (l.n : Int) + (l.ix (j + 1) : Int) ↔ v = e.to.toNat * l.n + l.ix (j + 1)) := fun e he j => by
    have h := hv.ed e he
    have e1 : e.fr * (l.n : Int) = ((e.fr.toNat * l.n : Nat) : Int) := by rw [Int.natCast_mul, Int.toNat_of_nonneg h.1.1]
    have e2 : e.to * (l.n : Int) = ((e.to.toNat * l.n : Nat) : Int) := by rw [Int.natCast_mul, Int.toNat_of_nonneg h.2.1]
    rw [e1, e2]; omega
  unfold prodR PE prodP
  constructor
  · rintro (⟨j, h1, e, he, h2, h3, h4⟩ | ⟨e, he, _⟩)
    · exact ⟨e, he, j, h1, h2, ((key e he j).1).1 h3, ((key e he j).2).1 h4⟩
    · simp at he
  · rintro ⟨e, he, j, h1, h2, h3, h4⟩
    exact .inl ⟨j, h1, e, he, h2, ((key e he j).1).2 h3, ((key e he j).2).2 h4⟩
theorem ProdG.ok {b : Bu} {l : La} {nx : List (List Int)} {ms : List Nat} (h : ProdG b l nx ms) (hv : ValidB b) (hl : 0 < l.loop.length) : okRows nx := fun r hr x hx => by
  obtain ⟨i, hi, rfl⟩ := List.mem_iff_getElem.1 hr
  obtain ⟨B, _, hb⟩ := h.r
  have hln := hb.l
  have h1 := (hb.h i x (by omega)).1 (by rw [getD_at hi]; exact hx)
  have h0 : 0 ≤ x := by
    rcases h1 with ⟨j, _, e, he, _, _, rfl⟩ | ⟨e, he, _⟩
    · have := Int.mul_nonneg ((hv.ed e he).2.1) (show (0 : Int) ≤ (l.n : Int) by omega); omega
    · simp at he
  have h2 : PE b l i x.toNat := (prod_pe hv).1 (by rw [Int.toNat_of_nonneg h0]; exact h1)
  have := (h2.lt hv hl).2
  omega
theorem ProdG.adj {b : Bu} {l : La} {nx : List (List Int)} {ms : List Nat} (h : ProdG b l nx ms) (hv : ValidB b) (hl : 0 < l.loop.length) : adjE nx = PE b l := by
  obtain ⟨B, _, hb⟩ := h.r
  funext u v
  apply propext
  constructor
  · rintro ⟨r, h1, h2⟩
    have hu : u < b.states.toNat * l.n := by rw [← hb.l]; exact (List.getElem?_eq_some_iff.1 h1).1
    exact (prod_pe hv).1 ((hb.h u v hu).1 (by rw [List.getD_eq_getElem?_getD, h1]; exact h2))
  · intro hr
    have hu := (hr.lt hv hl).1
    have h1 := (hb.h u v hu).2 ((prod_pe hv).2 hr)
    refine ⟨nx.getD u [], ?_, h1⟩
    rw [List.getD_eq_getElem?_getD, List.getElem?_eq_getElem (by rw [hb.l]; exact hu)]; rfl
theorem ProdG.mrk {b : Bu} {l : La} {nx : List (List Int)} {ms : List Nat} (h : ProdG b l nx ms) : mkM nx ms = PM b l := by
  obtain ⟨B, _, hb⟩ := h.r
  funext k v
  apply propext
  unfold mkM PM
  rw [hb.l]
  constructor
  · rintro ⟨h1, h2⟩
    rw [h.m v h1, mkN_test] at h2
    exact ⟨h1, h2⟩
  · rintro ⟨h1, h2⟩
    exact ⟨h1, by rw [h.m v h1, mkN_test]; exact h2⟩
theorem ProdG.lt {b : Bu} {l : La} {nx : List (List Int)} {ms : List Nat} (h : ProdG b l nx ms) : ∀ x ∈ ms, x < 2 ^ b.sets.length := fun x hx => by
  obtain ⟨i, hi, rfl⟩ := List.mem_iff_getElem.1 hx
  have := h.m i (by rw [← h.ll]; exact hi)
  rw [gd hi] at this
  rw [this]; exact mkN_lt _ _
theorem ProdG.liv {b : Bu} {l : La} {nx : List (List Int)} {ms : List Nat} (h : ProdG b l nx ms) (hv : ValidB b) (hl : 0 < l.loop.length) (v : Nat) : Liv nx ms b.sets.length v ↔ LiveG (PE b l) b.sets.length (PM b l) v := by
  unfold Liv; rw [h.adj hv hl, h.mrk]
open Classical in
noncomputable def accV (b : Bu) (l : La) : Bool := if checkB b = 0 ∧ checkLV b.vars l = 0 then decide (accL b l) else false
def accE (b : Bu) (l : La) : Nat := if checkB b = 0 then checkLV b.vars l else checkB b
open Classical in
noncomputable def livesB (b : Bu) : List Bool := if checkB b = 0 then (List.range b.states.toNat).map (fun v => decide (liveB b v)) else []
theorem livesB_of {b : Bu} (he : checkB b = 0) {ls : List Bool} (hl : ls.length = b.states.toNat) (h : ∀ v, v < b.states.toNat → (ls.getD v false = true ↔ liveB b v)) : ls = livesB b := by
  unfold livesB
  rw [if_pos he]
  apply List.ext_getElem
  · simp [hl]
  · intro i h1 h2
    have := h i (by omega)
    rw [gb h1] at this
    simp only [List.getElem_map, List.getElem_range]
    by_cases hL : liveB b i
    · rw [this.2 hL]; simp [hL]
    · have : ls[i] ≠ true := fun q => hL (this.1 q)
      simp only [Bool.not_eq_true] at this
      rw [this]; simp [hL]
theorem livesB_len {b : Bu} (he : checkB b = 0) : (livesB b).length = b.states.toNat := by unfold livesB; rw [if_pos he]; simp
theorem livesB_get {b : Bu} (he : checkB b = 0) {v : Nat} (hv : v < b.states.toNat) : (livesB b).getD v false = true ↔ liveB b v := by
  unfold livesB; rw [if_pos he]; simp [hv]
open Classical in
theorem acc_any {b : Bu} {l : La} (he : checkB b = 0) (hel : checkLV b.vars l = 0) {ls : List Bool} (h : ∀ s ∈ b.start, (ls.getD (s.toNat * l.n) false = true ↔ LiveG (PE b l) b.sets.length (PM b l) (s.toNat * l.n))) :
    (b.start.any fun s => ls.getD (s.toNat * l.n) false) = accV b l := by
  unfold accV
  rw [if_pos ⟨he, hel⟩]
  by_cases hA : accL b l
  · obtain ⟨s, h1, h2⟩ := hA
    rw [List.any_eq_true.2 ⟨s, h1, (h s h1).2 h2⟩, decide_eq_true ⟨s, h1, h2⟩]
  · rw [decide_eq_false hA, List.any_eq_false]
    intro s hs hh
    exact hA ⟨s, hs, (h s hs).1 hh⟩
theorem checkL_loop {v : Int} {l : La} (h : checkLV v l = 0) : 0 < l.loop.length ∧ l.pre.length ≤ 64 ∧ l.loop.length ≤ 64 ∧ 0 ≤ v ∧ v ≤ 6 ∧ (∀ x ∈ l.pre, x < 2 ^ v.toNat) ∧ ∀ x ∈ l.loop, x < 2 ^ v.toNat := by
  unfold checkLV checkL at h
  split at h; · cases h
  split at h; · cases h
  split at h; · cases h
  split at h
  · rename_i h1 h2 h3 h4
    simp only [Classical.not_not] at h1
    simp only [List.all_eq_true, decide_eq_true_eq] at h4
    exact ⟨by omega, by omega, by omega, h1.1, h1.2, h4.1, h4.2⟩
  · cases h
theorem prod_marks {ms : List Nat} {n L x i e : Nat} {F : Nat → Nat} (hl : ms.length = n * L) (hi : i < L) (hx : x < n) (h : ∀ v, v < n * L → ms.getD v 0 = if v / L = x ∧ v % L < i then e else F v) :
    x * L + i < n * L ∧ ∀ v, v < n * L → (ms.set (x * L + i) e).getD v 0 = if v / L = x ∧ v % L < i + 1 then e else F v := by
  have hlt : x * L + i < n * L := by
    have := Nat.mul_le_mul_right L (show x + 1 ≤ n by omega)
    rw [Nat.succ_mul] at this; omega
  refine ⟨hlt, fun v hv => ?_⟩
  have h1 := fn_set (a := e) (l := ms) (v := x * L + i) (by rw [hl]; exact hlt) v
  rw [show (ms.set (x * L + i) e).getD v 0 = fn (ms.set (x * L + i) e) v from rfl, h1]
  have hd := Nat.div_add_mod v L
  by_cases hv1 : v = x * L + i
  · rw [if_pos hv1, if_pos]
    have h2 : (x * L + i) / L = x := by rw [Nat.mul_comm, Nat.mul_add_div (by omega), Nat.div_eq_of_lt hi, Nat.add_zero]
    have h3 : (x * L + i) % L = i := by rw [Nat.mul_add_mod_self_right, Nat.mod_eq_of_lt hi]
    rw [hv1, h2, h3]; omega
  · rw [if_neg hv1, show fn ms v = ms.getD v 0 from rfl, h v hv]
    by_cases hc : v / L = x ∧ v % L < i
    · rw [if_pos hc, if_pos (by omega)]
    · rw [if_neg hc, if_neg]
      rintro ⟨h2, h3⟩
      by_cases h4 : v % L < i
      · exact hc ⟨h2, h4⟩
      · have : v % L = i := by omega
        rw [h2, this, Nat.mul_comm] at hd
        exact hv1 hd.symm
theorem marks_stepG {F : Int → Nat} {A B : List (Int × Nat)} {e : Int × Nat} (hn : ((A ++ e :: B).map Prod.fst).Nodup) (he : e.2 = F e.1) {x : Nat} (hx : e.1 = (x : Int)) {p g : Nat} (h : g = if (p : Int) ∈ (A ++ e :: B).map Prod.fst then 0 else F p) :
    (if p = x then e.2 else g) = if (p : Int) ∈ (A ++ B).map Prod.fst then 0 else F p := by
  simp only [List.map_append, List.map_cons, List.nodup_append, List.nodup_cons, List.mem_cons] at hn
  by_cases es : p = x
  · subst es
    rw [if_pos rfl, if_neg, he, hx]
    rw [List.map_append, List.mem_append, ← hx]
    rintro (h2 | h2)
    · exact hn.2.2 _ h2 _ (.inl rfl) rfl
    · exact hn.2.1.1 h2
  · rw [if_neg es, h]
    have : ¬ (p : Int) = e.1 := by rw [hx]; omega
    by_cases hm : (p : Int) ∈ (A ++ B).map Prod.fst
    · rw [if_pos hm, if_pos]
      rw [List.map_append, List.mem_append] at hm ⊢
      rcases hm with hm | hm
      · exact .inl hm
      · exact .inr (List.mem_cons_of_mem _ hm)
    · rw [if_neg hm, if_neg]
      rw [List.map_append, List.mem_append] at hm ⊢
      rintro (h2 | h2)
      · exact hm (.inl h2)
      · rw [List.map_cons, List.mem_cons] at h2
        exact h2.elim this (fun h3 => hm (.inr h3))
end Go.Lx

namespace Go.Proofs.Ytnamoapbienooaa
open Go.Lx Go.RowKit
set_option linter.unusedVariables false
set_option linter.unusedSimpArgs false
theorem longL_no {l : La} (h : ¬ longL l = true) : l.pre.length ≤ 70 ∧ l.loop.length ≤ 70 := by
  unfold longL at h; rw [decide_eq_true_iff] at h; omega
theorem longL_lab {l : La} (h : ¬ longL l = true) (hp8 : ∀ x ∈ l.pre, x < 256) (hl8 : ∀ x ∈ l.loop, x < 256) : LaB l := by
  have := longL_no h; exact ⟨by omega, by omega, hp8, hl8⟩
theorem longB_ed {b : Bu} (h : ¬ longB b = true) : b.start.length ≤ 40 ∧ b.edges.length ≤ 60 ∧ b.sets.length ≤ 12 ∧ ∀ r ∈ b.sets, r.length ≤ 40 := by
  unfold longB longN at h
  rw [Bool.or_eq_true, not_or, decide_eq_true_iff, List.any_eq_true] at h
  refine ⟨by omega, by omega, by omega, fun r hr => ?_⟩
  exact Nat.le_of_not_lt (fun h3 => h.2 ⟨r, hr, decide_eq_true h3⟩)
theorem longB_no {b : Bu} (h : ¬ longB b = true) (hpn : ∀ e ∈ b.edges, e.pos < 256 ∧ e.neg < 256) : BuB b := by
  have h1 := longB_ed h
  exact ⟨by omega, by omega, by omega, fun r hr => by have := h1.2.2.2 r hr; omega, hpn⟩
theorem livesB_le (b : Bu) : (livesB b).length ≤ 4096 := by
  by_cases he : checkB b = 0
  · rw [livesB_len he]; have := (checkB_zero.1 he).n4; omega
  · unfold livesB; rw [if_neg he]; simp
end Go.Proofs.Ytnamoapbienooaa
