/- Contracts of functions of the program (Mon): what each call answers and that it leaves memory as it was. Conditions: those each theorem names. -/
import Derived.Test.YtnamoapbienooaaTrmL
set_option linter.unusedSectionVars false
set_option linter.unusedSimpArgs false
set_option linter.unusedVariables false
set_option linter.unnecessarySimpa false
namespace Go.Lx
open Go.RowKit
set_option linter.unusedVariables false
theorem Acc.more {b c : Bu} {w : Nat → Nat} (hs : ∀ s ∈ b.start, s ∈ c.start) (he : ∀ e ∈ b.edges, e ∈ c.edges) (ht : ∀ S ∈ c.sets, S ∈ b.sets) (h : Acc b w) : Acc c w := by
  obtain ⟨s, h1, r, h2⟩ := h
  refine ⟨s, hs _ h1, r, h2.s, fun i => ?_, fun S hS N => h2.inf S (ht S hS) N⟩
  obtain ⟨e, h3, h4⟩ := h2.st i
  exact ⟨e, he e h3, h4⟩
def pickI (P : Nat → Bool) (k : Nat) : List Int := ((List.range k).filter P).map fun s : Nat => (s : Int)
theorem pickI_yes {P : Nat → Bool} {k : Nat} (h : P k = true) : pickI P (k + 1) = pickI P k ++ [(k : Int)] := by
  unfold pickI; rw [List.range_succ, List.filter_append, List.map_append]; simp [h]
theorem pickI_no {P : Nat → Bool} {k : Nat} (h : ¬ P k = true) : pickI P (k + 1) = pickI P k := by
  unfold pickI; rw [List.range_succ, List.filter_append, List.map_append]; simp [h]
theorem mem_pickI {P : Nat → Bool} {k : Nat} {x : Int} : x ∈ pickI P k ↔ ∃ s : Nat, s < k ∧ P s = true ∧ x = (s : Int) := by
  unfold pickI
  rw [List.mem_map]
  constructor
  · rintro ⟨s, h, rfl⟩; obtain ⟨h1, h2⟩ := List.mem_filter.1 h; exact ⟨s, List.mem_range.1 h1, h2, rfl⟩
  · rintro ⟨s, h1, h2, rfl⟩; exact ⟨s, List.mem_filter.2 ⟨List.mem_range.2 h1, h2⟩, rfl⟩
theorem pickI_sorted (P : Nat → Bool) (k : Nat) : (pickI P k).Pairwise (· < ·) := by
  unfold pickI
  rw [List.pairwise_map]
  exact (List.pairwise_lt_range.filter _).imp (fun h => by omega)
theorem pickI_len (P : Nat → Bool) (k : Nat) : (pickI P k).length ≤ k := by
  unfold pickI
  rw [List.length_map]
  exact Nat.le_trans (List.length_filter_le _ _) (by simp)
theorem ValidB.starts {b : Bu} (h : ValidB b) (P : Nat → Bool) : ValidB { b with start := pickI P b.states.toNat } :=
  { v0 := h.v0, v6 := h.v6, n0 := h.n0, n4 := h.n4, m8 := h.m8, se := h.se, sse := h.sse, ed := h.ed, cu := h.cu, sst := pickI_sorted _ _
    st := fun s hs => by
      obtain ⟨k, h1, _, rfl⟩ := mem_pickI.1 hs
      show 0 ≤ (k : Int) ∧ (k : Int) < b.states; omega }
theorem ValidB.edge {b : Bu} (h : ValidB b) {x : Ed} (h1 : (0 ≤ x.fr ∧ x.fr < b.states) ∧ (0 ≤ x.to ∧ x.to < b.states)) (h2 : x.pos < 2 ^ b.vars.toNat ∧ x.neg < 2 ^ b.vars.toNat ∧ x.pos &&& x.neg = 0) : ValidB { b with edges := b.edges ++ [x] } :=
  { v0 := h.v0, v6 := h.v6, n0 := h.n0, n4 := h.n4, m8 := h.m8, se := h.se, sse := h.sse, sst := h.sst, st := h.st
    ed := fun e he => by
      rcases List.mem_append.1 he with he | he
      · exact h.ed e he
      · rw [List.mem_singleton] at he; subst he; exact h1
    cu := fun e he => by
      rcases List.mem_append.1 he with he | he
      · exact h.cu e he
      · rw [List.mem_singleton] at he; subst he; exact h2 }
theorem accV_more {b c : Bu} {l : La} (hv : c.vars = b.vars) (hc : ValidB c) (hs : ∀ s ∈ b.start, s ∈ c.start) (he : ∀ e ∈ b.edges, e ∈ c.edges) (ht : ∀ S ∈ c.sets, S ∈ b.sets) (h : accV b l = true) : accV c l = true := by
  have h0 : accE b l = 0 := by
    by_cases e : accE b l = 0
    · exact e
    · rw [accV_no e] at h; cases h
  obtain ⟨hb, hl⟩ := accE_zero h0
  exact (accV_iffV hc (by rw [hv]; exact hl)).2 (((accV_iffV hb hl).1 h).more hs he ht)
theorem accV_less {b c : Bu} {l : La} (hv : c.vars = b.vars) (hb : ValidB b) (hs : ∀ s ∈ c.start, s ∈ b.start) (he : ∀ e ∈ c.edges, e ∈ b.edges) (ht : ∀ S ∈ b.sets, S ∈ c.sets) (h : accV b l = false) : accV c l = false := by
  rw [← Bool.not_eq_true]
  intro hc
  rw [accV_more hv.symm hb hs he ht hc] at h
  cases h
def succP (b : Bu) (x : Nat) (s : Nat) : Bool := b.edges.any fun e => decide (e.to = (s : Int)) && decide (e.fr ∈ b.start) && decide (mtch e x)
def succB (b : Bu) (x : Nat) : Bu := { b with start := pickI (succP b x) b.states.toNat }
theorem succP_iff {b : Bu} {x s : Nat} : succP b x s = true ↔ ∃ e ∈ b.edges, e.to = (s : Int) ∧ e.fr ∈ b.start ∧ mtch e x := by
  unfold succP
  rw [List.any_eq_true]
  simp only [Bool.and_eq_true, decide_eq_true_eq, and_assoc]
theorem acc_succ {b : Bu} (hv : ValidB b) {w : Nat → Nat} : Acc (succB b (w 0)) (fun i => w (i + 1)) ↔ Acc b w := by
  constructor
  · rintro ⟨s, hs, r, hr⟩
    obtain ⟨s', _, h1, h2⟩ := mem_pickI.1 hs
    have e : s' = s := by omega
    subst e
    obtain ⟨e, he, h3, h4, h5⟩ := succP_iff.1 h1
    have h6 := hv.st _ h4
    refine ⟨e.fr.toNat, by rw [Int.toNat_of_nonneg h6.1]; exact h4, fun i => if i = 0 then e.fr.toNat else r (i - 1), rfl, fun i => ?_, fun S hS N => ?_⟩
    · cases i with
      | zero => exact ⟨e, he, by show e.fr = ((e.fr.toNat : Nat) : Int); rw [Int.toNat_of_nonneg h6.1], by show e.to = ((r 0 : Nat) : Int); rw [hr.s]; exact h3, h5⟩
      | succ i => obtain ⟨e2, h7, h8⟩ := hr.st i; exact ⟨e2, h7, h8⟩
    · obtain ⟨i, h7, h8⟩ := hr.inf S hS N
      exact ⟨i + 1, by omega, h8⟩
  · rintro ⟨s, hs, r, hr⟩
    obtain ⟨e, he, h1, h2, h3⟩ := hr.st 0
    have h4 := hv.ed e he
    have h2' : e.to = ((r 1 : Nat) : Int) := h2
    refine ⟨r 1, mem_pickI.2 ⟨r 1, by omega, succP_iff.2 ⟨e, he, h2, by rw [h1, hr.s]; exact hs, h3⟩, rfl⟩, fun i => r (i + 1), rfl, fun i => hr.st (i + 1), fun S hS N => ?_⟩
    obtain ⟨i, h7, h8⟩ := hr.inf S hS (N + 1)
    refine ⟨i - 1, by omega, ?_⟩
    show ((r (i - 1 + 1) : Nat) : Int) ∈ S
    rw [show i - 1 + 1 = i by omega]; exact h8
theorem accV_succ {b : Bu} {l m : La} (hv : ValidB b) (hl : checkLV b.vars l = 0) (hm : checkLV b.vars m = 0) (h : ∀ i, m.at i = l.at (i + 1)) : accV (succB b (l.at 0)) m = accV b l := by
  have hs : ValidB (succB b (l.at 0)) := hv.starts _
  rw [Bool.eq_iff_iff, accV_iffV hs (show checkLV b.vars m = 0 from hm), accV_iffV hv hl, show m.at = fun i => l.at (i + 1) from funext h]
  exact acc_succ hv
theorem accV_word {b : Bu} {l m : La} (hv : ValidB b) (hl : checkLV b.vars l = 0) (hm : checkLV b.vars m = 0) (h : ∀ i, m.at i = l.at i) : accV b m = accV b l := by
  rw [Bool.eq_iff_iff, accV_iffV hv hm, accV_iffV hv hl, show m.at = l.at from funext h]
theorem checkLV_sub {v : Int} {l m : La} (h : checkLV v l = 0) (h0 : 0 < m.loop.length) (h1 : m.pre.length ≤ 64) (h2 : m.loop.length ≤ 64) (hp : ∀ x ∈ m.pre, x ∈ l.pre ∨ x ∈ l.loop) (hq : ∀ x ∈ m.loop, x ∈ l.pre ∨ x ∈ l.loop) : checkLV v m = 0 := by
  obtain ⟨_, _, _, a1, a2, a3, a4⟩ := checkL_loop h
  have key : ∀ x, x ∈ l.pre ∨ x ∈ l.loop → x < 2 ^ v.toNat := fun x hx => hx.elim (a3 x) (a4 x)
  unfold checkLV checkL
  rw [if_neg (by simp; omega), if_neg (by omega), if_neg (by omega), if_pos]
  simp only [List.all_eq_true, decide_eq_true_eq]
  exact ⟨fun x hx => key x (hp x hx), fun x hx => key x (hq x hx)⟩
def twice (l : La) : La := ⟨l.pre ++ l.loop, l.loop ++ l.loop⟩
theorem gapp (a c : List Nat) (i : Nat) : (a ++ c).getD i 0 = if i < a.length then a.getD i 0 else c.getD (i - a.length) 0 := by
  rw [List.getD_eq_getElem?_getD, List.getElem?_append]
  split
  · rw [List.getD_eq_getElem?_getD]
  · rw [List.getD_eq_getElem?_getD]
theorem twice_at {l : La} (h : 0 < l.loop.length) (i : Nat) : (twice l).at i = l.at i := by
  unfold La.at twice
  simp only [List.length_append, gapp]
  rw [show max (l.loop.length + l.loop.length) 1 = l.loop.length + l.loop.length by omega, show max l.loop.length 1 = l.loop.length by omega]
  by_cases h1 : i < l.pre.length
  · rw [if_pos (by omega), if_pos h1, if_pos h1]
  · rw [if_neg h1]
    by_cases h2 : i < l.pre.length + l.loop.length
    · rw [if_pos h2, if_neg h1, Nat.mod_eq_of_lt (by omega)]
    · rw [if_neg h2]
      have e1 : (i - (l.pre.length + l.loop.length)) % (l.loop.length + l.loop.length) % l.loop.length = (i - l.pre.length) % l.loop.length := by
        rw [Nat.mod_mod_of_dvd _ ⟨2, by omega⟩, show i - l.pre.length = (i - (l.pre.length + l.loop.length)) + l.loop.length by omega, Nat.add_mod_right]
      have e2 := Nat.mod_lt (i - (l.pre.length + l.loop.length)) (show 0 < l.loop.length + l.loop.length by omega)
      generalize (i - (l.pre.length + l.loop.length)) % (l.loop.length + l.loop.length) = j at e1 e2
      rw [← e1]
      by_cases h3 : j < l.loop.length
      · rw [if_pos h3, Nat.mod_eq_of_lt h3, if_neg h1]
      · rw [if_neg h3, if_neg h1]
        congr 1
        have : j % l.loop.length = (j - l.loop.length + l.loop.length) % l.loop.length := by congr 1; omega
        rw [this, Nat.add_mod_right, Nat.mod_eq_of_lt (by omega)]
end Go.Lx
