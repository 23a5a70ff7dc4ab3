/- Contracts of functions of the program (Tr2): what each call answers and that it leaves memory as it was. Conditions: those each theorem names. -/
import Derived.Test.YtnamoapbienooaaDeg
import Derived.Test.YtnamoapbienooaaTrmL
set_option linter.unusedSectionVars false
set_option linter.unusedSimpArgs false
set_option linter.unusedVariables false
set_option linter.unnecessarySimpa false
namespace Go.Lx
open Go.RowKit
set_option linter.unusedVariables false
theorem gm {l : List Int} {v : Nat} (h : v < l.length) : l.getD v (-1) = l[v] := by simp [h]
structure NumZ (keep : List Bool) (k : Nat) (ns : List Int) : Prop where
  l : ns.length = keep.length
  h : ∀ s, s < k → ns.getD s (-1) = if keep.getD s false = true then ((cntK keep s : Nat) : Int) else -1
theorem NumZ.start (keep : List Bool) : NumZ keep 0 (List.replicate keep.length 0) := ⟨by simp, fun s hs => by omega⟩
theorem NumZ.put {keep : List Bool} {k : Nat} {ns : List Int} (h : NumZ keep k ns) (hk : k < keep.length) {a : Int} (ha : a = if keep.getD k false = true then ((cntK keep k : Nat) : Int) else -1) : NumZ keep (k + 1) (ns.set k a) := by
  refine ⟨by simp [h.l], fun s hs => ?_⟩
  have h1 := fz_set (l := ns) (v := k) (a := a) (by rw [h.l]; exact hk) s
  rw [show (ns.set k a).getD s (-1) = fz (ns.set k a) s from rfl, h1]
  by_cases e : s = k
  · subst e; rw [if_pos rfl, ha]
  · rw [if_neg e]; exact h.h s (by omega)
theorem NumZ.at_ {keep : List Bool} {ns : List Int} (h : NumZ keep keep.length ns) {s : Nat} (hs : s < ns.length) : ns[s] = if keep.getD s false = true then ((cntK keep s : Nat) : Int) else -1 := by
  rw [← gm hs]; exact h.h s (by rw [← h.l]; exact hs)
def hitP (b : Bu) (i v : Nat) : Prop := liveB b v ∧ ∃ s : Nat, b.start[i]? = some (s : Int) ∧ Rch (autE b) s v
structure TrK (b : Bu) (k j : Nat) (ks : List Bool) : Prop where
  l : ks.length = b.states.toNat
  h : ∀ v, v < b.states.toNat → (ks.getD v false = true ↔ (∃ i, i < k ∧ hitP b i v) ∨ (v < j ∧ hitP b k v))
theorem TrK.start (b : Bu) : TrK b 0 0 (List.replicate b.states.toNat false) := ⟨by simp, fun v hv => by
  rw [show (List.replicate b.states.toNat false).getD v false = false by simp [hv]]
  constructor
  · intro h; cases h
  · rintro (⟨i, h, _⟩ | ⟨h, _⟩) <;> omega⟩
theorem TrK.next {b : Bu} {k : Nat} {ks : List Bool} (h : TrK b k b.states.toNat ks) : TrK b (k + 1) 0 ks := ⟨h.l, fun v hv => by
  rw [h.h v hv]
  constructor
  · rintro (⟨i, h1, h2⟩ | ⟨_, h2⟩)
    · exact .inl ⟨i, by omega, h2⟩
    · exact .inl ⟨k, by omega, h2⟩
  · rintro (⟨i, h1, h2⟩ | ⟨h1, _⟩)
    · by_cases e : i = k
      · subst e; exact .inr ⟨hv, h2⟩
      · exact .inl ⟨i, by omega, h2⟩
    · omega⟩
theorem TrK.step {b : Bu} {k j : Nat} {ks : List Bool} (h : TrK b k j ks) (hj : j < b.states.toNat) {V : Bool} (hV : V = true ↔ ks.getD j false = true ∨ hitP b k j) : TrK b k (j + 1) (ks.set j V) := by
  refine ⟨by simp [h.l], fun v hv => ?_⟩
  rw [getB_set (by rw [h.l]; exact hj)]
  by_cases e : v = j
  · subst e
    rw [if_pos rfl, hV, h.h v hv]
    constructor
    · rintro ((h1 | ⟨_, h1⟩) | h1)
      · exact .inl h1
      · exact .inr ⟨by omega, h1⟩
      · exact .inr ⟨by omega, h1⟩
    · rintro (h1 | ⟨_, h1⟩)
      · exact .inl (.inl h1)
      · exact .inr h1
  · rw [if_neg e, h.h v hv]
    constructor
    · rintro (h1 | ⟨h1, h2⟩)
      · exact .inl h1
      · exact .inr ⟨by omega, h2⟩
    · rintro (h1 | ⟨h1, h2⟩)
      · exact .inl h1
      · exact .inr ⟨by omega, h2⟩
theorem TrK.done {b : Bu} (hv : ValidB b) {ks : List Bool} (h : TrK b b.start.length 0 ks) : ks = keepB b := keepB_of h.l (fun v hvn => by
  rw [h.h v hvn]
  constructor
  · rintro (⟨i, _, h1, s, h2, h3⟩ | ⟨h1, _⟩)
    · exact ⟨h1, s, List.mem_of_getElem? h2, h3⟩
    · omega
  · rintro ⟨h1, s, h2, h3⟩
    obtain ⟨i, hi, e⟩ := List.mem_iff_getElem.1 h2
    exact .inl ⟨i, hi, h1, s, by rw [List.getElem?_eq_getElem hi, e], h3⟩)
theorem zeroBu_B : BuB zeroBu := ⟨Nat.zero_le _, Nat.zero_le _, Nat.zero_le _, fun r hr => (by cases hr), fun e he => (by cases he)⟩
theorem dgB_B {b : Bu} (hB : BuB b) (hE : b.edges.length ≤ 100000) : BuB (dgB b) := by
  by_cases he : degE b = 0
  · obtain ⟨hv, hn⟩ := degE_zero he
    have hm8 := hv.m8; have hv4 := hv.n4
    rw [show dgB b = degB b by unfold dgB; rw [if_pos he]]
    by_cases hz : b.sets.length = 0
    · have e1 : (degB b).edges = b.edges := if_pos hz
      have e2 : (degB b).sets = [allI b.states.toNat] := if_pos hz
      refine ⟨hB.st, by rw [e1]; exact hB.ed, by rw [e2]; simp, fun r hr => ?_, fun e he => hB.pn e (by rw [e1] at he; exact he)⟩
      rw [e2, List.mem_singleton] at hr
      subst hr
      rw [allI_len]; omega
    · have e1 : (degB b).edges = degEs b b.sets.length := if_neg hz
      have e2 : (degB b).sets = [lastB b] := if_neg hz
      refine ⟨hB.st, ?_, by rw [e2]; simp, fun r hr => ?_, fun e he => ?_⟩
      · rw [e1, degEs_len]
        have := Nat.mul_le_mul hm8 hE; omega
      · rw [e2, List.mem_singleton] at hr
        subst hr
        unfold lastB; rw [List.length_map]
        exact hB.sr _ (getD_mem (by omega))
      · rw [e1] at he
        obtain ⟨k, _, x, hx, rfl⟩ := mem_degEs.1 he
        exact hB.pn x hx
  · rw [show dgB b = zeroBu by unfold dgB; rw [if_neg he]]
    exact zeroBu_B
end Go.Lx

