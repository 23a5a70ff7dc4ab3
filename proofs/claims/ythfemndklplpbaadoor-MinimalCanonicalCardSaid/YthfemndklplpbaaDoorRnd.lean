/- Rounds of the partition and the telling words, in plain terms. -/
import Derived.Test.YthfemndklplpbaaDoorDR
set_option linter.unusedSectionVars false
set_option linter.unusedSimpArgs false
set_option linter.unusedVariables false
set_option linter.unnecessarySimpa false
namespace Go.Lx
set_option linter.unusedVariables false

theorem rndsV_eq {d : DFA} (hv : Valid d) (k : Int) : rndsV d k = itF d k.toNat := by
  unfold rndsV; rw [if_pos (checkD_zero.2 hv)]

theorem rndsV_len {d : DFA} (hv : Valid d) (k : Int) : (rndsV d k).length = d.next.length := by
  rw [rndsV_eq hv, itF_length]

theorem getD_idx {l : List Nat} {i : Nat} (h : i < l.length) : l.getD i 0 = l[i] := by
  rw [List.getD_eq_getElem?_getD, List.getElem?_eq_getElem h]; rfl

/-- Each round splits classes only. -/
theorem rnds_split {d : DFA} (hv : Valid d) {k : Int} (hk : 0 ≤ k) {i j : Nat} (hi : i < (rndsV d k).length) (hj : j < (rndsV d k).length) (hi' : i < (rndsV d (k + 1)).length) (hj' : j < (rndsV d (k + 1)).length)
    (h : (rndsV d (k + 1))[i] = (rndsV d (k + 1))[j]) : (rndsV d k)[i] = (rndsV d k)[j] := by
  have hin : i < d.next.length := by rw [← rndsV_len hv k]; exact hi
  have hjn : j < d.next.length := by rw [← rndsV_len hv k]; exact hj
  rw [← getD_idx hi', ← getD_idx hj', rndsV_eq hv, itF_iff hv _ i j hin hjn] at h
  rw [← getD_idx hi, ← getD_idx hj, rndsV_eq hv, itF_iff hv _ i j hin hjn, ← Bool.not_eq_true]
  intro hh
  rw [dif_mono (by omega) hh] at h
  cases h

/-- A round that changes nothing: the classes are reached. -/
theorem rnds_stable {d : DFA} (hv : Valid d) {k : Int} (hk : 0 ≤ k) (h : rndsV d k = rndsV d (k + 1)) : rndsV d k = rndsV d d.next.length := by
  rw [rndsV_eq hv, rndsV_eq hv] at h
  rw [rndsV_eq hv, rndsV_eq hv]
  have e1 : (k + 1).toNat = k.toNat + 1 := by omega
  have e2 : ((d.next.length : Nat) : Int).toNat = d.next.length := by omega
  rw [e1] at h
  rw [e2]
  have hs : refineF d (itF d k.toNat) = itF d k.toNat := by rw [← itF]; exact h.symm
  by_cases hn : k.toNat ≤ d.next.length
  · exact (itF_stable hs _ hn).symm
  · exact itF_stab hv _ (by omega)

theorem rnds_tell {d : DFA} (hv : Valid d) {k : Int} (hk : 0 ≤ k) {s t : Nat} (hs : s < (rndsV d k).length) (ht : t < (rndsV d k).length) {res : Option (List Nat)} (h : Tell d s t res) :
    ¬ ((((rndsV d k)[s] : Nat) : Int) = (((rndsV d k)[t] : Nat) : Int)) ↔ (res.isSome = true ∧ (((res.getD []).length : Nat) : Int) ≤ k) := by
  have hsn : s < d.next.length := by rw [← rndsV_len hv k]; exact hs
  have htn : t < d.next.length := by rw [← rndsV_len hv k]; exact ht
  have e : (((rndsV d k)[s] : Nat) : Int) = (((rndsV d k)[t] : Nat) : Int) ↔ dif d k.toNat s t = false := by
    rw [← itF_iff hv _ s t hsn htn, ← rndsV_eq hv, getD_idx hs, getD_idx ht]
    omega
  rw [e, Bool.not_eq_false, dif_iff]
  cases res with
  | none =>
    refine ⟨fun ⟨u, h1, _, h3⟩ => absurd h3 (h u h1), fun ⟨h, _⟩ => by cases h⟩
  | some w =>
    have h : IsLeast d s t w := h
    refine ⟨fun ⟨u, h1, h2, h3⟩ => ⟨rfl, ?_⟩, fun ⟨_, h2⟩ => ⟨w, h.wd, ?_, h.dst⟩⟩
    · have := code_len w u (hv.wd64 h.wd) (hv.wd64 h1) (h.le u h1 h3)
      show ((w.length : Nat) : Int) ≤ k
      omega
    · have h2 : ((w.length : Nat) : Int) ≤ k := h2
      omega

theorem cls_tell {d : DFA} (hv : Valid d) {s t : Nat} (hs : s < (rndsV d d.next.length).length) (ht : t < (rndsV d d.next.length).length) {res : Option (List Nat)} (h : Tell d s t res) :
    ¬ ((((rndsV d d.next.length)[s] : Nat) : Int) = (((rndsV d d.next.length)[t] : Nat) : Int)) ↔ res.isSome = true := by
  have hsn : s < d.next.length := by rw [← rndsV_len hv d.next.length]; exact hs
  have htn : t < d.next.length := by rw [← rndsV_len hv d.next.length]; exact ht
  rw [rnds_tell hv (Int.natCast_nonneg _) hs ht h]
  refine ⟨fun h => h.1, fun hh => ⟨hh, ?_⟩⟩
  cases res with
  | none => cases hh
  | some w =>
    have := Tell.len hv hsn htn h
    show ((w.length : Nat) : Int) ≤ _
    omega

theorem eD_eight {d : DFA} {s t : Int} (hv : Valid d) (h : ¬ eD d s t = 0) : eD d s t = 8 := by
  have he := checkD_zero.2 hv
  unfold eD at *
  rw [if_neg (by simp [he])] at *
  split
  · rfl
  · rename_i h2; rw [if_neg h2] at h; exact absurd rfl h

end Go.Lx
