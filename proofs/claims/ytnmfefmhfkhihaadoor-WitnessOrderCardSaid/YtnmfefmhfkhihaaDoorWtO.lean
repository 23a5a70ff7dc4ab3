/- Contracts of functions of the program (WtO): what each call answers and that it leaves memory as it was. Conditions: those each theorem names. -/
import Derived.Test.YtnmfefmhfkhihaaDoorWtE
set_option linter.unusedSectionVars false
set_option linter.unusedSimpArgs false
set_option linter.unusedVariables false
set_option linter.unnecessarySimpa false
namespace Go.Lx
set_option linter.unusedVariables false
theorem none_of9 {α : Type} {x : Option α} (h : (!x.isSome) = true) : x = none := by cases x <;> simp_all
theorem none_ofB {α : Type} {x : Option α} (h : ¬ x.isSome = true) : x = none := by cases x <;> simp_all
theorem some_getD {x : Option (List Nat)} (h : x.isSome = true) : x = some (x.getD []) := by cases x <;> simp_all
theorem some_getD9 {x : Option (List Nat)} (h : (!x.isSome) = false) : x = some (x.getD []) := by cases x <;> simp_all
theorem nthE_eq {d : DFA} {k : Nat} (hk : k < 4611686018427387904) : nthE d k = checkD d := by
  unfold nthE
  by_cases h : checkD d ≠ 0
  · rw [if_pos h]
  · rw [if_neg h, if_neg (by omega)]; omega
theorem acc_word {a : DFA} {o : List Nat} (h : accV a o = true) : Valid a ∧ o.length ≤ 64 ∧ Wd a o ∧ acc a o = true := by
  unfold accV at h
  split at h
  · rename_i he
    obtain ⟨h1, h2, h3⟩ := runE_zero.1 he
    exact ⟨h1, h2, h3, h⟩
  · cases h
theorem word_acc {a : DFA} {o : List Nat} (hv : Valid a) (hl : o.length ≤ 64) (hw : Wd a o) (ha : acc a o = true) : accV a o = true := by
  unfold accV
  rw [if_pos (runE_zero.2 ⟨hv, hl, hw⟩)]; exact ha
theorem acc_mem {a : DFA} {o : List Nat} (h : accV a o = true) : o ∈ allW a 65 := by
  obtain ⟨_, h2, h3, h4⟩ := acc_word h
  exact mem_allW.2 ⟨by omega, h3, h4⟩
theorem mem_acc {a : DFA} (hv : Valid a) {o : List Nat} (h : o ∈ allW a 65) : accV a o = true := by
  obtain ⟨h1, h2, h3⟩ := mem_allW.1 h
  exact word_acc hv (by omega) h2 h3
section
variable {a : DFA} {k : Nat} {u v o : List Nat}
theorem nth_mem (he : checkD a = 0) (hk : k < 4611686018427387904) (h : nthV a k = some u) : u ∈ allW a 65 := by
  rw [nthV_small he hk] at h; exact List.mem_of_getElem? h
theorem nth_acc (he : checkD a = 0) (hk : k < 4611686018427387904) (h : nthV a k = some u) : accV a u = true := mem_acc (checkD_zero.1 he) (nth_mem he hk h)
theorem nth_wd (he : checkD a = 0) (hk : k < 4611686018427387904) (h : nthV a k = some u) : ∀ x ∈ u, x < 64 := Wd.lt64 (checkD_zero.1 he).toVal (mem_allW.1 (nth_mem he hk h)).2.1
theorem acc_wd (h : accV a o = true) : ∀ x ∈ o, x < 64 := Wd.lt64 (acc_word h).1.toVal (acc_word h).2.2.1
theorem ord_more (he : checkD a = 0) (hk : k + 1 < 4611686018427387904) (h : (nthV a (k + 1)).isSome = true) : (nthV a k).isSome = true := by
  rw [nthV_small he (by omega)] at h ⊢
  have h1 : k + 1 < (allW a 65).length := by
    rcases Nat.lt_or_ge (k + 1) (allW a 65).length with h2 | h2
    · exact h2
    · rw [List.getElem?_eq_none h2] at h; cases h
  rw [List.getElem?_eq_getElem (by omega)]; rfl
theorem nth_lt (he : checkD a = 0) (hk : k + 1 < 4611686018427387904) (h1 : nthV a k = some u) (h2 : nthV a (k + 1) = some v) : code u < code v := by
  rw [nthV_small he (by omega)] at h1 h2
  obtain ⟨l1, e1⟩ := List.getElem?_eq_some_iff.1 h1
  obtain ⟨l2, e2⟩ := List.getElem?_eq_some_iff.1 h2
  have hs := List.pairwise_iff_getElem.1 (allW_sorted (checkD_zero.1 he).toVal 65) k (k + 1) l1 l2 (by omega)
  rwa [e1, e2] at hs
theorem nth_gap (he : checkD a = 0) (hk : k + 1 < 4611686018427387904) (h1 : nthV a k = some u) (ho : accV a o = true) (hc : code u < code o) : ∃ v, nthV a (k + 1) = some v ∧ code v ≤ code o := by
  have hv := (checkD_zero.1 he).toVal
  rw [nthV_small he (by omega)] at h1 ⊢
  obtain ⟨l1, e1⟩ := List.getElem?_eq_some_iff.1 h1
  obtain ⟨i, li, ei⟩ := List.mem_iff_getElem.1 (acc_mem ho)
  have hs := List.pairwise_iff_getElem.1 (allW_sorted hv 65)
  have hki : k < i := by
    rcases Nat.lt_trichotomy i k with h | h | h
    · have := hs i k li l1 h; rw [ei, e1] at this; omega
    · subst h
      have : u = o := e1.symm.trans ei
      subst this; omega
    · exact h
  refine ⟨(allW a 65)[k + 1]'(by omega), List.getElem?_eq_getElem (by omega), ?_⟩
  by_cases e : i = k + 1
  · subst e; rw [ei]; exact Nat.le_refl _
  · have := hs (k + 1) i (by omega) li (by omega)
    rw [ei] at this; omega
end
def wAt (ws : List WRec) (k : Nat) : WRec := ws.getD k ⟨none, 0, []⟩
theorem wds_at {a : DFA} {k : Nat} {u : List Nat} {ws : List WRec} (he : checkD a = 0) (hk : k ≤ 255) (h : nthV a k = some u) (hw : wnums ws = wdsV a ((k + 1 : Nat) : Int)) : wdsE a ((k + 1 : Nat) : Int) = 0 ∧ ws.length = k + 1 ∧ ws[k]? = some (wAt ws k) ∧ (wAt ws k).xs = u := by
  have hE : wdsE a ((k + 1 : Nat) : Int) = 0 := by
    unfold wdsE; rw [if_neg (by omega), if_neg (by omega)]
  rw [nthV_small he (by omega)] at h
  obtain ⟨l1, e1⟩ := List.getElem?_eq_some_iff.1 h
  have hV : wdsV a ((k + 1 : Nat) : Int) = (allW a 65).take (k + 1) := by
    unfold wdsV; rw [if_pos hE]; congr 1
  rw [hV] at hw
  have hl : ws.length = k + 1 := by
    have := congrArg List.length hw
    rw [List.length_map, List.length_take] at this; omega
  have hwk : ws[k]? = some (wAt ws k) := by
    rw [wAt, List.getD_eq_getElem?_getD, List.getElem?_eq_getElem (by omega)]; rfl
  have hwk2 : wAt ws k = ws[k]'(by omega) := by
    rw [wAt, List.getD_eq_getElem?_getD, List.getElem?_eq_getElem (by omega)]; rfl
  refine ⟨hE, hl, hwk, ?_⟩
  rw [hwk2]
  have h3 := congrArg (·[k]?) hw
  simp only [List.getElem?_map, List.getElem?_eq_getElem (show k < ws.length by omega), Option.map_some] at h3
  rw [List.getElem?_take_of_lt (by omega), h] at h3
  exact Option.some.inj h3
end Go.Lx

