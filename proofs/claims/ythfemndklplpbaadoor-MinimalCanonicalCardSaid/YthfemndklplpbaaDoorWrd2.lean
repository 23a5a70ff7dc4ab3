/- The minimal automaton: same words, itself minimal, as many states as there are classes of reachable states. -/
import Derived.Test.YthfemndklplpbaaDoorMyh
import Derived.Test.YthfemndklplpbaaDoorWord
set_option linter.unusedSectionVars false
set_option linter.unusedSimpArgs false
set_option linter.unusedVariables false
set_option linter.unnecessarySimpa false
namespace Go.Lx
set_option linter.unusedVariables false

theorem bfsN_reach {d : DFA} (hv : Valid d) : ∀ i, ∀ o ∈ bfsN d i, ∃ w, Wd d w ∧ runN d d.start.toNat w = o
  | 0, o, h => by
    simp only [bfsN, List.mem_singleton] at h
    subst h
    exact ⟨[], fun x hx => (List.not_mem_nil hx).elim, rfl⟩
  | i + 1, o, h => by
    rw [bfsN] at h
    split at h
    · rename_i hi
      rcases (mem_foldl_add _ _).1 h with h | h
      · exact bfsN_reach hv i o h
      · obtain ⟨x, hx, rfl⟩ := List.mem_map.1 h
        have hm : (bfsN d i).getD i 0 ∈ bfsN d i := by
          rw [List.getD_eq_getElem?_getD, List.getElem?_eq_getElem hi]; exact List.getElem_mem hi
        obtain ⟨w, hw, he⟩ := bfsN_reach hv i _ hm
        refine ⟨w ++ [x], fun y hy => ?_, by rw [runN_snoc, he]⟩
        rcases List.mem_append.1 hy with hy | hy
        · exact hw y hy
        · rw [List.mem_singleton.1 hy]; exact List.mem_range.1 hx
    · exact bfsN_reach hv i o h

theorem map_nodup {f : Nat → Nat} : ∀ {l : List Nat}, l.Nodup → (∀ a ∈ l, ∀ b ∈ l, f a = f b → a = b) → (l.map f).Nodup
  | [], _, _ => List.nodup_nil
  | a :: l, hn, hi => by
    obtain ⟨h1, h2⟩ := List.nodup_cons.1 hn
    rw [List.map_cons, List.nodup_cons]
    refine ⟨fun hm => ?_, map_nodup h2 fun x hx y hy => hi x (by simp [hx]) y (by simp [hy])⟩
    obtain ⟨y, hy, e⟩ := List.mem_map.1 hm
    have := hi a (by simp) y (by simp [hy]) e.symm
    exact h1 (this ▸ hy)

theorem full_length {n : Nat} {l : List Nat} (h : ∀ c, c < n → c ∈ l) : n ≤ l.length := by
  have h1 : ((List.range n).map fun c => ix c l).Nodup := map_nodup List.nodup_range fun a ha b hb e => ix_inj (h a (List.mem_range.1 ha)) (h b (List.mem_range.1 hb)) e
  have h2 := nodup_bound (n := l.length) h1 fun x hx => by
    obtain ⟨c, hc, rfl⟩ := List.mem_map.1 hx
    exact ix_lt (h c (List.mem_range.1 hc))
  simpa using h2

/-- In an automaton numbered anew each class is reached. -/
theorem renum_classes {d : DFA} (hv : Valid d) : (quoD (renum d)).next.length = (minD (renum d)).next.length := by
  have hR := renum_valid hv
  have hq := quoD_valid hR
  have hall : ∀ c, c < (quoD (renum d)).next.length → c ∈ order (quoD (renum d)) := by
    intro c hc
    obtain ⟨i, hi, hic, _, _⟩ := quoD_at hR hc
    have hio : i < (order d).length := by simpa [renum] using hi
    obtain ⟨w, hw, he⟩ := bfsN_reach hv d.next.length (order d)[i] (List.getElem_mem hio)
    have hwR : Wd (renum d) w := hw
    have h1 := renum_run hv (start_mem hv) w hw
    rw [start_ix hv, he] at h1
    have hnd : (order d).Nodup := (bfsN_ok hv _).1
    have hix : ix (order d)[i] (order d) = i := by
      have g := ix_get (List.getElem_mem hio)
      exact (List.getElem_inj (h₀ := ix_lt (List.getElem_mem hio)) (h₁ := hio) hnd).1 (Option.some.inj (by rw [← List.getElem?_eq_getElem, g]))
    rw [hix] at h1
    have h2 := quoD_run hR (start_lt hR) w hwR
    have h3 := order_run hq (start_mem hq) w hwR
    rw [quoD_start, h2] at h3
    have h4 : runN (renum d) (renum d).start.toNat w = i := h1
    rw [h4, hic] at h3
    exact h3
  have h1 := full_length hall
  have h2 := order_len hq
  show _ = (renum (quoD (renum d))).next.length
  simp only [renum, List.length_map]
  exact Nat.le_antisymm h1 h2

theorem minD_renum {d : DFA} (hv : Valid d) : minD (renum d) = minD d := minD_unique (renum_valid hv) hv rfl fun w hw => renum_acc hv hw
theorem minD_min {d : DFA} (hv : Valid d) : minD (minD d) = minD d := minD_unique (minD_valid hv) hv rfl fun w hw => minD_acc hv hw

theorem minV_valid {d : DFA} (hv : Valid d) : minV d = minD d := by unfold minV; rw [if_pos (checkD_zero.2 hv)]

/-- How many classes the numbers say there are. -/
theorem can_step {l : List Nat} (hc : nrm l = l) {s : Nat} (hs : s < l.length) : (dd (l.take (s + 1))).length = max (dd (l.take s)).length (l[s] + 1) := by
  have hg := List.getElem?_eq_getElem hs
  have hck : l[s] = ix l[s] (dd l) := by
    have h2 := nrm_get hg
    rw [hc, hg] at h2
    exact Option.some.inj h2
  have hpre : ∀ k, dd (l.take k) <+: dd l := fun k => by
    conv => rhs; rw [← List.take_append_drop k l]
    rw [dd_append]; exact foldl_prefix _ _
  by_cases hm : l[s] ∈ l.take s
  · rw [List.take_succ_eq_append_getElem hs, dd_mem_snoc hm]
    have h1 := ix_lt (mem_dd.2 hm)
    rw [← ix_prefix (hpre s) (mem_dd.2 hm), ← hck] at h1
    omega
  · have h1 : l[s] ∈ dd (l.take (s + 1)) := mem_dd.2 (by rw [List.take_succ_eq_append_getElem hs]; exact List.mem_append_right _ (List.mem_singleton.2 rfl))
    have h2 : ix l[s] (dd (l.take (s + 1))) = (dd (l.take s)).length := by
      rw [List.take_succ_eq_append_getElem hs, dd_new_snoc hm, ix_append_right (fun h => hm (mem_dd.1 h))]; simp [ix]
    rw [← ix_prefix (hpre (s + 1)) h1, ← hck] at h2
    rw [List.take_succ_eq_append_getElem hs, dd_new_snoc hm, List.length_append, List.length_singleton]
    omega

theorem words_many {d : DFA} (hv : Valid d) : (dd (rndsV (renum d) (renum d).next.length)).length = (minD d).next.length := by
  have hR := renum_valid hv
  rw [rndsV_eq hR, show (((renum d).next.length : Nat) : Int).toNat = (renum d).next.length by omega, ← quo_len (itF_length (renum d) _) (itF_can _ _), ← minD_renum hv, ← renum_classes hv]
  rfl

theorem runE_min {d : DFA} (hv : Valid d) (w : List Nat) : runE (minD d) w = runE d w := by
  unfold runE
  rw [checkD_zero.2 hv, checkD_zero.2 (minD_valid hv)]
  rfl

theorem accV_min {d : DFA} (hv : Valid d) (w : List Nat) : accV (minD d) w = accV d w := by
  unfold accV
  rw [runE_min hv]
  by_cases h : runE d w = 0
  · rw [if_pos h, if_pos h]
    exact minD_acc hv (runE_zero.1 h).2.2
  · rw [if_neg h, if_neg h]

end Go.Lx
