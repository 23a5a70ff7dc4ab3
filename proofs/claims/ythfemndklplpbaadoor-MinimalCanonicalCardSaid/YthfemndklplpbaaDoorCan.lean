/- The disjoint union of two automata. -/
import Derived.Test.YthfemndklplpbaaDoorDct
set_option linter.unusedSectionVars false
set_option linter.unusedSimpArgs false
set_option linter.unusedVariables false
set_option linter.unnecessarySimpa false
namespace Go.Lx
set_option linter.unusedVariables false

/-- The disjoint union: the second's states behind the first's. -/
def both (a b : DFA) : DFA := ⟨a.vars, a.start, a.next ++ b.next.map fun r => r.map fun x => (a.next.length : Int) + x, a.final ++ b.final⟩

/-- .. with the first k rows of the second. -/
def bothN (a b : DFA) (k : Nat) : DFA := ⟨a.vars, a.start, a.next ++ (b.next.take k).map fun r => r.map fun x => (a.next.length : Int) + x, a.final ++ b.final.take k⟩

theorem bothN_full {a b : DFA} (hb : Valid b) : bothN a b b.next.length = both a b := by
  unfold bothN both
  rw [List.take_of_length_le (Nat.le_refl _), List.take_of_length_le (by rw [hb.fin]; exact Nat.le_refl _)]

theorem both_len (a b : DFA) : (both a b).next.length = a.next.length + b.next.length := by simp [both]

theorem both_valid {a b : DFA} (ha : Valid a) (hb : Valid b) (hv : a.vars = b.vars) (hn : a.next.length + b.next.length ≤ 4096) : Valid (both a b) := by
  refine ⟨ha.v0, ha.v6, ?_, ?_, ?_, ha.s0, ?_, ?_, ?_⟩
  · rw [both_len]; have := ha.n0; omega
  · rw [both_len]; exact hn
  · rw [both_len]; show (a.final ++ b.final).length = _; rw [List.length_append, ha.fin, hb.fin]
  · rw [both_len]; show a.start < _; have := ha.s1; omega
  · intro r hr
    rcases List.mem_append.1 hr with hr | hr
    · exact ha.len r hr
    · obtain ⟨r', hr', rfl⟩ := List.mem_map.1 hr
      rw [List.length_map, hb.len r' hr']
      show 2 ^ b.vars.toNat = 2 ^ a.vars.toNat
      rw [hv]
  · intro r hr x hx
    rw [both_len]
    rcases List.mem_append.1 hr with hr | hr
    · have := ha.ok r hr x hx; omega
    · obtain ⟨r', hr', rfl⟩ := List.mem_map.1 hr
      obtain ⟨y, hy, rfl⟩ := List.mem_map.1 hx
      have := hb.ok r' hr' y hy
      omega

theorem both_left {a b : DFA} (ha : Valid a) {s : Nat} (hs : s < a.next.length) : finN (both a b) s = finN a s ∧ ∀ x, x < letN a → toN (both a b) s x = toN a s x := by
  have hf : s < a.final.length := by rw [ha.fin]; exact hs
  refine ⟨?_, fun x hx => ?_⟩
  · show (a.final ++ b.final).getD s false = _
    rw [List.getD_eq_getElem?_getD, List.getElem?_append_left hf, finN, List.getD_eq_getElem?_getD]
  · have e : (both a b).next.getD s [] = a.next.getD s [] := by
      show (a.next ++ _).getD s [] = _
      simp [List.getD_eq_getElem?_getD, List.getElem?_append_left hs]
    unfold toN
    rw [e]

theorem both_right {a b : DFA} (ha : Valid a) (hb : Valid b) (hv : a.vars = b.vars) {t : Nat} (ht : t < b.next.length) : finN (both a b) (a.next.length + t) = finN b t ∧ ∀ x, x < letN a → toN (both a b) (a.next.length + t) x = a.next.length + toN b t x := by
  refine ⟨?_, fun x hx => ?_⟩
  · show (a.final ++ b.final).getD _ false = _
    rw [List.getD_eq_getElem?_getD, List.getElem?_append_right (by rw [ha.fin]; omega), ha.fin, finN, List.getD_eq_getElem?_getD, Nat.add_sub_cancel_left]
  · have hxb : x < letN b := by unfold letN at *; rw [← hv]; exact hx
    have hl : b.next[t].length = letN b := hb.len _ (List.getElem_mem ht)
    have hx' : x < b.next[t].length := by omega
    have hok := hb.ok _ (List.getElem_mem ht) _ (List.getElem_mem hx')
    have e : (both a b).next.getD (a.next.length + t) [] = b.next[t].map fun x => (a.next.length : Int) + x := by
      show (a.next ++ _).getD _ [] = _
      rw [List.getD_eq_getElem?_getD, List.getElem?_append_right (by omega), Nat.add_sub_cancel_left]
      simp [ht]
    unfold toN
    rw [e]
    simp [ht, hx', List.getD_eq_getElem?_getD]
    omega

theorem both_runL {a b : DFA} (ha : Valid a) {s : Nat} (hs : s < a.next.length) : ∀ w, Wd a w → runN (both a b) s w = runN a s w := by
  refine snocInd (fun _ => rfl) ?_
  intro w x ih hw
  have hw' : Wd a w := fun y hy => hw y (by simp [hy])
  rw [runN_snoc, runN_snoc, ih hw', (both_left ha (runN_lt ha hs w hw')).2 x (hw x (by simp))]

theorem both_runR {a b : DFA} (ha : Valid a) (hb : Valid b) (hv : a.vars = b.vars) {t : Nat} (ht : t < b.next.length) : ∀ w, Wd a w → runN (both a b) (a.next.length + t) w = a.next.length + runN b t w := by
  refine snocInd (fun _ => rfl) ?_
  intro w x ih hw
  have hw' : Wd a w := fun y hy => hw y (by simp [hy])
  have hwb : Wd b w := fun y hy => by have := hw' y hy; unfold letN at *; rw [← hv]; exact this
  rw [runN_snoc, runN_snoc, ih hw', (both_right ha hb hv (runN_lt hb ht w hwb)).2 x (hw x (by simp))]

/-- A word tells the two starts apart exactly if one automaton alone accepts it. -/
theorem both_dst {a b : DFA} (ha : Valid a) (hb : Valid b) (hv : a.vars = b.vars) {w : List Nat} (hw : Wd a w) : dst (both a b) a.start.toNat (a.next.length + b.start.toNat) w ↔ acc a w ≠ acc b w := by
  have hwb : Wd b w := fun y hy => by have := hw y hy; unfold letN at *; rw [← hv]; exact this
  unfold dst acc
  rw [both_runL ha (start_lt ha) w hw, both_runR ha hb hv (start_lt hb) w hw, (both_left ha (runN_lt ha (start_lt ha) w hw)).1, (both_right ha hb hv (runN_lt hb (start_lt hb) w hwb)).1]

theorem both_tell {a b : DFA} (ha : Valid a) (hb : Valid b) (hv : a.vars = b.vars) {res : Option (List Nat)} (h : Tell (both a b) a.start.toNat (a.next.length + b.start.toNat) res) : res.isSome = true ↔ minD a ≠ minD b := by
  have hwd : ∀ w, Wd a w → Wd b w := fun w hw y hy => by have := hw y hy; unfold letN at *; rw [← hv]; exact this
  cases res with
  | some u =>
    have h : IsLeast (both a b) a.start.toNat (a.next.length + b.start.toNat) u := h
    refine ⟨fun _ e => ?_, fun _ => rfl⟩
    have hu : Wd a u := h.wd
    have hd := (both_dst ha hb hv hu).1 h.dst
    rw [← minD_acc ha hu, ← minD_acc hb (hwd u hu), e] at hd
    exact hd rfl
  | none =>
    refine ⟨fun h => absurd h (by simp), fun hne => ?_⟩
    exfalso
    apply hne
    refine minD_unique ha hb hv fun w hw => ?_
    have hn := (show ∀ u, Wd (both a b) u → ¬ dst (both a b) a.start.toNat (a.next.length + b.start.toNat) u from h) w hw
    rw [both_dst ha hb hv hw] at hn
    exact Classical.not_not.1 hn

theorem bothN_next {a b : DFA} {k : Nat} (hk : k < b.next.length) : (bothN a b (k + 1)).next = (bothN a b k).next ++ [b.next[k].map fun x => (a.next.length : Int) + x] := by
  show a.next ++ _ = (a.next ++ _) ++ _
  rw [List.take_succ_eq_append_getElem hk, List.map_append, List.append_assoc]; rfl
theorem bothN_final {a b : DFA} {k : Nat} (hk : k < b.final.length) : (bothN a b (k + 1)).final = (bothN a b k).final ++ [b.final[k]] := by
  show a.final ++ _ = (a.final ++ _) ++ _
  rw [List.take_succ_eq_append_getElem hk, List.append_assoc]
theorem accV_zero {d : DFA} {w : List Nat} (h : runE d w = 0) : accV d w = acc d w := by unfold accV acc; rw [if_pos h]
theorem both_runE {a b : DFA} (ha : Valid a) (hb : Valid b) (hv : a.vars = b.vars) (w : List Nat) : runE a w = runE b w := by
  unfold runE
  rw [checkD_zero.2 ha, checkD_zero.2 hb, hv]

end Go.Lx
