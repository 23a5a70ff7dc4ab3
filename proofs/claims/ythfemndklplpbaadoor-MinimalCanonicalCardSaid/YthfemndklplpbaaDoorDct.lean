/- Two states of a minimal automaton are told apart, by a word with fewer letters than there are states. -/
import Derived.Test.YthfemndklplpbaaDoorWrd2
set_option linter.unusedSectionVars false
set_option linter.unusedSimpArgs false
set_option linter.unusedVariables false
set_option linter.unnecessarySimpa false
namespace Go.Lx
set_option linter.unusedVariables false

/-- The automaton with another start. -/
def withS (d : DFA) (s : Int) : DFA := ⟨d.vars, s, d.next, d.final⟩

theorem withS_valid {d : DFA} (hv : Valid d) {s : Nat} (hs : s < d.next.length) : Valid (withS d (s : Int)) :=
  ⟨hv.v0, hv.v6, hv.n0, hv.n4, hv.fin, Int.natCast_nonneg _, show ((s : Nat) : Int) < (d.next.length : Int) by omega, hv.len, hv.ok⟩

theorem withS_acc {d : DFA} (hv : Valid d) {s : Nat} (hs : s < d.next.length) {w : List Nat} (h : runE (withS d (s : Int)) w = 0) : accV (withS d (s : Int)) w = finN d (runN d s w) := by
  unfold accV
  rw [if_pos h]; rfl

theorem withS_runE {d : DFA} (hv : Valid d) {s t : Nat} (hs : s < d.next.length) (ht : t < d.next.length) (w : List Nat) : runE (withS d (s : Int)) w = runE (withS d (t : Int)) w := by
  unfold runE
  rw [checkD_zero.2 (withS_valid hv hs), checkD_zero.2 (withS_valid hv ht)]
  rfl

/-- The classes are reached one round earlier. -/
theorem dif_short {d : DFA} (hv : Valid d) {s t : Nat} (hs : s < d.next.length) (ht : t < d.next.length) (m : Nat) (h : dif d m s t = true) : dif d (d.next.length - 1) s t = true := by
  have hn := hv.n0
  have key : itF d (d.next.length - 1) = itF d d.next.length := by
    rcases itF_grow hv (d.next.length - 1) with ⟨j, hj, h⟩ | h
    · have hst : refineF d (itF d j) = itF d j := by rw [← itF]; exact h
      rw [itF_stable hst _ (show j ≤ d.next.length - 1 by omega), itF_stable hst _ (show j ≤ d.next.length by omega)]
    · obtain ⟨h1, h2⟩ := clsN_step hv (d.next.length - 1)
      have h3 := clsN_le d (d.next.length - 1 + 1)
      have h4 := h2 (by omega)
      rw [show d.next.length - 1 + 1 = d.next.length by omega] at h4
      exact h4.symm
  rcases Bool.eq_false_or_eq_true (dif d (d.next.length - 1) s t) with hh | hh
  · exact hh
  · rw [← itF_iff hv _ s t hs ht, key] at hh
    have h5 : dif d (max m d.next.length) s t = true := dif_mono (by omega) h
    have h6 := (itF_iff hv (max m d.next.length) s t hs ht).1 (by rw [itF_stab hv _ (by omega)]; exact hh)
    rw [h6] at h5; cases h5

theorem Tell.lt {d : DFA} (hv : Valid d) {s t : Nat} (hs : s < d.next.length) (ht : t < d.next.length) {u : List Nat} (h : Tell d s t (some u)) : u.length < d.next.length := by
  have h : IsLeast d s t u := h
  have hd := dif_short hv hs ht u.length ((dif_iff d _ s t).2 ⟨u, h.wd, Nat.le_refl _, h.dst⟩)
  obtain ⟨w, h1, h2, h3⟩ := (dif_iff d _ s t).1 hd
  have := code_len u w (hv.wd64 h.wd) (hv.wd64 h1) (h.le w h1 h3)
  have := hv.n0
  omega

/-- Different states of a minimal automaton are told apart. -/
theorem minD_apart {d : DFA} (hv : Valid d) {p q : Nat} (hp : p < (minD d).next.length) (hq : q < (minD d).next.length) {res : Option (List Nat)} (h : Tell (minD d) p q res) : res.isSome = true ↔ p ≠ q := by
  have hQ := quoD_valid hv
  have hpo : p < (order (quoD d)).length := by simpa [minD, renum, quoD] using hp
  have hqo : q < (order (quoD d)).length := by simpa [minD, renum, quoD] using hq
  constructor
  · intro hs e
    subst e
    cases res with
    | none => cases hs
    | some u => exact (show IsLeast (minD d) p p u from h).dst rfl
  · intro hne
    cases res with
    | some u => rfl
    | none =>
      exfalso
      have hnd : (order (quoD d)).Nodup := (bfsN_ok hQ _).1
      have hix : ∀ i (hi : i < (order (quoD d)).length), ix (order (quoD d))[i] (order (quoD d)) = i := fun i hi => by
        have g := ix_get (List.getElem_mem hi)
        exact (List.getElem_inj (h₀ := ix_lt (List.getElem_mem hi)) (h₁ := hi) hnd).1 (Option.some.inj (by rw [← List.getElem?_eq_getElem, g]))
      obtain ⟨a, ha, hac, _, _⟩ := quoD_at hv (order_lt hQ _ (List.getElem_mem hpo))
      obtain ⟨b, hb, hbc, _, _⟩ := quoD_at hv (order_lt hQ _ (List.getElem_mem hqo))
      have hab : clsOf d a = clsOf d b := by
        rw [clsOf_iff hv ha hb]
        intro u hu hd
        have hn := (show ∀ u, Wd (minD d) u → ¬ dst (minD d) p q u from h) u hu
        apply hn
        have r1 := renum_run hQ (List.getElem_mem hpo) u hu
        have r2 := renum_run hQ (List.getElem_mem hqo) u hu
        rw [hix p hpo] at r1
        rw [hix q hqo] at r2
        unfold dst at *
        show finN (renum (quoD d)) (runN (renum (quoD d)) p u) ≠ finN (renum (quoD d)) (runN (renum (quoD d)) q u)
        rw [r1, r2, renum_fin (order_run hQ (List.getElem_mem hpo) u hu), renum_fin (order_run hQ (List.getElem_mem hqo) u hu), ← hac, ← hbc, quoD_run hv ha u hu, quoD_run hv hb u hu, quoD_fin hv (runN_lt hv ha u hu), quoD_fin hv (runN_lt hv hb u hu)]
        exact hd
      rw [hac, hbc] at hab
      exact hne ((List.getElem_inj (h₀ := hpo) (h₁ := hqo) hnd).1 hab)

theorem code_append : ∀ (v p : List Nat), code (p ++ v) = code p * 65 ^ v.length + code v := by
  intro v
  induction v with
  | nil => intro p; simp [code]
  | cons x v ih =>
    intro p
    rw [show p ++ x :: v = (p ++ [x]) ++ v by simp, ih, code_snoc, code_cons, List.length_cons, Nat.pow_succ, Nat.add_mul, Nat.mul_assoc (code p) 65, Nat.mul_comm 65, Nat.add_assoc]

theorem code_diff {xs ys : List Nat} {k : Nat} (hl : xs.length = ys.length) (hk : k < xs.length) (hk' : k < ys.length) (ht : xs.take k = ys.take k) (hy : ∀ y ∈ ys, y < 64) (h : ys[k] < xs[k]) : code ys < code xs := by
  have e1 : xs = xs.take k ++ xs[k] :: xs.drop (k + 1) := by rw [← List.drop_eq_getElem_cons hk, List.take_append_drop]
  have e2 : ys = ys.take k ++ ys[k] :: ys.drop (k + 1) := by rw [← List.drop_eq_getElem_cons hk', List.take_append_drop]
  rw [e1, e2, code_append, code_append, ht]
  have hll : (ys.drop (k + 1)).length = (xs.drop (k + 1)).length := by rw [List.length_drop, List.length_drop, hl]
  have := code_lt_head hll (fun z hz => hy z (List.mem_of_mem_drop hz)) h
  simp only [List.length_cons, hll]
  omega

end Go.Lx
