/- The least telling word, letter by letter. -/
import Derived.Test.YthfemndklplpbaaDoorLaw2
set_option linter.unusedSectionVars false
set_option linter.unusedSimpArgs false
set_option linter.unusedVariables false
set_option linter.unnecessarySimpa false
namespace Go.Lx
set_option linter.unusedVariables false

theorem code_cons : ∀ (v : List Nat) (x : Nat), code (x :: v) = (x + 1) * 65 ^ v.length + code v := by
  refine snocInd (fun x => by simp [code]) ?_
  intro v y ih x
  rw [show x :: (v ++ [y]) = (x :: v) ++ [y] from rfl, code_snoc, code_snoc, ih x, List.length_append, List.length_singleton, Nat.pow_succ, ← Nat.mul_assoc, Nat.add_mul]
  omega

theorem code_bound : ∀ (v : List Nat), (∀ x ∈ v, x < 64) → code v < 65 ^ v.length := by
  refine snocInd (fun _ => by simp [code]) ?_
  intro v y ih h
  have h1 := ih fun x hx => h x (by simp [hx])
  have h2 := h y (by simp)
  rw [code_snoc, List.length_append, List.length_singleton, Nat.pow_succ]
  omega

theorem code_lt_head {x y : Nat} {v u : List Nat} (hl : v.length = u.length) (hv : ∀ z ∈ v, z < 64) (h : x < y) : code (x :: v) < code (y :: u) := by
  rw [code_cons, code_cons, ← hl]
  have h1 := code_bound v hv
  have h2 := Nat.mul_le_mul_right (65 ^ v.length) (show x + 1 + 1 ≤ y + 1 by omega)
  rw [Nat.add_mul (x + 1) 1, Nat.one_mul] at h2
  omega

theorem dif_stab {d : DFA} (hv : Valid d) {s t : Nat} (hs : s < d.next.length) (ht : t < d.next.length) (m : Nat) (h : ∀ j, j ≤ d.next.length → dif d j s t = false) : dif d m s t = false := by
  by_cases hm : m ≤ d.next.length
  · exact h m hm
  · have h1 := (itF_iff hv d.next.length s t hs ht).2 (h _ (Nat.le_refl _))
    rw [← itF_iff hv m s t hs ht, itF_stab hv m (by omega)]
    exact h1

theorem tell_none {d : DFA} (hv : Valid d) {s t : Nat} (hs : s < d.next.length) (ht : t < d.next.length) (h : ∀ j, j ≤ d.next.length → dif d j s t = false) : Tell d s t none := by
  intro u hu hd
  have := dif_stab hv hs ht u.length h
  rw [(dif_iff d u.length s t).2 ⟨u, hu, Nat.le_refl _, hd⟩] at this
  cases this

theorem least_nil {d : DFA} {a b : Nat} (h : dif d 0 a b = true) : IsLeast d a b [] := by
  refine ⟨fun x hx => by simp at hx, ?_, fun u _ _ => by simp [code]⟩
  simpa [dif, dst, runN] using h

theorem least_cons {d : DFA} (hv : Valid d) {a b k x : Nat} (hno : ∀ j, j < k + 1 → dif d j a b = false) (hx : x < letN d) (hxd : dif d k (toN d a x) (toN d b x) = true)
    (hmin : ∀ y, y < x → dif d k (toN d a y) (toN d b y) = false) {v : List Nat} (h : IsLeast d (toN d a x) (toN d b x) v) : IsLeast d a b (x :: v) := by
  have hw64 := hv.width
  have hvl : v.length ≤ k := by
    obtain ⟨u, h1, h2, h3⟩ := (dif_iff d k _ _).1 hxd
    have := code_len v u (hv.wd64 h.wd) (hv.wd64 h1) (h.le u h1 h3)
    omega
  have hwd : Wd d (x :: v) := fun y hy => by
    rcases List.mem_cons.1 hy with rfl | hy
    · exact hx
    · exact h.wd y hy
  have long : ∀ u, Wd d u → dst d a b u → k < u.length := fun u hu hd => by
    rcases Nat.lt_or_ge k u.length with h | h
    · exact h
    · have := hno u.length (by omega)
      rw [(dif_iff d u.length a b).2 ⟨u, hu, Nat.le_refl _, hd⟩] at this
      cases this
  have hd : dst d a b (x :: v) := h.dst
  have hvk : v.length = k := by have := long _ hwd hd; simp at this; omega
  refine ⟨hwd, hd, fun u hu hud => ?_⟩
  have hul := long u hu hud
  by_cases e : u.length = k + 1
  · cases u with
    | nil => simp at e
    | cons y u =>
      have hul2 : u.length = k := by simpa using e
      have hud2 : dst d (toN d a y) (toN d b y) u := hud
      have hu2 : Wd d u := fun z hz => hu z (by simp [hz])
      have hyd : dif d k (toN d a y) (toN d b y) = true := (dif_iff d k _ _).2 ⟨u, hu2, by omega, hud2⟩
      rcases Nat.lt_trichotomy x y with hxy | hxy | hxy
      · exact Nat.le_of_lt (code_lt_head (by omega) (hv.wd64 h.wd) hxy)
      · subst hxy
        rw [code_cons, code_cons, hvk, hul2]
        have := h.le u hu2 hud2
        omega
      · rw [hmin y hxy] at hyd; cases hyd
  · rcases Nat.lt_or_ge (code u) (code (x :: v)) with hc | hc
    · have := code_len u (x :: v) (hv.wd64 hu) (hv.wd64 hwd) (Nat.le_of_lt hc)
      simp at this; omega
    · exact hc

/-- A letter with which the pair's successors are told apart by one letter less. -/
theorem dif_letter {d : DFA} {a b k : Nat} (h : dif d (k + 1) a b = true) (hno : dif d k a b = false) : ∃ x, x < letN d ∧ dif d k (toN d a x) (toN d b x) = true := by
  rw [dif, hno, Bool.false_or, List.any_eq_true] at h
  obtain ⟨x, hx, hd⟩ := h
  exact ⟨x, List.mem_range.1 hx, hd⟩

theorem dif_no_prev {d : DFA} (hv : Valid d) {a b k x : Nat} (hno : ∀ j, j < k + 1 → dif d j a b = false) (hx : x < letN d) : ∀ j, j < k → dif d j (toN d a x) (toN d b x) = false := by
  intro j hj
  rw [← Bool.not_eq_true]
  intro h
  have := hno (j + 1) (by omega)
  rw [dif, Bool.or_eq_false_iff] at this
  have h2 := this.2
  rw [List.any_eq_false] at h2
  exact h2 x (List.mem_range.2 hx) h

end Go.Lx
