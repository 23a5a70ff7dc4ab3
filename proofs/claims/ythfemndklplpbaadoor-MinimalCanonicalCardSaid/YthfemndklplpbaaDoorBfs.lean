/- Words that tell two states apart, and the search for the least of them, in plain terms. -/
import Derived.Test.YthfemndklplpbaaDoorPart
set_option linter.unusedSectionVars false
set_option linter.unusedSimpArgs false
set_option linter.unusedVariables false
set_option linter.unnecessarySimpa false
namespace Go.Lx
set_option linter.unusedVariables false

theorem snocInd {α : Type} {p : List α → Prop} (h0 : p []) (h1 : ∀ l x, p l → p (l ++ [x])) : ∀ l, p l := fun l => by
  rw [← List.reverse_reverse l]
  generalize l.reverse = m
  induction m with
  | nil => exact h0
  | cons a m ih => rw [List.reverse_cons]; exact h1 _ _ ih

/-- The number of letters. -/
abbrev letN (d : DFA) : Nat := 2 ^ d.vars.toNat
def runN (d : DFA) (s : Nat) (w : List Nat) : Nat := w.foldl (toN d) s
def finN (d : DFA) (s : Nat) : Bool := d.final.getD s false
/-- w tells s and t apart. -/
def dst (d : DFA) (s t : Nat) (w : List Nat) : Prop := finN d (runN d s w) ≠ finN d (runN d t w)
def Wd (d : DFA) (w : List Nat) : Prop := ∀ x ∈ w, x < letN d

/-- Shorter words first, words of one length by letters. -/
def code (w : List Nat) : Nat := w.foldl (fun a x => a * 65 + (x + 1)) 0

theorem code_snoc (w : List Nat) (x : Nat) : code (w ++ [x]) = code w * 65 + (x + 1) := by simp [code]
theorem runN_snoc (d : DFA) (s : Nat) (w : List Nat) (x : Nat) : runN d s (w ++ [x]) = toN d (runN d s w) x := by simp [runN]

theorem code_inj : ∀ (w u : List Nat), (∀ x ∈ w, x < 64) → (∀ x ∈ u, x < 64) → code w = code u → w = u := by
  refine snocInd ?_ ?_
  · refine snocInd (fun _ _ _ => rfl) ?_
    intro u y _ _ _ h
    rw [code_snoc] at h
    exact absurd h (by simp [code])
  · intro w x ih
    refine snocInd ?_ ?_
    · intro _ _ h
      rw [code_snoc] at h
      exact absurd h (by simp [code])
    · intro u y _ hw hu h
      rw [code_snoc, code_snoc] at h
      have hx := hw x (by simp)
      have hy := hu y (by simp)
      have e : x = y := by omega
      have := ih u (fun z hz => hw z (by simp [hz])) (fun z hz => hu z (by simp [hz])) (by omega)
      rw [this, e]

theorem code_len : ∀ (w u : List Nat), (∀ x ∈ w, x < 64) → (∀ x ∈ u, x < 64) → code w ≤ code u → w.length ≤ u.length := by
  refine snocInd (fun u _ _ _ => by simp) ?_
  intro w x ih
  refine snocInd ?_ ?_
  · intro _ _ h
    rw [code_snoc] at h
    simp [code] at h
  · intro u y _ hw hu h
    rw [code_snoc, code_snoc] at h
    have hx := hw x (by simp)
    have hy := hu y (by simp)
    have := ih u (fun z hz => hw z (by simp [hz])) (fun z hz => hu z (by simp [hz])) (by omega)
    simpa using this

/-- The least word that tells s and t apart. -/
structure IsLeast (d : DFA) (s t : Nat) (w : List Nat) : Prop where
  wd : Wd d w
  dst : dst d s t w
  le : ∀ u, Wd d u → Lx.dst d s t u → code w ≤ code u

/-- What Distinguish finds. -/
def Tell (d : DFA) (s t : Nat) : Option (List Nat) → Prop
  | some w => IsLeast d s t w
  | none => ∀ u, Wd d u → ¬ dst d s t u

theorem Valid.wd64 {d : DFA} (hv : Valid d) {w : List Nat} (h : Wd d w) : ∀ x ∈ w, x < 64 := fun x hx => by
  have := h x hx; have := hv.width; unfold letN at *; omega

theorem Tell.unique {d : DFA} (hv : Valid d) {s t : Nat} {a b : Option (List Nat)} (ha : Tell d s t a) (hb : Tell d s t b) : a = b := by
  cases a with
  | none =>
    cases b with
    | none => rfl
    | some w => exact absurd hb.dst (ha w hb.wd)
  | some u =>
    cases b with
    | none => exact absurd ha.dst (hb u ha.wd)
    | some w =>
      have h1 := ha.le w hb.wd hb.dst
      have h2 := hb.le u ha.wd ha.dst
      rw [code_inj u w (hv.wd64 ha.wd) (hv.wd64 hb.wd) (by omega)]

/-! ### the search -/

abbrev Stp := (Nat × Nat) × List Nat
def suc2 (d : DFA) (p : Nat × Nat) (x : Nat) : Nat × Nat := (toN d p.1 x, toN d p.2 x)
/-- A pair is noted, with its word, if it is new. -/
def pushS (d : DFA) (q : Stp) (a : List Stp) (x : Nat) : List Stp := if suc2 d q.1 x ∈ a.map Prod.fst then a else a ++ [(suc2 d q.1 x, q.2 ++ [x])]
def pushN (d : DFA) (q : Stp) (a : List Stp) : Nat → List Stp
  | 0 => a
  | x + 1 => pushS d q (pushN d q a x) x
/-- The steps queued after i of them have been looked at. -/
def bq (d : DFA) (s t : Nat) : Nat → List Stp
  | 0 => [((s, t), [])]
  | i + 1 => pushN d ((bq d s t i).getD i ((0, 0), [])) (bq d s t i) (letN d)

structure BfsI (d : DFA) (s t i : Nat) (A : List Stp) : Prop where
  run : ∀ q ∈ A, Wd d q.2 ∧ q.1 = (runN d s q.2, runN d t q.2)
  mono : ∀ (j k : Nat) (qj qk : Stp), j < k → A[j]? = some qj → A[k]? = some qk → code qj.2 < code qk.2
  nd : (A.map Prod.fst).Nodup
  suc : ∀ j q, j < i → A[j]? = some q → ∀ x, x < letN d → ∃ q' ∈ A, q'.1 = suc2 d q.1 x ∧ code q'.2 ≤ code q.2 * 65 + (x + 1)
  top : ∀ q, A[i]? = some q → ∀ q' ∈ A, code q'.2 < code q.2 * 65 + 1
  first : ∃ q, A[0]? = some q ∧ q.1 = (s, t) ∧ q.2 = []

theorem BfsI.zero (d : DFA) (s t : Nat) : BfsI d s t 0 (bq d s t 0) := by
  refine ⟨?_, ?_, by simp [bq], fun j q h => absurd h (by omega), ?_, ⟨_, rfl, rfl, rfl⟩⟩
  · intro q hq
    simp only [bq, List.mem_singleton] at hq
    subst hq
    exact ⟨fun x hx => by simp at hx, rfl⟩
  · intro j k qj qk hjk _ hk
    simp only [bq] at hk
    have : k = 0 := by
      cases k with
      | zero => rfl
      | succ k => simp at hk
    omega
  · intro q hq q' hq'
    simp only [bq, List.mem_singleton] at hq'
    subst hq'
    simp [code]

structure BfsM (d : DFA) (s t i : Nat) (q : Stp) (x : Nat) (A : List Stp) : Prop where
  run : ∀ q ∈ A, Wd d q.2 ∧ q.1 = (runN d s q.2, runN d t q.2)
  mono : ∀ (j k : Nat) (qj qk : Stp), j < k → A[j]? = some qj → A[k]? = some qk → code qj.2 < code qk.2
  nd : (A.map Prod.fst).Nodup
  suc : ∀ j q, j < i → A[j]? = some q → ∀ x, x < letN d → ∃ q' ∈ A, q'.1 = suc2 d q.1 x ∧ code q'.2 ≤ code q.2 * 65 + (x + 1)
  suci : ∀ y, y < x → ∃ q' ∈ A, q'.1 = suc2 d q.1 y ∧ code q'.2 ≤ code q.2 * 65 + (y + 1)
  top : ∀ q' ∈ A, code q'.2 < code q.2 * 65 + (x + 1)
  at_ : A[i]? = some q
  first : ∃ q, A[0]? = some q ∧ q.1 = (s, t) ∧ q.2 = []

theorem BfsM.step {d : DFA} {s t i : Nat} {q : Stp} {x : Nat} {A : List Stp} (h : BfsM d s t i q x A) (hx : x < letN d) : BfsM d s t i q (x + 1) (pushS d q A x) := by
  have hq := List.mem_of_getElem? h.at_
  unfold pushS
  split
  · rename_i hin
    obtain ⟨q', hq', e⟩ := List.mem_map.1 hin
    refine ⟨h.run, h.mono, h.nd, h.suc, fun y hy => ?_, fun q' hq' => by have := h.top q' hq'; omega, h.at_, h.first⟩
    by_cases ey : y = x
    · subst ey; exact ⟨q', hq', e, by have := h.top q' hq'; omega⟩
    · exact h.suci y (by omega)
  · rename_i hout
    have hil : i < A.length := by have := List.getElem?_eq_some_iff.1 h.at_; exact this.1
    refine ⟨?_, ?_, ?_, ?_, ?_, ?_, ?_, ?_⟩
    · intro p hp
      rcases List.mem_append.1 hp with hp | hp
      · exact h.run p hp
      · simp only [List.mem_singleton] at hp
        subst hp
        obtain ⟨h1, h2⟩ := h.run q hq
        refine ⟨?_, ?_⟩
        · intro y hy
          rcases List.mem_append.1 hy with hy | hy
          · exact h1 y hy
          · simp only [List.mem_singleton] at hy; subst hy; exact hx
        · rw [runN_snoc, runN_snoc]; simp only [suc2, h2]
    · intro j k qj qk hjk hj hk
      by_cases ek : k < A.length
      · rw [List.getElem?_append_left (by omega)] at hj
        rw [List.getElem?_append_left ek] at hk
        exact h.mono j k qj qk hjk hj hk
      · rw [List.getElem?_append_right (by omega)] at hk
        have ek0 : k - A.length = 0 := by
          cases e : k - A.length with
          | zero => rfl
          | succ m => rw [e] at hk; simp at hk
        rw [ek0] at hk
        simp at hk
        subst hk
        rw [List.getElem?_append_left (by omega)] at hj
        show code qj.2 < code (q.2 ++ [x])
        rw [code_snoc]
        exact h.top qj (List.mem_of_getElem? hj)
    · rw [List.map_append, List.nodup_append]
      refine ⟨h.nd, by simp, fun a ha b hb e => ?_⟩
      simp at hb; subst hb; subst e; exact hout ha
    · intro j qj hj hq x hx
      rw [List.getElem?_append_left (by omega)] at hq
      obtain ⟨q', h1, h2⟩ := h.suc j qj hj hq x hx
      exact ⟨q', List.mem_append_left _ h1, h2⟩
    · intro y hy
      by_cases ey : y = x
      · subst ey; exact ⟨_, List.mem_append_right _ (List.mem_singleton.2 rfl), rfl, by rw [code_snoc]; exact Nat.le_refl _⟩
      · obtain ⟨q', h1, h2⟩ := h.suci y (by omega)
        exact ⟨q', List.mem_append_left _ h1, h2⟩
    · intro p hp
      rcases List.mem_append.1 hp with hp | hp
      · have := h.top p hp; omega
      · simp only [List.mem_singleton] at hp
        subst hp
        rw [code_snoc]; omega
    · rw [List.getElem?_append_left hil]; exact h.at_
    · obtain ⟨q0, h1, h2⟩ := h.first
      exact ⟨q0, by rw [List.getElem?_append_left (by omega)]; exact h1, h2⟩

theorem BfsI.mid {d : DFA} {s t i : Nat} {q : Stp} {A : List Stp} (h : BfsI d s t i A) (hq : A[i]? = some q) : ∀ x, x ≤ letN d → BfsM d s t i q x (pushN d q A x)
  | 0, _ => ⟨h.run, h.mono, h.nd, h.suc, fun y hy => absurd hy (by omega), h.top q hq, hq, h.first⟩
  | x + 1, hx => (BfsI.mid h hq x (by omega)).step (by omega)

theorem BfsI.step {d : DFA} (hv : Valid d) {s t i : Nat} {q : Stp} (h : BfsI d s t i (bq d s t i)) (hq : (bq d s t i)[i]? = some q) : BfsI d s t (i + 1) (bq d s t (i + 1)) := by
  have hm := h.mid hq (letN d) (Nat.le_refl _)
  have e : bq d s t (i + 1) = pushN d q (bq d s t i) (letN d) := by
    rw [bq, List.getD_eq_getElem?_getD, hq]; rfl
  rw [e]
  have hw := hv.width
  refine ⟨hm.run, hm.mono, hm.nd, ?_, ?_, hm.first⟩
  · intro j qj hj hqj x hx
    by_cases ej : j = i
    · subst ej
      rw [hm.at_] at hqj
      cases hqj
      exact hm.suci x hx
    · exact hm.suc j qj (by omega) hqj x hx
  · intro q2 hq2 q' hq'
    have h1 := hm.mono i (i + 1) q q2 (by omega) hm.at_ hq2
    have h2 := hm.top q' hq'
    have h3 : letN d ≤ 64 := hw
    omega

/-- What the loop of Distinguish answers. -/
def BfsR (d : DFA) (s t : Nat) (res : Option (List Nat)) : Prop :=
  ∃ i, (∀ j, j < i → ∃ q, (bq d s t j)[j]? = some q ∧ finN d q.1.1 = finN d q.1.2) ∧
    match res with
    | some w => ∃ q, (bq d s t i)[i]? = some q ∧ finN d q.1.1 ≠ finN d q.1.2 ∧ q.2 = w
    | none => (bq d s t i).length ≤ i

theorem bq_inv {d : DFA} (hv : Valid d) {s t : Nat} : ∀ i, (∀ j, j < i → ∃ q, (bq d s t j)[j]? = some q ∧ finN d q.1.1 = finN d q.1.2) → BfsI d s t i (bq d s t i)
  | 0, _ => BfsI.zero d s t
  | i + 1, h => by
    obtain ⟨q, hq, _⟩ := h i (by omega)
    exact (bq_inv hv i fun j hj => h j (by omega)).step hv hq

theorem pushN_get {d : DFA} {q : Stp} {A : List Stp} {j : Nat} {p : Stp} (h : A[j]? = some p) : ∀ x, (pushN d q A x)[j]? = some p
  | 0 => h
  | x + 1 => by
    have ih := pushN_get (d := d) (q := q) h x
    rw [pushN, pushS]
    split
    · exact ih
    · rw [List.getElem?_append_left (List.getElem?_eq_some_iff.1 ih).1]; exact ih

theorem bq_get {d : DFA} {s t j : Nat} {p : Stp} {k i : Nat} (h : (bq d s t k)[j]? = some p) (hki : k ≤ i) : (bq d s t i)[j]? = some p := by
  induction hki with
  | refl => exact h
  | step _ ih => rw [bq]; exact pushN_get ih _

theorem BfsR.tell {d : DFA} (hv : Valid d) {s t : Nat} {res : Option (List Nat)} (h : BfsR d s t res) : Tell d s t res := by
  obtain ⟨i, hj, hr⟩ := h
  have hI := bq_inv hv i hj
  have hsame : ∀ j q, j < i → (bq d s t i)[j]? = some q → finN d q.1.1 = finN d q.1.2 := fun j q hji hq => by
    obtain ⟨q', h1, h2⟩ := hj j hji
    have := bq_get (i := i) h1 (by omega)
    rw [hq] at this; cases this; exact h2
  -- each word is answered by a step whose word is no greater, or is itself no less than the i-th
  have key : ∀ u, Wd d u → (∃ q ∈ bq d s t i, q.1 = (runN d s u, runN d t u) ∧ code q.2 ≤ code u) ∨ ∃ q, (bq d s t i)[i]? = some q ∧ code q.2 ≤ code u := by
    refine snocInd ?_ ?_
    · intro _
      obtain ⟨q, h1, h2, h3⟩ := hI.first
      exact .inl ⟨q, List.mem_of_getElem? h1, h2, by rw [h3]; exact Nat.le_refl _⟩
    · intro u x ih hw
      rw [code_snoc]
      rcases ih (fun z hz => hw z (by simp [hz])) with ⟨q, h1, h2, h3⟩ | ⟨q, h1, h3⟩
      · obtain ⟨j, hjq⟩ := List.getElem?_of_mem h1
        by_cases hji : j < i
        · obtain ⟨q', g1, g2, g3⟩ := hI.suc j q hji hjq x (hw x (by simp))
          refine .inl ⟨q', g1, ?_, by omega⟩
          rw [g2, runN_snoc, runN_snoc, h2]; rfl
        · by_cases e : j = i
          · subst e; exact .inr ⟨q, hjq, by omega⟩
          · have hil : i < (bq d s t i).length := by have := (List.getElem?_eq_some_iff.1 hjq).1; omega
            have := hI.mono i j _ q (by omega) (List.getElem?_eq_getElem hil) hjq
            exact .inr ⟨_, List.getElem?_eq_getElem hil, by omega⟩
      · exact .inr ⟨q, h1, by omega⟩
  cases res with
  | some w =>
    obtain ⟨q, hq, hf, rfl⟩ := hr
    obtain ⟨h1, h2⟩ := hI.run q (List.mem_of_getElem? hq)
    refine ⟨h1, ?_, ?_⟩
    · unfold dst; rw [h2] at hf; exact hf
    · intro u hu hd
      rcases key u hu with ⟨p, g1, g2, g3⟩ | ⟨p, g1, g3⟩
      · obtain ⟨j, hjp⟩ := List.getElem?_of_mem g1
        by_cases hji : j < i
        · have := hsame j p hji hjp
          rw [g2] at this; exact absurd this hd
        · by_cases e : j = i
          · subst e; rw [hq] at hjp; cases hjp; exact g3
          · have := hI.mono i j q p (by omega) hq hjp
            omega
      · rw [hq] at g1; cases g1; exact g3
  | none =>
    intro u hu hd
    have hlen : (bq d s t i).length ≤ i := hr
    rcases key u hu with ⟨p, g1, g2, g3⟩ | ⟨p, g1, g3⟩
    · obtain ⟨j, hjp⟩ := List.getElem?_of_mem g1
      have hji := (List.getElem?_eq_some_iff.1 hjp).1
      have := hsame j p (by omega) hjp
      rw [g2] at this; exact hd this
    · have := (List.getElem?_eq_some_iff.1 g1).1; omega

end Go.Lx
