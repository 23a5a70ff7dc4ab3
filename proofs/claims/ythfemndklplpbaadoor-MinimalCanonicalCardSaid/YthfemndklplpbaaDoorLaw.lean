/- The partition by rounds and the marking of pairs, compared in plain terms. -/
import Derived.Test.YthfemndklplpbaaDoorBfs
set_option linter.unusedSectionVars false
set_option linter.unusedSimpArgs false
set_option linter.unusedVariables false
set_option linter.unnecessarySimpa false
namespace Go.Lx
set_option linter.unusedVariables false

section
variable {α β : Type} [DecidableEq α] [DecidableEq β]

/-- Numbers by first appearance. -/
def nrm (l : List α) : List Nat := l.map fun k => ix k (dd l)

theorem nrm_length (l : List α) : (nrm l).length = l.length := List.length_map _

theorem nrm_get {l : List α} {i : Nat} {a : α} (h : l[i]? = some a) : (nrm l)[i]? = some (ix a (dd l)) := by
  rw [nrm, List.getElem?_map, h]; rfl

theorem nrm_inj {l : List α} {i j : Nat} {a b : α} (hi : l[i]? = some a) (hj : l[j]? = some b) : (nrm l)[i]? = (nrm l)[j]? ↔ a = b := by
  rw [nrm_get hi, nrm_get hj]
  refine ⟨fun h => ix_inj (mem_dd.2 (List.mem_of_getElem? hi)) (mem_dd.2 (List.mem_of_getElem? hj)) (Option.some.inj h), fun h => h ▸ rfl⟩

theorem dd_mem_snoc {l : List α} {a : α} (h : a ∈ l) : dd (l ++ [a]) = dd l := by
  rw [dd_snoc, add, if_pos (mem_dd.2 h)]
theorem dd_new_snoc {l : List α} {a : α} (h : a ∉ l) : dd (l ++ [a]) = dd l ++ [a] := by
  rw [dd_snoc, add, if_neg (fun hh => h (mem_dd.1 hh))]

/-- Two lists that agree on who equals whom are numbered alike. -/
theorem nrm_pairs : ∀ zs : List (α × β), (∀ p ∈ zs, ∀ q ∈ zs, p.1 = q.1 ↔ p.2 = q.2) →
    (dd (zs.map Prod.fst)).length = (dd (zs.map Prod.snd)).length ∧ ∀ p ∈ zs, ix p.1 (dd (zs.map Prod.fst)) = ix p.2 (dd (zs.map Prod.snd)) := by
  refine snocInd (fun _ => ⟨rfl, fun p hp => by simp at hp⟩) ?_
  intro zs z ih h
  obtain ⟨h1, h2⟩ := ih fun p hp q hq => h p (List.mem_append_left _ hp) q (List.mem_append_left _ hq)
  have hz : z ∈ zs ++ [z] := by simp
  have hmem : z.1 ∈ zs.map Prod.fst ↔ z.2 ∈ zs.map Prod.snd := by
    constructor
    · intro hm
      obtain ⟨p, hp, e⟩ := List.mem_map.1 hm
      exact List.mem_map.2 ⟨p, hp, ((h p (List.mem_append_left _ hp) z hz).1 e)⟩
    · intro hm
      obtain ⟨p, hp, e⟩ := List.mem_map.1 hm
      exact List.mem_map.2 ⟨p, hp, ((h p (List.mem_append_left _ hp) z hz).2 e)⟩
  simp only [List.map_append, List.map_cons, List.map_nil]
  by_cases hm : z.1 ∈ zs.map Prod.fst
  · rw [dd_mem_snoc hm, dd_mem_snoc (hmem.1 hm)]
    refine ⟨h1, fun p hp => ?_⟩
    rcases List.mem_append.1 hp with hp | hp
    · exact h2 p hp
    · simp only [List.mem_singleton] at hp
      subst hp
      obtain ⟨q, hq, e⟩ := List.mem_map.1 hm
      have e2 := (h q (List.mem_append_left _ hq) p hz).1 e
      rw [← e, ← e2]; exact h2 q hq
  · have hm2 : z.2 ∉ zs.map Prod.snd := fun hh => hm (hmem.2 hh)
    rw [dd_new_snoc hm, dd_new_snoc hm2]
    refine ⟨by simp [h1], fun p hp => ?_⟩
    rcases List.mem_append.1 hp with hp | hp
    · rw [ix_append_left (mem_dd.2 (List.mem_map_of_mem hp)), ix_append_left (mem_dd.2 (List.mem_map_of_mem hp))]
      exact h2 p hp
    · simp only [List.mem_singleton] at hp
      subst hp
      rw [ix_append_right (fun hh => hm (mem_dd.1 hh)), ix_append_right (fun hh => hm2 (mem_dd.1 hh)), h1]
      simp [ix]

/-- .. and a finer list has no fewer classes; equally many only if it is no finer. -/
theorem dd_finer : ∀ zs : List (α × β), (∀ p ∈ zs, ∀ q ∈ zs, p.1 = q.1 → p.2 = q.2) →
    (dd (zs.map Prod.snd)).length ≤ (dd (zs.map Prod.fst)).length ∧ ((dd (zs.map Prod.snd)).length = (dd (zs.map Prod.fst)).length → ∀ p ∈ zs, ∀ q ∈ zs, p.2 = q.2 → p.1 = q.1) := by
  refine snocInd (fun _ => ⟨Nat.le_refl _, fun _ p hp => by simp at hp⟩) ?_
  intro zs z ih h
  obtain ⟨h1, h2⟩ := ih fun p hp q hq => h p (List.mem_append_left _ hp) q (List.mem_append_left _ hq)
  have hz : z ∈ zs ++ [z] := by simp
  simp only [List.map_append, List.map_cons, List.map_nil]
  by_cases hm : z.1 ∈ zs.map Prod.fst
  · obtain ⟨q, hq, e⟩ := List.mem_map.1 hm
    have e2 := h q (List.mem_append_left _ hq) z hz e
    have hm2 : z.2 ∈ zs.map Prod.snd := List.mem_map.2 ⟨q, hq, e2⟩
    rw [dd_mem_snoc hm, dd_mem_snoc hm2]
    refine ⟨h1, fun he p hp p' hp' ee => ?_⟩
    have h2' := h2 he
    have lift : ∀ p ∈ zs ++ [z], ∃ p0 ∈ zs, p0.1 = p.1 ∧ p0.2 = p.2 := fun p hp => by
      rcases List.mem_append.1 hp with hp | hp
      · exact ⟨p, hp, rfl, rfl⟩
      · simp only [List.mem_singleton] at hp; subst hp; exact ⟨q, hq, e, e2⟩
    obtain ⟨a, ha, a1, a2⟩ := lift p hp
    obtain ⟨b, hb, b1, b2⟩ := lift p' hp'
    rw [← a1, ← b1]; exact h2' a ha b hb (by rw [a2, b2, ee])
  · rw [dd_new_snoc hm]
    by_cases hm2 : z.2 ∈ zs.map Prod.snd
    · rw [dd_mem_snoc hm2]
      refine ⟨by simp; omega, fun he => ?_⟩
      simp at he; omega
    · rw [dd_new_snoc hm2]
      refine ⟨by simp; omega, fun he p hp p' hp' ee => ?_⟩
      have h2' := h2 (by simpa using he)
      rcases List.mem_append.1 hp with gp | gp
      · rcases List.mem_append.1 hp' with gp' | gp'
        · exact h2' p gp p' gp' ee
        · have e := List.mem_singleton.1 gp'
          exact (hm2 (List.mem_map.2 ⟨p, gp, by rw [ee, e]⟩)).elim
      · have e := List.mem_singleton.1 gp
        rcases List.mem_append.1 hp' with gp' | gp'
        · exact (hm2 (List.mem_map.2 ⟨p', gp', by rw [← ee, e]⟩)).elim
        · rw [e, List.mem_singleton.1 gp']

theorem zip_ends : ∀ {l : List α} {m : List β}, l.length = m.length → (l.zip m).map Prod.fst = l ∧ (l.zip m).map Prod.snd = m
  | [], [], _ => ⟨rfl, rfl⟩
  | a :: l, b :: m, h => by
    obtain ⟨h1, h2⟩ := zip_ends (l := l) (m := m) (by simpa using h)
    simp [h1, h2]

theorem zip_get {l : List α} {m : List β} (h : l.length = m.length) {p : α × β} (hp : p ∈ l.zip m) : ∃ i : Nat, l[i]? = some p.1 ∧ m[i]? = some p.2 := by
  obtain ⟨i, hi⟩ := List.getElem?_of_mem hp
  refine ⟨i, ?_, ?_⟩
  · have := congrArg (Option.map Prod.fst) hi
    rw [← List.getElem?_map, (zip_ends h).1] at this; simpa using this
  · have := congrArg (Option.map Prod.snd) hi
    rw [← List.getElem?_map, (zip_ends h).2] at this; simpa using this

theorem nrm_congr {l : List α} {m : List β} (hl : l.length = m.length) (h : ∀ (i j : Nat) (a b : α) (a' b' : β), l[i]? = some a → l[j]? = some b → m[i]? = some a' → m[j]? = some b' → (a = b ↔ a' = b')) : nrm l = nrm m ∧ (dd l).length = (dd m).length := by
  have h0 := nrm_pairs (l.zip m) fun p hp q hq => by
    obtain ⟨i, a1, a2⟩ := zip_get hl hp
    obtain ⟨j, b1, b2⟩ := zip_get hl hq
    exact h i j _ _ _ _ a1 b1 a2 b2
  rw [(zip_ends hl).1, (zip_ends hl).2] at h0
  refine ⟨?_, h0.1⟩
  apply List.ext_getElem?
  intro i
  by_cases hi : i < l.length
  · have hi2 : i < m.length := by omega
    rw [nrm_get (List.getElem?_eq_getElem hi), nrm_get (List.getElem?_eq_getElem hi2)]
    have : (l[i], m[i]) ∈ l.zip m := by
      apply List.mem_of_getElem? (i := i)
      rw [List.getElem?_zip_eq_some]
      exact ⟨List.getElem?_eq_getElem hi, List.getElem?_eq_getElem hi2⟩
    exact congrArg some (h0.2 _ this)
  · rw [List.getElem?_eq_none (by rw [nrm_length]; omega), List.getElem?_eq_none (by rw [nrm_length]; omega)]
end

/-! ### pairs that a word of at most k letters tells apart -/

def dif (d : DFA) : Nat → Nat → Nat → Bool
  | 0, s, t => finN d s != finN d t
  | k + 1, s, t => dif d k s t || (List.range (letN d)).any fun x => dif d k (toN d s x) (toN d t x)

theorem dif_iff (d : DFA) : ∀ k s t, dif d k s t = true ↔ ∃ u, Wd d u ∧ u.length ≤ k ∧ dst d s t u
  | 0, s, t => by
    simp only [dif, bne_iff_ne]
    constructor
    · exact fun h => ⟨[], fun x hx => by simp at hx, Nat.le_refl _, h⟩
    · rintro ⟨u, _, hl, h⟩
      have : u = [] := List.eq_nil_of_length_eq_zero (by omega)
      subst this; exact h
  | k + 1, s, t => by
    simp only [dif, Bool.or_eq_true, List.any_eq_true, List.mem_range, dif_iff d k]
    constructor
    · rintro (⟨u, h1, h2, h3⟩ | ⟨x, hx, u, h1, h2, h3⟩)
      · exact ⟨u, h1, by omega, h3⟩
      · refine ⟨x :: u, fun y hy => ?_, by simp; omega, h3⟩
        rcases List.mem_cons.1 hy with rfl | hy
        · exact hx
        · exact h1 y hy
    · rintro ⟨u, h1, h2, h3⟩
      cases u with
      | nil => exact .inl ⟨[], h1, by simp, h3⟩
      | cons x u => exact .inr ⟨x, h1 x (by simp), u, fun y hy => h1 y (by simp [hy]), by simpa using h2, h3⟩

theorem dif_self (d : DFA) (k s : Nat) : dif d k s s = false := by
  rw [Bool.eq_false_iff]
  intro h
  obtain ⟨u, _, _, h⟩ := (dif_iff d k s s).1 h
  exact h rfl

/-- Equal numbers after k rounds: no word of at most k letters tells apart. -/
theorem toN_get {d : DFA} (hv : Valid d) {s x : Nat} (hs : s < d.next.length) (hx : x < letN d) : toN d s x < d.next.length := (hv.toN_lt hs hx).1

theorem keyD_iff {d : DFA} (hv : Valid d) {cs : List Nat} (hcl : cs.length = d.next.length) {s t : Nat} (hs : s < d.next.length) (ht : t < d.next.length) :
    keyD d cs s = keyD d cs t ↔ cs.getD s 0 = cs.getD t 0 ∧ ∀ x, x < letN d → cs.getD (toN d s x) 0 = cs.getD (toN d t x) 0 := by
  have hls : (d.next.getD s []).length = letN d := by simp [hs]; exact hv.len _ (List.getElem_mem hs)
  have hlt : (d.next.getD t []).length = letN d := by simp [ht]; exact hv.len _ (List.getElem_mem ht)
  have row : ∀ s, (d.next.getD s []).length = letN d → ∀ x, x < letN d → (rowK cs (d.next.getD s []))[x]? = some (cs.getD (toN d s x) 0) := by
    intro s hl x hx
    have hx' : x < (d.next.getD s []).length := by omega
    have e : (d.next.getD s []).getD x 0 = (d.next.getD s [])[x] := by rw [List.getD_eq_getElem?_getD, List.getElem?_eq_getElem hx']; rfl
    rw [rowK, List.getElem?_map, List.getElem?_eq_getElem hx', toN, e]
    rfl
  constructor
  · intro h
    obtain ⟨h1, h2⟩ := keyK_inj h
    refine ⟨h1, fun x hx => ?_⟩
    have a := row s hls x hx
    rw [h2, row t hlt x hx] at a
    exact (Option.some.inj a).symm
  · rintro ⟨h1, h2⟩
    unfold keyD
    rw [h1]
    congr 1
    apply List.ext_getElem?
    intro x
    by_cases hx : x < letN d
    · rw [row s hls x hx, row t hlt x hx, h2 x hx]
    · rw [List.getElem?_eq_none (by rw [rowK_length]; omega), List.getElem?_eq_none (by rw [rowK_length]; omega)]

theorem refineF_nrm (d : DFA) (cs : List Nat) : refineF d cs = nrm (keysD d cs) := rfl
theorem keysD_get {d : DFA} {cs : List Nat} {s : Nat} (hs : s < d.next.length) : (keysD d cs)[s]? = some (keyD d cs s) := by simp [keysD, hs]
theorem keysD_length (d : DFA) (cs : List Nat) : (keysD d cs).length = d.next.length := by simp [keysD]

theorem beginF_get {d : DFA} {s : Nat} (hs : s < d.next.length) : (beginF d)[s]? = some (if finN d s ≠ finN d 0 then 1 else 0) := by
  simp [beginF, hs, finN]

theorem getD_of {l : List Nat} {i a : Nat} (h : l[i]? = some a) : l.getD i 0 = a := by rw [List.getD_eq_getElem?_getD, h]; rfl

theorem itF_iff {d : DFA} (hv : Valid d) : ∀ k s t, s < d.next.length → t < d.next.length → ((itF d k).getD s 0 = (itF d k).getD t 0 ↔ dif d k s t = false)
  | 0, s, t, hs, ht => by
    rw [itF, getD_of (beginF_get hs), getD_of (beginF_get ht), dif]
    cases finN d s <;> cases finN d t <;> cases finN d 0 <;> simp
  | k + 1, s, t, hs, ht => by
    have ih := itF_iff hv k
    rw [itF, refineF_nrm]
    have h1 := nrm_inj (keysD_get (cs := itF d k) hs) (keysD_get (cs := itF d k) ht)
    have e1 : (nrm (keysD d (itF d k))).getD s 0 = (nrm (keysD d (itF d k))).getD t 0 ↔ (nrm (keysD d (itF d k)))[s]? = (nrm (keysD d (itF d k)))[t]? := by
      rw [nrm_get (keysD_get hs), nrm_get (keysD_get ht), getD_of (nrm_get (keysD_get hs)), getD_of (nrm_get (keysD_get ht))]
      simp
    rw [e1, h1, keyD_iff hv (itF_length d k) hs ht, ih s t hs ht, dif, Bool.or_eq_false_iff]
    refine and_congr Iff.rfl ?_
    rw [List.any_eq_false]
    constructor
    · intro h x hx
      have hx' := List.mem_range.1 hx
      rw [Bool.not_eq_true, ← ih _ _ (toN_get hv hs hx') (toN_get hv ht hx')]
      exact h x hx'
    · intro h x hx
      rw [ih _ _ (toN_get hv hs hx) (toN_get hv ht hx), ← Bool.not_eq_true]
      exact h x (List.mem_range.2 hx)

end Go.Lx
