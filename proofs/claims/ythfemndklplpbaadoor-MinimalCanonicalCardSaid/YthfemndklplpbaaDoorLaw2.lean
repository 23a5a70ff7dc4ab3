/- The partition by rounds: numbered by first appearance, stable after as many rounds as there are states. -/
import Derived.Test.YthfemndklplpbaaDoorLaw
set_option linter.unusedSectionVars false
set_option linter.unusedSimpArgs false
set_option linter.unusedVariables false
set_option linter.unnecessarySimpa false
namespace Go.Lx
set_option linter.unusedVariables false

section
variable {α : Type} [DecidableEq α]

theorem nrm_nrm (l : List α) : nrm (nrm l) = nrm l := by
  refine (nrm_congr (by rw [nrm_length]) ?_).1
  intro i j a b a' b' hi hj hi' hj'
  have := nrm_inj hi' hj'
  rw [hi, hj] at this
  simpa using this

theorem dd_nrm (l : List α) : (dd (nrm l)).length = (dd l).length := by
  refine (nrm_congr (by rw [nrm_length]) ?_).2
  intro i j a b a' b' hi hj hi' hj'
  have := nrm_inj hi' hj'
  rw [hi, hj] at this
  simpa using this

/-- The least number below n with p; n if there is none. -/
def first (p : Nat → Bool) : Nat → Nat
  | 0 => 0
  | n + 1 => if first p n < n then first p n else if p n then n else n + 1

theorem first_le (p : Nat → Bool) : ∀ n, first p n ≤ n
  | 0 => Nat.le_refl _
  | n + 1 => by
    have := first_le p n
    rw [first]
    split
    · omega
    · split <;> omega

theorem first_spec (p : Nat → Bool) : ∀ n, (first p n < n → p (first p n) = true) ∧ ∀ t, t < first p n → p t = false
  | 0 => ⟨fun h => absurd h (by omega), fun t h => absurd h (by simp [first])⟩
  | n + 1 => by
    obtain ⟨h1, h2⟩ := first_spec p n
    have hle := first_le p n
    rw [first]
    by_cases h : first p n < n
    · rw [if_pos h]; exact ⟨fun _ => h1 h, h2⟩
    · have e : first p n = n := by omega
      rw [if_neg h]
      by_cases hp : p n = true
      · rw [if_pos hp]; exact ⟨fun _ => hp, fun t ht => h2 t (by omega)⟩
      · rw [if_neg hp]
        refine ⟨fun h => absurd h (by omega), fun t ht => ?_⟩
        by_cases et : t = n
        · subst et; simpa using hp
        · exact h2 t (by omega)

theorem first_eq {p : Nat → Bool} {n t : Nat} (hle : t ≤ n) (h1 : t < n → p t = true) (h2 : ∀ t', t' < t → p t' = false) : first p n = t := by
  obtain ⟨g1, g2⟩ := first_spec p n
  have hl := first_le p n
  rcases Nat.lt_trichotomy (first p n) t with h | h | h
  · have := h2 _ h; rw [g1 (by omega)] at this; cases this
  · exact h
  · have := g2 _ h; rw [h1 (by omega)] at this; cases this

/-- Numbers by the first that is equal, as the reference gives them. -/
def labN (e : Nat → Nat → Bool) : Nat → List Nat × Nat
  | 0 => ([], 0)
  | s + 1 => if first (e s) s < s then ((labN e s).1 ++ [(labN e s).1.getD (first (e s) s) 0], (labN e s).2) else ((labN e s).1 ++ [(labN e s).2], (labN e s).2 + 1)

theorem labN_nrm {e : Nat → Nat → Bool} {l : List α} (he : ∀ (s t : Nat) (a b : α), l[s]? = some a → l[t]? = some b → (e s t = true ↔ a = b)) : ∀ s, s ≤ l.length → labN e s = (nrm (l.take s), (dd (l.take s)).length)
  | 0, _ => by simp [labN, nrm, dd]
  | s + 1, hs => by
    have hs' : s < l.length := by omega
    have ih := labN_nrm he s (by omega)
    have hg := List.getElem?_eq_getElem hs'
    obtain ⟨f1, f2⟩ := first_spec (e s) s
    rw [labN, ih, List.take_succ_eq_append_getElem hs']
    by_cases hf : first (e s) s < s
    · have hfl : first (e s) s < l.length := by omega
      have hfg := List.getElem?_eq_getElem hfl
      have hsame : l[s] = l[first (e s) s] := (he _ _ _ _ hg hfg).1 (f1 hf)
      have hgt : (l.take s)[first (e s) s]? = some l[first (e s) s] := by rw [List.getElem?_take_of_lt hf]; exact hfg
      have hm : l[s] ∈ l.take s := by rw [hsame]; exact List.mem_of_getElem? hgt
      rw [if_pos hf, dd_mem_snoc hm]
      simp only [nrm, List.map_append, List.map_cons, List.map_nil, dd_mem_snoc hm]
      have : (nrm (l.take s)).getD (first (e s) s) 0 = ix l[s] (dd (l.take s)) := by
        rw [List.getD_eq_getElem?_getD, nrm_get hgt, hsame]; rfl
      rw [show (List.map (fun k => ix k (dd (List.take s l))) (List.take s l)) = nrm (l.take s) from rfl, this]
    · have hm : l[s] ∉ l.take s := by
        intro hm
        obtain ⟨i, hi⟩ := List.getElem?_of_mem hm
        have his : i < s := by have := (List.getElem?_eq_some_iff.1 hi).1; rw [List.length_take] at this; omega
        rw [List.getElem?_take_of_lt his] at hi
        have := (he _ _ _ _ hg hi).2 rfl
        rw [f2 i (by omega)] at this; cases this
      rw [if_neg hf, dd_new_snoc hm]
      simp only [nrm, List.map_append, List.map_cons, List.map_nil, dd_new_snoc hm, List.length_append, List.length_cons, List.length_nil]
      congr 1
      · congr 1
        · apply List.map_congr_left
          intro a ha
          rw [ix_append_left (mem_dd.2 ha)]
        · rw [ix_append_right (fun hh => hm (mem_dd.1 hh))]; simp [ix]
end

theorem foldl_add01 : ∀ (l : List Nat), (∀ x ∈ l, x ≤ 1) → l.foldl add [0, 1] = [0, 1] ∧ (l.foldl add [0] = [0] ∧ 1 ∉ l ∨ l.foldl add [0] = [0, 1] ∧ 1 ∈ l)
  | [], _ => by simp
  | x :: l, h => by
    obtain ⟨h1, h2⟩ := foldl_add01 l fun y hy => h y (by simp [hy])
    have hx := h x (by simp)
    have : x = 0 ∨ x = 1 := by omega
    rcases this with rfl | rfl
    · refine ⟨?_, ?_⟩
      · rw [List.foldl_cons, show add [0, 1] 0 = [0, 1] by decide]; exact h1
      · rw [List.foldl_cons, show add [0] 0 = [0] by decide]
        rcases h2 with ⟨a, b⟩ | ⟨a, b⟩
        · exact .inl ⟨a, by simp [b]⟩
        · exact .inr ⟨a, by simp [b]⟩
    · refine ⟨?_, ?_⟩
      · rw [List.foldl_cons, show add [0, 1] 1 = [0, 1] by decide]; exact h1
      · rw [List.foldl_cons, show add [0] 1 = [0, 1] by decide]
        exact .inr ⟨h1, by simp⟩

theorem nrm01 {l : List Nat} (h0 : l.headD 0 = 0) (h : ∀ x ∈ l, x ≤ 1) : nrm l = l := by
  cases l with
  | nil => rfl
  | cons a l =>
    simp at h0
    subst h0
    have e : dd (0 :: l) = l.foldl add [0] := by simp [dd, add]
    have h2 := (foldl_add01 l fun y hy => h y (by simp [hy])).2
    rw [nrm, e]
    conv => rhs; rw [← List.map_id (0 :: l)]
    apply List.map_congr_left
    intro x hx
    have hx1 := h x hx
    have : x = 0 ∨ x = 1 := by omega
    rcases this with rfl | rfl
    · rcases h2 with ⟨a, b⟩ | ⟨a, b⟩ <;> rw [a] <;> decide
    · rcases h2 with ⟨a, b⟩ | ⟨a, b⟩
      · simp at hx; exact absurd hx b
      · rw [a]; decide

theorem itF_can (d : DFA) : ∀ k, nrm (itF d k) = itF d k
  | 0 => by
    refine nrm01 ?_ ?_
    · rw [itF]
      cases e : (beginF d) with
      | nil => rfl
      | cons a l =>
        have : (beginF d)[0]? = some a := by rw [e]; rfl
        have hn : 0 < d.next.length := by
          have : (beginF d).length = d.next.length := by simp [beginF]
          rw [e] at this; simp at this; omega
        rw [beginF_get hn] at this
        simpa using this.symm
    · intro x hx
      obtain ⟨s, _, rfl⟩ := List.mem_map.1 hx
      split <;> omega
  | k + 1 => by rw [itF, refineF_nrm, nrm_nrm]

theorem dif_mono {d : DFA} {k m s t : Nat} (h : k ≤ m) (hd : dif d k s t = true) : dif d m s t = true := by
  obtain ⟨u, h1, h2, h3⟩ := (dif_iff d k s t).1 hd
  exact (dif_iff d m s t).2 ⟨u, h1, by omega, h3⟩

theorem itF_get {d : DFA} {k s : Nat} (hs : s < d.next.length) : (itF d k)[s]? = some ((itF d k).getD s 0) := by
  have : s < (itF d k).length := by rw [itF_length]; exact hs
  rw [List.getD_eq_getElem?_getD, List.getElem?_eq_getElem this]; rfl

/-- The number of classes. -/
def clsN (d : DFA) (k : Nat) : Nat := (dd (itF d k)).length

theorem clsN_step {d : DFA} (hv : Valid d) (k : Nat) : clsN d k ≤ clsN d (k + 1) ∧ (clsN d k = clsN d (k + 1) → itF d (k + 1) = itF d k) := by
  have hl : (itF d (k + 1)).length = (itF d k).length := by rw [itF_length, itF_length]
  have at_ : ∀ p ∈ (itF d (k + 1)).zip (itF d k), ∃ s, s < d.next.length ∧ (itF d (k + 1)).getD s 0 = p.1 ∧ (itF d k).getD s 0 = p.2 := fun p hp => by
    obtain ⟨i, a1, a2⟩ := zip_get hl hp
    refine ⟨i, ?_, getD_of a1, getD_of a2⟩
    have := (List.getElem?_eq_some_iff.1 a2).1
    rwa [itF_length] at this
  have h := dd_finer ((itF d (k + 1)).zip (itF d k)) fun p hp q hq e => by
    obtain ⟨s, hs, a1, a2⟩ := at_ p hp
    obtain ⟨t, ht, b1, b2⟩ := at_ q hq
    rw [← a1, ← b1, itF_iff hv _ s t hs ht] at e
    rw [← a2, ← b2, itF_iff hv _ s t hs ht, ← Bool.not_eq_true]
    intro hh
    rw [dif_mono (Nat.le_succ k) hh] at e; cases e
  rw [(zip_ends hl).1, (zip_ends hl).2] at h
  refine ⟨h.1, fun e => ?_⟩
  have h2 := h.2 e
  rw [← itF_can d (k + 1), ← itF_can d k]
  refine (nrm_congr hl ?_).1
  intro i j a b a' b' hi hj hi' hj'
  have hm : ∀ {i a a'}, (itF d (k + 1))[i]? = some a → (itF d k)[i]? = some a' → (a, a') ∈ (itF d (k + 1)).zip (itF d k) := fun {i a a'} x y => by
    apply List.mem_of_getElem? (i := i)
    rw [List.getElem?_zip_eq_some]
    exact ⟨x, y⟩
  refine ⟨fun e => ?_, h2 _ (hm hi hi') _ (hm hj hj')⟩
  have hin : i < d.next.length := by have := (List.getElem?_eq_some_iff.1 hi').1; rwa [itF_length] at this
  have hjn : j < d.next.length := by have := (List.getElem?_eq_some_iff.1 hj').1; rwa [itF_length] at this
  rw [← getD_of hi, ← getD_of hj, itF_iff hv _ i j hin hjn] at e
  rw [← getD_of hi', ← getD_of hj', itF_iff hv _ i j hin hjn, ← Bool.not_eq_true]
  intro hh
  rw [dif_mono (Nat.le_succ k) hh] at e; cases e

theorem clsN_le (d : DFA) (k : Nat) : clsN d k ≤ d.next.length := by
  have := dd_length (itF d k)
  rw [itF_length] at this; exact this

theorem clsN_pos {d : DFA} (hv : Valid d) (k : Nat) : 0 < clsN d k := by
  have h : (itF d k).getD 0 0 ∈ dd (itF d k) := mem_dd.2 (List.mem_of_getElem? (itF_get hv.n0))
  exact List.length_pos_of_mem h

theorem itF_grow {d : DFA} (hv : Valid d) : ∀ k, (∃ j, j < k ∧ itF d (j + 1) = itF d j) ∨ k + 1 ≤ clsN d k
  | 0 => .inr (clsN_pos hv 0)
  | k + 1 => by
    rcases itF_grow hv k with ⟨j, hj, h⟩ | h
    · exact .inl ⟨j, by omega, h⟩
    · obtain ⟨h1, h2⟩ := clsN_step hv k
      by_cases e : clsN d k = clsN d (k + 1)
      · exact .inl ⟨k, by omega, h2 e⟩
      · exact .inr (by omega)

/-- After as many rounds as there are states nothing changes. -/
theorem itF_stab {d : DFA} (hv : Valid d) : ∀ m, d.next.length ≤ m → itF d m = itF d d.next.length := by
  intro m hm
  rcases itF_grow hv d.next.length with ⟨j, hj, h⟩ | h
  · have hs : refineF d (itF d j) = itF d j := by rw [← itF]; exact h
    rw [itF_stable hs m (by omega), itF_stable hs d.next.length (by omega)]
  · have := clsN_le d d.next.length; omega

theorem itF_fix {d : DFA} (hv : Valid d) : refineF d (itF d d.next.length) = itF d d.next.length := by
  rw [← itF]; exact itF_stab hv _ (by omega)

/-- Equal classes: no word tells apart. -/
theorem cls_iff {d : DFA} (hv : Valid d) {s t : Nat} (hs : s < d.next.length) (ht : t < d.next.length) :
    (itF d d.next.length).getD s 0 = (itF d d.next.length).getD t 0 ↔ ∀ u, Wd d u → ¬ dst d s t u := by
  constructor
  · intro h u hu hd
    have h2 : (itF d (max u.length d.next.length)).getD s 0 = (itF d (max u.length d.next.length)).getD t 0 := by rw [itF_stab hv _ (by omega)]; exact h
    rw [itF_iff hv _ s t hs ht, ← Bool.not_eq_true] at h2
    exact h2 ((dif_iff d _ s t).2 ⟨u, hu, by omega, hd⟩)
  · intro h
    rw [itF_iff hv _ s t hs ht, ← Bool.not_eq_true]
    intro hh
    obtain ⟨u, h1, _, h3⟩ := (dif_iff d _ s t).1 hh
    exact h u h1 h3

/-- The reference's numbers are those of the rounds. -/
theorem labN_itF {d : DFA} (hv : Valid d) (k : Nat) : (labN (fun s t => !dif d k s t) d.next.length).1 = itF d k := by
  have h := labN_nrm (e := fun s t => !dif d k s t) (l := itF d k) (fun s t a b hs ht => by
    have hs' : s < d.next.length := by have := (List.getElem?_eq_some_iff.1 hs).1; rwa [itF_length] at this
    have ht' : t < d.next.length := by have := (List.getElem?_eq_some_iff.1 ht).1; rwa [itF_length] at this
    rw [← getD_of hs, ← getD_of ht, itF_iff hv k s t hs' ht']; simp) d.next.length (by rw [itF_length]; exact Nat.le_refl _)
  rw [h]
  show nrm ((itF d k).take d.next.length) = _
  rw [List.take_of_length_le (by rw [itF_length]; exact Nat.le_refl _), itF_can]

/-! ### the automaton of the classes is valid -/

theorem quoN_cls {d : DFA} {α : Type} [DecidableEq α] {l : List α} {cs : List Nat} (hl : l.length = d.next.length) (hcs : cs = nrm l) : ∀ k, k ≤ d.next.length → (quoN d cs k).1.length = (dd (l.take k)).length
  | 0, _ => by simp [quoN, dd]
  | k + 1, hk => by
    have hk' : k < l.length := by omega
    have ih := quoN_cls hl hcs k (by omega)
    have hg := List.getElem?_eq_getElem hk'
    have hc : cs.getD k 0 = ix l[k] (dd l) := by rw [hcs]; exact getD_of (nrm_get hg)
    have hp : dd (l.take k) <+: dd l := by
      conv => rhs; rw [← List.take_append_drop k l]
      rw [dd_append]; exact foldl_prefix _ _
    rw [quoN, ih, hc, List.take_succ_eq_append_getElem hk']
    by_cases hm : l[k] ∈ l.take k
    · rw [dd_mem_snoc hm, ix_prefix hp (mem_dd.2 hm), if_pos (ix_lt (mem_dd.2 hm)), ih]
    · have hp2 : dd (l.take k) ++ [l[k]] <+: dd l := by
        rw [← dd_new_snoc hm, ← List.take_succ_eq_append_getElem hk']
        conv => rhs; rw [← List.take_append_drop (k + 1) l]
        rw [dd_append]; exact foldl_prefix _ _
      have e : ix l[k] (dd l) = (dd (l.take k)).length := by
        rw [ix_prefix hp2 (by simp), ix_append_right (fun hh => hm (mem_dd.1 hh))]; simp [ix]
      rw [dd_new_snoc hm, e, if_neg (Nat.lt_irrefl _)]
      simp [ih]

theorem quoN_rows {d : DFA} (cs : List Nat) : ∀ k, ∀ r ∈ (quoN d cs k).1, ∃ s, s < k ∧ r = (rowK cs (d.next.getD s [])).map fun c : Nat => (c : Int)
  | 0, r, h => by simp [quoN] at h
  | k + 1, r, h => by
    rw [quoN] at h
    split at h
    · obtain ⟨s, hs, e⟩ := quoN_rows cs k r h; exact ⟨s, by omega, e⟩
    · rcases List.mem_append.1 h with h | h
      · obtain ⟨s, hs, e⟩ := quoN_rows cs k r h; exact ⟨s, by omega, e⟩
      · exact ⟨k, by omega, List.mem_singleton.1 h⟩

theorem quo_len {d : DFA} {cs : List Nat} (hl : cs.length = d.next.length) (hc : nrm cs = cs) : (quo d cs).next.length = (dd cs).length := by
  show (quoN d cs d.next.length).1.length = _
  rw [quoN_cls (l := cs) hl hc.symm _ (Nat.le_refl _), List.take_of_length_le (by omega)]

theorem can_lt {cs : List Nat} (hc : nrm cs = cs) {i c : Nat} (h : cs[i]? = some c) : c < (dd cs).length := by
  have h2 := nrm_get h
  rw [hc, h] at h2
  have := ix_lt (mem_dd.2 (List.mem_of_getElem? h))
  have e := Option.some.inj h2
  omega

theorem quo_valid {d : DFA} (hv : Valid d) {cs : List Nat} (hl : cs.length = d.next.length) (hc : nrm cs = cs) : Valid (quo d cs) := by
  have hq := quo_len hl hc
  have hlt : ∀ i, i < d.next.length → cs.getD i 0 < (dd cs).length := fun i hi => by
    have hi' : i < cs.length := by omega
    have := List.getElem?_eq_getElem hi'
    rw [getD_of this]; exact can_lt hc this
  have h1 := (quoN_len d cs d.next.length)
  refine ⟨hv.v0, hv.v6, ?_, ?_, ?_, ?_, ?_, ?_, ?_⟩
  · rw [hq]; have := hlt 0 hv.n0; omega
  · show (quoN d cs d.next.length).1.length ≤ _; have := hv.n4; omega
  · exact h1.1.symm
  · exact Int.natCast_nonneg _
  · rw [hq]
    show ((cs.getD d.start.toNat 0 : Nat) : Int) < _
    have := hlt d.start.toNat (by have := hv.s0; have := hv.s1; omega)
    omega
  · intro r hr
    obtain ⟨s, hs, rfl⟩ := quoN_rows cs _ r hr
    rw [List.length_map, rowK_length]
    simp [hs]
    exact hv.len _ (List.getElem_mem hs)
  · intro r hr x hx
    rw [hq]
    obtain ⟨s, hs, rfl⟩ := quoN_rows cs _ r hr
    obtain ⟨c, hc', rfl⟩ := List.mem_map.1 hx
    refine ⟨Int.natCast_nonneg _, ?_⟩
    obtain ⟨to, hto, rfl⟩ := List.mem_map.1 hc'
    simp [hs] at hto
    have := hv.ok _ (List.getElem_mem hs) to hto
    have := hlt to.toNat (by omega)
    omega

theorem quo_itF {d : DFA} (hv : Valid d) (k : Nat) : Valid (quo d (itF d k)) ∧ (quo d (itF d k)).next.length ≤ d.next.length :=
  ⟨quo_valid hv (itF_length d k) (itF_can d k), (quoN_len d _ _).2⟩

end Go.Lx
