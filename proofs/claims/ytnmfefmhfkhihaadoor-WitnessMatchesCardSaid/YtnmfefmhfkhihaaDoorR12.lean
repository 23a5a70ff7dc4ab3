/- Contracts of functions of the program (WtU, C1, W7, Awk, Over, WtE, WA, Ref7, Len, R12): what each call answers and that it leaves memory as it was. Conditions: those each theorem names. -/
import Derived.Test.YtnmfefmhfkhihaaDoorFacts
import Derived.Test.YtnmfefmhfkhihaaDoorCz
import Derived.Test.YtnmfefmhfkhihaaDoorDK
import Derived.Test.YtnmfefmhfkhihaaDoorW1
set_option linter.unusedSectionVars false
set_option linter.unusedSimpArgs false
set_option linter.unusedVariables false
set_option linter.unnecessarySimpa false
namespace Go.Lx
open Go.RowKit
set_option linter.unusedVariables false
def flipS (l : List Bool) (s : Nat) : List Bool := (l.take s).map (!·) ++ l.drop s
theorem flipS_zero (l : List Bool) : flipS l 0 = l := by simp [flipS]
theorem flipS_len {l : List Bool} {s : Nat} : (flipS l s).length = l.length := by simp [flipS]; omega
theorem flipS_at {l : List Bool} {s : Nat} (h : s < l.length) : (bools (flipS l s))[s]? = some (.bool (l.getD s false)) := by
  rw [List.getElem?_map, flipS, List.getElem?_append_right (by simp; omega), List.getElem?_drop]
  simp [List.getD_eq_getElem?_getD, List.getElem?_eq_getElem h, Nat.min_eq_left (Nat.le_of_lt h)]
theorem flipS_set {l : List Bool} {s : Nat} (h : s < l.length) : (flipS l s).set s (!(l.getD s false)) = flipS l (s + 1) := by
  have e : ((l.take s).map (!·)).length = s := by simp; omega
  unfold flipS
  rw [List.set_append_right _ _ (by omega), e, Nat.sub_self, List.take_succ_eq_append_getElem h, List.map_append, List.append_assoc, List.drop_eq_getElem_cons h, List.set_cons_zero, List.getD_eq_getElem?_getD, List.getElem?_eq_getElem h]
  rfl
theorem flipS_end {l : List Bool} {s : Nat} (h : l.length ≤ s) : flipS l s = l.map (!·) := by
  unfold flipS; rw [List.take_of_length_le h, List.drop_eq_nil_of_le h]; simp
theorem flip_check (a : DFA) : checkD (flipD a) = checkD a := by unfold checkD flipD; simp
theorem flip_none {a : DFA} (hv : Val a) : (∀ u, Wd (flipD a) u → acc (flipD a) u = false) ↔ ∀ u, Wd a u → acc a u = true := by
  constructor
  · intro h u hu
    have := h u hu
    rw [flip_acc hv hu] at this; simpa using this
  · intro h u hu
    rw [flip_acc hv hu, h u hu]; rfl
theorem order_run2 {d : DFA} (hv : Val d) {o : Nat} (ho : o ∈ order d) : ∃ u, Wd d u ∧ runN d d.start.toNat u = o := by
  have key : ∀ i, ∀ o ∈ bfsN d i, ∃ u, Wd d u ∧ runN d d.start.toNat u = o := by
    intro i
    induction i with
    | zero =>
      intro o ho
      have : o = d.start.toNat := by simpa [bfsN] using ho
      exact ⟨[], Wd.nil, this.symm⟩
    | succ i ih =>
      intro o ho
      cases hq : (bfsN d i)[i]? with
      | none =>
        have : bfsN d (i + 1) = bfsN d i := if_neg (by have := List.getElem?_eq_none_iff.1 hq; omega)
        rw [this] at ho; exact ih o ho
      | some q =>
        rw [bfsN_succ hq] at ho
        have : o ∈ bfsN d i ∨ o ∈ sucs d q := by
          have aux : ∀ (l ks : List Nat), o ∈ l.foldl add ks → o ∈ ks ∨ o ∈ l := by
            intro l
            induction l with
            | nil => intro ks h; exact .inl h
            | cons y l ih2 =>
              intro ks h
              rcases ih2 _ h with h | h
              · rcases mem_add.1 h with h | h
                · exact .inl h
                · exact .inr (by rw [h]; exact List.mem_cons_self)
              · exact .inr (List.mem_cons_of_mem _ h)
          exact aux _ _ ho
        rcases this with h | h
        · exact ih o h
        · obtain ⟨x, hx, rfl⟩ := List.mem_map.1 (show o ∈ (List.range (2 ^ d.vars.toNat)).map (toN d q) from h)
          obtain ⟨u, h1, h2⟩ := ih q (List.mem_of_getElem? hq)
          exact ⟨u ++ [x], h1.app (Wd.cons.2 ⟨List.mem_range.1 hx, Wd.nil⟩), by rw [runN_append, h2]; rfl⟩
  exact key _ o ho
theorem all_order {d : DFA} (hv : Val d) : (∀ o ∈ order d, finN d o = true) ↔ ∀ u, Wd d u → acc d u = true := by
  constructor
  · intro h u hu
    exact h _ (order_run hv (start_mem hv) u hu)
  · intro h o ho
    obtain ⟨u, h1, h2⟩ := order_run2 hv ho
    have := h u h1
    rw [acc, h2] at this; exact this
def cR (lim : Bool) (d : DFA) (n s : Nat) : Nat := if lim = true then satN 9223372036854775807 d n s else cntN d n s % 18446744073709551616
def pR (lim : Bool) (d : DFA) (n s x : Nat) : Nat := if lim = true then psat 9223372036854775807 d n s x else psum d n s x % 18446744073709551616
theorem pR_full (lim : Bool) (d : DFA) (n s : Nat) : pR lim d n s (letN d) = cR lim d (n + 1) s := by unfold pR cR; rw [psat_full, psum_full]
theorem pR_zero (lim : Bool) (d : DFA) (n s : Nat) : pR lim d n s 0 = 0 := by unfold pR psat; rw [psum_zero]; split <;> rfl
theorem pR_mod {d : DFA} {n s x : Nat} : (pR false d n s x + cR false d n (toN d s x)) % 18446744073709551616 = pR false d n s (x + 1) := by
  simp only [pR, cR, psum_succ]
  simp
theorem pR_lim {d : DFA} {n s x : Nat} : min ((pR true d n s x + cR true d n (toN d s x)) % 18446744073709551616) 9223372036854775807 = pR true d n s (x + 1) := by
  have h1 := satN_le 9223372036854775807 d n (toN d s x)
  have h2 : psat 9223372036854775807 d n s x ≤ 9223372036854775807 := by unfold psat; omega
  simp only [pR, cR, psat_succ, if_true]
  omega
theorem cR_false (d : DFA) (n s : Nat) : cR false d n s = cntN d n s % 18446744073709551616 := if_neg (by decide)
theorem pR_F {lim : Bool} {d : DFA} {n s x : Nat} (h : lim = false) : (pR lim d n s x + cR lim d n (toN d s x)) % 18446744073709551616 = pR lim d n s (x + 1) := by subst h; exact pR_mod
theorem pR_T {lim : Bool} {d : DFA} {n s x : Nat} (h : lim = true) : min ((pR lim d n s x + cR lim d n (toN d s x)) % 18446744073709551616) 9223372036854775807 = pR lim d n s (x + 1) := by subst h; exact pR_lim
theorem uns_set {l : List Nat} {s v : Nat} (hs : s < l.length) : (uns (l.set s v))[s]? = some (.int .u64 ((v : Nat) : Int)) := by
  rw [List.getElem?_map, List.getElem?_set_self hs]; rfl
theorem uns_putput {l : List Nat} {s v u : Nat} : putL (uns (l.set s v)) s [.int .u64 ((u : Nat) : Int)] = uns (l.set s u) := by
  show (List.set _ s _) = _
  rw [← List.set_set (b := u) (a := v)]
  simp
def cntL (lim : Bool) (d : DFA) (n : Nat) : List Nat := (List.range d.next.length).map (cR lim d n)
theorem cntL_len (lim : Bool) (d : DFA) (n : Nat) : (cntL lim d n).length = d.next.length := by simp [cntL]
theorem cntL_at {lim : Bool} {d : DFA} {n s : Nat} (hs : s < d.next.length) : (uns (cntL lim d n))[s]? = some (.int .u64 ((cR lim d n s : Nat) : Int)) := by
  rw [List.getElem?_map, cntL, List.getElem?_map, List.getElem?_range hs]; rfl
def cntX (lim : Bool) (d : DFA) (n s x : Nat) : List Nat := (List.range d.next.length).map fun t => if t < s then cR lim d (n + 1) t else if t = s then pR lim d n s x else 0
theorem cntX_len (lim : Bool) (d : DFA) (n s x : Nat) : (cntX lim d n s x).length = d.next.length := by simp [cntX]
theorem cntX_zero (lim : Bool) (d : DFA) (n : Nat) : uns (cntX lim d n 0 0) = List.replicate d.next.length (.int .u64 0) := by
  apply List.ext_getElem (by simp [cntX])
  intro i h1 h2
  simp [cntX, pR_zero]
theorem cntX_at {lim : Bool} {d : DFA} {n s x : Nat} (hs : s < d.next.length) : (uns (cntX lim d n s x))[s]? = some (.int .u64 ((pR lim d n s x : Nat) : Int)) := by
  rw [List.getElem?_map, cntX, List.getElem?_map, List.getElem?_range hs]; simp
theorem cntX_set {lim : Bool} {d : DFA} {n s x v : Nat} (hs : s < d.next.length) (hv : v = pR lim d n s (x + 1)) : (cntX lim d n s x).set s v = cntX lim d n s (x + 1) := by
  apply List.ext_getElem (by simp [cntX])
  intro i h1 h2
  rw [List.getElem_set]
  simp only [cntX, List.getElem_map, List.getElem_range]
  by_cases e : s = i
  · subst e; simp [hv]
  · have e' : ¬ i = s := fun h => e h.symm
    simp [e, e']
theorem set_set {α : Type} (l : List α) (s : Nat) (v u : α) : (l.set s v).set s u = l.set s u := List.set_set ..
theorem cntX_row {lim : Bool} {d : DFA} {n s x : Nat} (hx : x = letN d) : cntX lim d n s x = cntX lim d n (s + 1) 0 := by
  subst hx
  apply List.ext_getElem (by simp [cntX])
  intro i h1 h2
  simp only [cntX, List.getElem_map, List.getElem_range]
  by_cases e1 : i < s
  · rw [if_pos e1, if_pos (by omega)]
  · by_cases e2 : i = s
    · subst e2; rw [if_neg e1, if_pos rfl, if_pos (by omega), pR_full]
    · rw [if_neg e1, if_neg e2, if_neg (by omega)]
      split
      · rw [pR_zero]
      · rfl
theorem cntX_end {lim : Bool} {d : DFA} {n s : Nat} (hs : s = d.next.length) : cntX lim d n s 0 = cntL lim d (n + 1) := by
  subst hs
  unfold cntX cntL
  exact List.map_congr_left fun t ht => by rw [if_pos (List.mem_range.1 ht)]
theorem cntL_zero (lim : Bool) (d : DFA) : tab0 d d.next.length = cntL lim d 0 := by
  unfold tab0 cntL
  refine List.map_congr_left fun t ht => ?_
  have := List.mem_range.1 ht
  unfold cR
  rw [satN_zero (by decide), cntN_zero]
  cases lim <;> cases hf : finN d t <;> simp [this]
def RchK (d : DFA) (k t : Nat) : Prop := ∃ u, Wd d u ∧ u.length = k ∧ runN d d.start.toNat u = t
theorem RchK.zero {d : DFA} {t : Nat} : RchK d 0 t ↔ t = d.start.toNat := by
  constructor
  · rintro ⟨u, _, h2, h3⟩
    obtain rfl := List.length_eq_zero_iff.1 h2
    exact h3.symm
  · rintro rfl; exact ⟨[], Wd.nil, rfl, rfl⟩
theorem RchK.succ {d : DFA} {k t : Nat} : RchK d (k + 1) t ↔ ∃ s x, RchK d k s ∧ x < letN d ∧ toN d s x = t := by
  constructor
  · rintro ⟨u, h1, h2, h3⟩
    obtain ⟨v, x, rfl⟩ : ∃ v x, u = v ++ [x] := by
      rcases List.eq_nil_or_concat u with h | ⟨v, x, h⟩
      · rw [h] at h2; cases h2
      · exact ⟨v, x, h.trans (List.concat_eq_append ..)⟩
    have hv : Wd d v := fun y hy => h1 y (List.mem_append_left _ hy)
    refine ⟨_, x, ⟨v, hv, by simpa using h2, rfl⟩, h1 x (by simp), ?_⟩
    rw [runN_append] at h3; exact h3
  · rintro ⟨s, x, ⟨v, h1, h2, h3⟩, hx, h4⟩
    exact ⟨v ++ [x], h1.app (Wd.cons.2 ⟨hx, Wd.nil⟩), by simp [h2], by rw [runN_append, h3]; exact h4⟩
theorem RchK.lt {d : DFA} (hv : Val d) {k t : Nat} (h : RchK d k t) : t < d.next.length := by
  obtain ⟨u, h1, _, rfl⟩ := h
  exact runN_lt hv (start_lt hv) u h1
structure InK (d : DFA) (k : Nat) (l : List Bool) : Prop where
  len : l.length = d.next.length
  ok : ∀ t, t < d.next.length → (l.getD t false = true ↔ RchK d k t)
structure NxK (d : DFA) (k s x : Nat) (l : List Bool) : Prop where
  len : l.length = d.next.length
  ok : ∀ t, t < d.next.length → (l.getD t false = true ↔ ∃ s' x', (s' < s ∧ x' < letN d ∨ s' = s ∧ x' < x) ∧ RchK d k s' ∧ toN d s' x' = t)
theorem getD_set {l : List Bool} {s t : Nat} {v : Bool} (hs : s < l.length) : (l.set s v).getD t false = if t = s then v else l.getD t false := by
  rw [List.getD_eq_getElem?_getD, List.getElem?_set, List.getD_eq_getElem?_getD]
  by_cases e : t = s
  · subst e; simp [hs]
  · rw [if_neg (fun h => e h.symm), if_neg e]
theorem getD_rep {n t : Nat} : (List.replicate n false).getD t false = false := by
  rw [List.getD_eq_getElem?_getD, List.getElem?_replicate]; split <;> rfl
theorem InK.zero {d : DFA} (hs : d.start.toNat < d.next.length) : InK d 0 ((List.replicate d.next.length false).set d.start.toNat true) where
  len := by simp
  ok t ht := by
    rw [getD_set (by simpa using hs), RchK.zero, getD_rep]
    split <;> simp_all
theorem NxK.zero (d : DFA) (k : Nat) : NxK d k 0 0 (List.replicate d.next.length false) where
  len := by simp
  ok t ht := by
    rw [getD_rep]
    constructor
    · intro h; cases h
    · rintro ⟨s', x', h | h, _⟩ <;> omega
theorem NxK.hit {d : DFA} {k s x : Nat} {l : List Bool} (h : NxK d k s x l) (hr : RchK d k s) (ht : toN d s x < d.next.length) : NxK d k s (x + 1) (l.set (toN d s x) true) where
  len := by rw [List.length_set]; exact h.len
  ok t ht' := by
    rw [getD_set (by rw [h.len]; exact ht)]
    constructor
    · intro h1
      split at h1
      · rename_i e; exact ⟨s, x, .inr ⟨rfl, by omega⟩, hr, e.symm⟩
      · obtain ⟨s', x', h2, h3⟩ := (h.ok t ht').1 h1
        exact ⟨s', x', by omega, h3⟩
    · rintro ⟨s', x', h2, h3, h4⟩
      split
      · rfl
      · rename_i e
        refine (h.ok t ht').2 ⟨s', x', ?_, h3, h4⟩
        rcases h2 with h2 | ⟨rfl, h2⟩
        · exact .inl h2
        · have : x' ≠ x := fun e2 => e (by rw [← h4, e2])
          exact .inr ⟨rfl, by omega⟩
theorem NxK.miss {d : DFA} {k s x : Nat} {l : List Bool} (h : NxK d k s x l) (hr : ¬ RchK d k s) : NxK d k s (x + 1) l where
  len := h.len
  ok t ht' := by
    rw [h.ok t ht']
    constructor
    · rintro ⟨s', x', h2, h3⟩; exact ⟨s', x', by omega, h3⟩
    · rintro ⟨s', x', h2, h3, h4⟩
      rcases h2 with h2 | ⟨rfl, h2⟩
      · exact ⟨s', x', .inl h2, h3, h4⟩
      · exact absurd h3 hr
theorem NxK.row {d : DFA} {k s x : Nat} {l : List Bool} (h : NxK d k s x l) (hx : x = letN d) : NxK d k (s + 1) 0 l where
  len := h.len
  ok t ht' := by
    rw [h.ok t ht']
    subst hx
    constructor
    · rintro ⟨s', x', h2, h3⟩; exact ⟨s', x', by omega, h3⟩
    · rintro ⟨s', x', h2, h3⟩
      refine ⟨s', x', ?_, h3⟩
      rcases h2 with ⟨h2, h5⟩ | ⟨_, h2⟩
      · by_cases e : s' = s
        · exact .inr ⟨e, h5⟩
        · exact .inl ⟨by omega, h5⟩
      · omega
theorem NxK.end {d : DFA} (hv : Val d) {k s : Nat} {l : List Bool} (h : NxK d k s 0 l) (hs : s = d.next.length) : InK d (k + 1) l where
  len := h.len
  ok t ht' := by
    rw [h.ok t ht', RchK.succ]
    constructor
    · rintro ⟨s', x', h2, h3, h4⟩
      rcases h2 with ⟨_, h5⟩ | ⟨_, h2⟩
      · exact ⟨s', x', h3, h5, h4⟩
      · omega
    · rintro ⟨s', x', h3, h5, h4⟩
      exact ⟨s', x', .inl ⟨by have := h3.lt hv; omega, h5⟩, h3, h4⟩
theorem fin_ref {d : DFA} (hv : Val d) : ¬ InfC d d.start.toNat ↔ ∀ k, d.next.length ≤ k → k < 2 * d.next.length → ∀ s, RchK d k s → finN d s = false := by
  rw [inf_iff hv (start_lt hv)]
  constructor
  · intro h k h1 h2 s ⟨u, h3, h4, h5⟩
    cases hf : finN d s with
    | false => rfl
    | true => exact absurd ⟨u, h3, by rw [h5]; exact hf, by omega, by omega⟩ h
  · rintro h ⟨z, h1, h2, h3, h4⟩
    have := h z.length h3 h4 _ ⟨z, h1, rfl, rfl⟩
    rw [this] at h2; cases h2
end Go.Lx


namespace Go.Proofs.YtnmfefmhfkhihaaDoor
open Go.Lx Go.RowKit
set_option linter.unusedVariables false
set_option linter.unusedSimpArgs false
set_option maxHeartbeats 1000000 in
set_option maxRecDepth 20000 in
theorem shoBad (w : World) [Tab Tryd.prog w] (a : DFA) (k : DK) (ha : At w a k) (haa : a.next.length < 9223372036854775807) (haar : ∀ r ∈ a.next, r.length < 9223372036854775807) (haaf : a.final.length < 9223372036854775807) (he : checkD a ≠ 0) :
    PureT Tryd.prog 20 [dV a k] w fun v N => v = .tuple #[.slice none 0 0, .bool false, .int .i64 (checkD a : Int)] ∧ N = [] := by
  refine CallT.enter Tryd.func20 rfl Tryd.ntmps20 rfl ?_
  refine T.seq (T.region ?_)
  refine TO.loud rfl (l_box (v := (dV a k)) (cs := (dC a k)) rfl rfl (fun bx1 => ?_))
  refine TO.quiet (q_assign rfl) (TO.quiet (q_assign rfl) (TO.quiet (q_assign rfl) ?_))
  refine TO.nil (T.seq (T.seq (T.region ?_)))
  refine TO.quiet (q_load_boxAgg 0 Tryd.underlying25 rfl inf25 rfl rfl rfl) ?_
  have hk12 := fun (w1 : World) (hI : Inv w [oI bx1 25 (dC a k)] w1) => (haveI := Inv.tab (P := Tryd.prog) hI; subsetCheck w1 a k.nb k.fb k.nc k.fc (vals k.qs) (hI.dfa ha) haa haar haaf)
  refine TO.loud rfl (l_call ent33 (CallT.of_pure hk12) rfl ?_)
  clear hk12
  rintro vr O' ⟨N, rfl, rfl, rfl⟩
  refine TO.quiet (q_assign rfl) ?_
  refine TO.nil (T.seq (T.region ?_))
  refine TO.quiet (q_move rfl) (TO.quiet (QT.toB (q_neq rfl rfl) (decide_eq_true (by omega))) ?_)
  refine TO.nil ?_
  refine T.cond1 rfl ?_
  refine T.seq (T.region ?_)
  refine TO.quiet (q_move rfl) (TO.quiet (q_assign rfl) (TO.quiet (q_assign rfl) (TO.quiet (q_assign rfl) ?_)))
  refine TO.nil (T.ret (Res.drop ?_))
  refine Res.three (.slice none 0 0) (.bool false) (.int .i64 (checkD a : Int)) Tryd.results20 rfl rfl rfl ?_
  exact ⟨[], Sub.z, rfl, rfl⟩
set_option maxHeartbeats 8000000 in
set_option maxRecDepth 20000 in
theorem shoOk (w : World) [Tab Tryd.prog w] (a : DFA) (k : DK) (ha : At w a k) (hv : Valid a) :
    PureT Tryd.prog 20 [dV a k] w fun v N => ∃ res, LeastA a res ∧ ShoV 5 0 v N res := by
  refine CallT.enter Tryd.func20 rfl Tryd.ntmps20 rfl ?_
  have he := checkD_zero.2 hv
  have haa : a.next.length < 9223372036854775807 := by have := hv.n4; omega
  have haar : ∀ r ∈ a.next, r.length < 9223372036854775807 := hv.bound
  have haaf : a.final.length < 9223372036854775807 := by have := hv.fin; omega
  have h4 := hv.n4
  have hww := hv.width
  have hsl := start_lt hv.toVal
  have hs0 := hv.s0
  have hs1 := hv.s1
  have hvl := ha.rows.1
  have hfin := hv.fin
  refine T.seq (T.region ?_)
  refine TO.loud rfl (l_box (v := (dV a k)) (cs := (dC a k)) rfl rfl (fun z1 => ?_))
  refine TO.quiet (q_assign rfl) (TO.quiet (q_assign rfl) (TO.quiet (q_assign rfl) ?_))
  refine TO.nil (T.seq (T.seq (T.region ?_)))
  refine TO.quiet (q_load_boxAgg 0 Tryd.underlying25 rfl inf25 rfl rfl rfl) ?_
  have hk12 := fun (w1 : World) (hI : Inv w [oI z1 25 (dC a k)] w1) => (haveI := Inv.tab (P := Tryd.prog) hI; subsetCheck w1 a k.nb k.fb k.nc k.fc (vals k.qs) (hI.dfa ha) haa haar haaf)
  refine TO.loud rfl (l_call ent33 (CallT.of_pure hk12) rfl ?_)
  clear hk12
  rintro vr O' ⟨N, rfl, rfl, rfl⟩
  rw [he]
  refine TO.quiet (q_assign rfl) ?_
  refine TO.nil (T.seq (T.region ?_))
  refine TO.quiet (q_move rfl) (TO.quiet (q_neq rfl rfl) ?_)
  refine TO.nil ?_
  refine T.cond0 rfl ?_
  refine T.skip (T.seq (T.region ?_))
  refine TO.quiet (q_fieldAddr Tryd.underlying25 rfl inf22 rfl rfl) (TO.quiet (q_load_box 0 Tryd.underlying22 rfl rfl rfl rfl) (TO.quiet (q_len Tryd.underlying22 rfl) ?_))
  refine TO.loud rfl (l_makeSlice (m := a.next.length) Tryd.underlying23 inf4 rfl rfl (by omega) (by omega) (fun z2 => ?_))
  refine TO.quiet (q_assign rfl) ?_
  refine TO.nil (T.seq (T.region ?_))
  refine TO.quiet (q_move rfl) (TO.quiet (q_fieldAddr Tryd.underlying25 rfl inf3 rfl rfl) (TO.quiet (q_load_box 1 Tryd.underlying3 rfl rfl rfl rfl) (TO.quiet (q_ixz (i := a.start) Tryd.underlying23 inf4 rfl rfl (rowO (List.mem_of_getElem? (i := 0) rfl)) (by first | assumption | omega) (by omega) (by rw [List.length_replicate]; omega)) ?_)))
  refine TO.loud rfl (l_st (j := a.start.toNat) (v := .bool true) (vs := [(.bool true)]) (cs := List.replicate a.next.length (.bool false)) 0 inf4 rfl rfl rfl rfl rfl (by simp) rfl (by rw [List.length_replicate]; simp; omega) ?_)
  refine TO.sub (O' := [rowI (some ⟨z2, 0, none⟩) a.next.length 4 1 (bools (seenB a (shq a 0))), oI z1 25 (dC a k)]) (by rw [show putL (List.replicate a.next.length (.bool false)) a.start.toNat [(.bool true)] = bools (seenB a (shq a 0)) from (by rw [← seenB_zero]; exact seenB_put [] hsl)]; exact Sub.of (List.Sublist.refl _)) ?_
  refine TO.nil (T.seq (T.seq (T.region ?_)))
  refine TO.quiet (q_fieldAddr Tryd.underlying25 rfl inf3 rfl rfl) (TO.quiet (q_load_box 1 Tryd.underlying3 rfl rfl rfl rfl) (TO.quiet (q_build (cs := [(.int .i64 a.start), (.slice none 0 0)]) plan70 inf70 (by kernel_rfl)) ?_))
  refine TO.loud rfl (l_buildSlice (m := 1) (parts := [(0, _)]) (cs := [(.int .i64 a.start), (.slice none 0 0)]) Tryd.underlying71 inf70 (by decide) (by kernel_rfl) rfl (fun z3 => ?_))
  refine TO.quiet (q_assign rfl) ?_
  refine TO.nil ?_
  refine T.nilRow 5 1 ?_
  refine T.sub (O' := [rowI (some ⟨z3, 0, none⟩) 1 70 2 [(.int .i64 a.start), (.slice none 0 0)], rowI (some ⟨z2, 0, none⟩) a.next.length 4 1 (bools (seenB a (shq a 0))), oI z1 25 (dC a k), rowI none 0 5 1 []]) (by exact Sub.pull [rowI none 0 5 1 []] _ (.pull [rowI none 0 5 1 []] _ (.pull [rowI none 0 5 1 []] _ (.k .z)))) ?_
  refine T.sub (O' := ([rowI (some ⟨z3, 0, none⟩) 1 70 2 (rcells [⟨(a.start.toNat, a.start.toNat), none, 0, []⟩]), rowI (some ⟨z2, 0, none⟩) a.next.length 4 1 (bools (seenB a (shq a 0))), oI z1 25 (dC a k)] ++ qitms 5 [⟨(a.start.toNat, a.start.toNat), none, 0, []⟩])) (by rw [show rcells [⟨(a.start.toNat, a.start.toNat), none, 0, []⟩] = [.int .i64 ((a.start.toNat : Nat) : Int), .slice none 0 0] from rfl, show ((a.start.toNat : Nat) : Int) = a.start from Int.toNat_of_nonneg hs0]; exact Sub.rf) ?_
  refine T.block ?_
  refine T.loop (fun (i : Nat) ρ O => ∃ (qb : Option Addr) (qc m : Nat) (rs : List QRec), O = ([rowI qb qc 70 2 (rcells rs), rowI (some ⟨z2, 0, none⟩) a.next.length 4 1 (bools (seenB a (shq a i))), oI z1 25 (dC a k)] ++ (qitms 5 rs)) ∧ m = rs.length ∧ rs.map QRec.stp = (shq a i).drop i ∧ (∀ j, j < i → ∃ q, (shq a j)[j]? = some q ∧ finN a q.1.1 = false) ∧ Heads [(0, (dV a k)), (1, (.pointer (some ⟨z1, 0, none⟩))), (5, .int .i64 0), (6, (.slice (some ⟨z2, 0, none⟩) a.next.length a.next.length)), (7, (.slice qb m qc))] ρ) (fun i => a.next.length - i) 0 ?_ ?_
  · exact ⟨_, _, 1, [⟨(a.start.toNat, a.start.toNat), none, 0, []⟩], rfl, rfl, rfl, fun j hj => absurd hj (by omega), ⟨rfl, rfl, rfl, rfl, rfl, trivial⟩⟩
  rintro i ρ O ⟨qb, qc, m, rs, rfl, hm, hrs, hj, hH⟩
  obtain ⟨ρ0, rfl⟩ := hH.elim
  clear hH
  refine T.seq (T.seq (T.region ?_))
  refine TO.quiet (q_move rfl) (TO.quiet (q_len Tryd.underlying71 rfl) (TO.quiet (q_gtr rfl rfl) ?_))
  refine TO.nil ?_
  refine T.condP rfl (fun hc => ?_) (fun hc => ?_)
  · have hlt30 : m > 0 := by omega
    refine T.skip (T.seq (T.block (T.seq ?_)))
    obtain ⟨q0, rest, rfl⟩ : ∃ q0 rest, rs = q0 :: rest := by
      cases rs with
      | nil => subst hm; exact absurd hc (by simp)
      | cons a l => exact ⟨a, l, rfl⟩
    obtain ⟨m, rfl⟩ : ∃ k, m = k + 1 := ⟨rest.length, hm⟩
    have hm : m = rest.length := by simpa using hm
    have hq0 : (shq a i)[i]? = some q0.stp := by
      have := congrArg List.head? hrs
      rw [List.head?_drop] at this
      simpa using this.symm
    have hmid := fun x (hx : x ≤ letN a) => sho_mid hv.toVal hj hq0 hx
    have hpd : q0.p = (q0.p.1, q0.p.1) := (hmid 0 (Nat.zero_le _)).2.1
    have hp1 : q0.p.1 < a.next.length := (hmid 0 (Nat.zero_le _)).2.2.1
    have hwl : q0.xs.length ≤ i := (hmid 0 (Nat.zero_le _)).2.2.2.1
    have hi9 := (hmid 0 (Nat.zero_le _)).2.2.2.2.1
    have hf1 : q0.p.1 < a.final.length := by omega
    obtain ⟨vb1, vc1, g1, s1⟩ := ha.rows.get hp1
    have hl1 : a.next[q0.p.1].length = 2 ^ a.vars.toNat := hv.len _ (List.getElem_mem hp1)
    refine T.region ?_
    refine TO.quiet (q_move rfl) (TO.quiet (q_ixK (i := 0) Tryd.underlying71 inf70 rfl rfl (rowO (List.mem_of_getElem? (i := 0) rfl)) (by omega) (by rw [rcells_len]; simp)) (TO.quiet (q_ldK (vs := [(.int .i64 ((q0.p.1 : Nat) : Int)), (.slice q0.b q0.xs.length q0.c)]) Tryd.underlying70 rfl inf70 rfl rfl (Nat.succ_pos _) (rowO (List.mem_of_getElem? (i := 0) rfl)) (by intro j hj; match j, hj with | 0, _ => rfl | 1, _ => rfl)) ?_))
    refine TO.loud rfl (l_alloc inf70 rfl (fun z4 => ?_))
    refine TO.loud rfl (l_store_box (v := (.agg #[(.int .i64 ((q0.p.1 : Nat) : Int)), (.slice q0.b q0.xs.length q0.c)])) (vs := [(.int .i64 ((q0.p.1 : Nat) : Int)), (.slice q0.b q0.xs.length q0.c)]) 0 inf70 rfl rfl rfl rfl rfl rfl (by simp [putL]) ?_)
    refine TO.nil (T.seq (T.seq (T.region ?_)))
    refine TO.quiet (q_fieldAddr Tryd.underlying25 rfl inf23 rfl rfl) (TO.quiet (q_load_box 3 Tryd.underlying23 rfl rfl rfl rfl) (TO.quiet (q_fieldAddr Tryd.underlying70 rfl inf3 rfl rfl) (TO.quiet (q_load_box 0 Tryd.underlying3 rfl rfl rfl rfl) ?_)))
    refine TO.quiet (q_ix (i := q0.p.1) Tryd.underlying23 inf4 rfl rfl (Sl.o ha.final) hf1 (by rw [List.length_map]; exact hf1)) (TO.quiet (q_ld Tryd.underlying4 rfl rfl (Sl.o ha.final) (bools_get hf1)) ?_)
    refine TO.nil ?_
    refine T.cond rfl (fun hc => ?_) (fun hc => ?_)
    · have hne : finN a q0.p.1 = true := by simpa [finN, hf1] using hc
      refine T.seq (T.region ?_)
      refine TO.quiet (q_fieldAddr Tryd.underlying70 rfl inf29 rfl rfl) (TO.quiet (q_load_box 0 Tryd.underlying29 rfl rfl rfl rfl) (TO.quiet (q_assign rfl) (TO.quiet (q_assign rfl) ?_)))
      refine TO.quiet (q_assign rfl) ?_
      refine TO.nil (T.ret (Res.drop ?_))
      refine Res.three (.slice q0.b q0.xs.length q0.c) (.bool true) (.int .i64 0) Tryd.results20 rfl rfl rfl ?_
      exact ⟨[QRec.itm 5 q0], (by show Sub _ ([oI z4 70 [(.int .i64 ((q0.p.1 : Nat) : Int)), (.slice q0.b q0.xs.length q0.c)], rowI qb qc 70 2 (rcells (q0 :: rest)), rowI (some ⟨z2, 0, none⟩) a.next.length 4 1 (bools (seenB a (shq a i))), oI z1 25 (dC a k)] ++ qitms 5 (q0 :: rest)); exact Sub.appL [oI z4 70 [(.int .i64 ((q0.p.1 : Nat) : Int)), (.slice q0.b q0.xs.length q0.c)], rowI qb qc 70 2 (rcells (q0 :: rest)), rowI (some ⟨z2, 0, none⟩) a.next.length 4 1 (bools (seenB a (shq a i))), oI z1 25 (dC a k)] (Sub.k Sub.z)), some q0.xs, ShR.least hv.toVal ⟨i, hj, q0.stp, hq0, hne, rfl⟩, q0.b, q0.c, rfl, rfl⟩
    have heq : finN a q0.p.1 = false := by simpa [finN, hf1] using hc
    refine T.skip (T.seq (T.region ?_))
    refine TO.quiet (q_fieldAddr Tryd.underlying25 rfl inf22 rfl rfl) (TO.quiet (q_load_box 3 Tryd.underlying22 rfl rfl rfl rfl) (TO.quiet (q_fieldAddr Tryd.underlying70 rfl inf3 rfl rfl) (TO.quiet (q_load_box 0 Tryd.underlying3 rfl rfl rfl rfl) ?_)))
    refine TO.quiet (q_ix (i := q0.p.1) Tryd.underlying22 inf41 rfl rfl (Sl.o ha.outer) hp1 (hvl ▸ hp1)) (TO.quiet (q_ld Tryd.underlying41 rfl rfl (Sl.o ha.outer) g1) (TO.quiet (q_len Tryd.underlying41 rfl) (TO.quiet (q_move rfl) ?_)))
    refine TO.nil (T.block ?_)
    refine T.sub (O' := ([rowI qb qc 70 2 (rcells (q0 :: rest)), rowI (some ⟨z2, 0, none⟩) a.next.length 4 1 (bools (seenB a (shq a i))), oI z4 70 [(.int .i64 ((q0.p.1 : Nat) : Int)), (.slice q0.b q0.xs.length q0.c)], oI z1 25 (dC a k)] ++ qitms 5 (q0 :: rest))) (Sub.pickR [1, 1, 0, 0] [oI z4 70 [(.int .i64 ((q0.p.1 : Nat) : Int)), (.slice q0.b q0.xs.length q0.c)], rowI qb qc 70 2 (rcells (q0 :: rest)), rowI (some ⟨z2, 0, none⟩) a.next.length 4 1 (bools (seenB a (shq a i))), oI z1 25 (dC a k)] (qitms 5 (q0 :: rest)) rfl rfl) ?_
    refine T.loop (fun (x : Nat) ρ O => ∃ (qb : Option Addr) (qc m : Nat) (rest : List QRec), O = ([rowI qb qc 70 2 (rcells (q0 :: rest)), rowI (some ⟨z2, 0, none⟩) a.next.length 4 1 (bools (seenB a (pushN a q0.stp (shq a i) x))), oI z4 70 [(.int .i64 ((q0.p.1 : Nat) : Int)), (.slice q0.b q0.xs.length q0.c)], oI z1 25 (dC a k)] ++ (qitms 5 (q0 :: rest))) ∧ x ≤ letN a ∧ m = rest.length ∧ (q0 :: rest).map QRec.stp = (pushN a q0.stp (shq a i) x).drop i ∧ Heads [(0, (dV a k)), (1, (.pointer (some ⟨z1, 0, none⟩))), (5, .int .i64 0), (6, (.slice (some ⟨z2, 0, none⟩) a.next.length a.next.length)), (7, (.slice qb (m + 1) qc)), (8, (.pointer (some ⟨z4, 0, none⟩))), (49, (.slice vb1 a.next[q0.p.1].length vc1)), (50, .int .i64 (a.next[q0.p.1].length : Int)), (51, .int .i64 ((x : Nat) : Int))] ρ) (fun x => letN a - x) 0 ?_ ?_
    · exact ⟨qb, qc, m, rest, rfl, Nat.zero_le _, hm, hrs, ⟨rfl, rfl, rfl, rfl, rfl, rfl, rfl, rfl, rfl, trivial⟩⟩
    rintro x ρ O ⟨qb, qc, m, rest, rfl, hx9, hm, hrs2, hH⟩
    obtain ⟨ρ0, rfl⟩ := hH.elim
    clear hH
    refine T.seq (T.region ?_)
    refine TO.quiet (q_lss rfl rfl) ?_
    refine TO.nil (T.seq ?_)
    refine T.condP rfl (fun hc => ?_) (fun hc => ?_)
    · have hlt52 : x < a.next[q0.p.1].length := by omega
      have hlx : x < letN a := by rw [hl1] at hlt52; exact hlt52
      refine T.skip (T.seq (T.block (T.seq ?_)))
      obtain ⟨hto, _, hxk1, hx1⟩ := hv.toN_lt hp1 hlx
      have hx1 : (ints a.next[q0.p.1])[x]? = some (.int .i64 ((toN a q0.p.1 x : Nat) : Int)) := by rw [ints_get hxk1, hx1]
      have hsd : suc2 a q0.p x = (toN a q0.p.1 x, toN a q0.p.1 x) := by rw [hpd]; rfl
      refine T.region ?_
      refine TO.quiet (q_move rfl) (TO.quiet (q_ix (i := x) Tryd.underlying41 inf3 rfl rfl (Sl.o s1) hlt52 (by rw [List.length_map]; exact hlt52)) (TO.quiet (q_ld Tryd.underlying3 rfl rfl (Sl.o s1) hx1) (TO.quiet (q_assign rfl) ?_)))
      refine TO.quiet (q_assign rfl) ?_
      refine TO.nil (T.seq (T.region ?_))
      refine TO.quiet (q_move rfl) (TO.quiet (q_move rfl) (TO.quiet (q_ix (i := (toN a q0.p.1 x)) Tryd.underlying23 inf4 rfl rfl (rowO (List.mem_of_getElem? (i := 1) rfl)) hto (by rw [List.length_map, seenB_len]; exact hto)) (TO.quiet (q_ld Tryd.underlying4 rfl rfl (rowO (List.mem_of_getElem? (i := 1) rfl)) (seenB_at hto)) ?_)))
      refine TO.quiet (QT.cast (q_not rfl) (v' := .bool (decide (¬ suc2 a q0.p x ∈ (pushN a q0.stp (shq a i) x).map Prod.fst))) (by rw [hsd]; simp)) ?_
      refine TO.nil ?_
      refine T.condP rfl (fun hc => ?_) (fun hc => ?_)
      · have hin : ¬ suc2 a q0.p x ∈ (pushN a q0.stp (shq a i) x).map Prod.fst := hc
        have hsc := fun w => show bools (seenB a ((pushN a q0.stp (shq a i) x) ++ [(suc2 a q0.p x, w)])) = bools (seenB a ((pushN a q0.stp (shq a i) x) ++ [(suc2 a q0.p x, w)])) from rfl
        have hrl : rest.length + 1 ≤ a.next.length := by
          have := congrArg List.length hrs2
          simp at this
          have := (hmid x hx9).1
          omega
        have hil := (hmid x hx9).2.2.2.2.2
        refine T.seq (T.region ?_)
        refine TO.quiet (q_move rfl) (TO.quiet (q_move rfl) (TO.quiet (q_ix (i := (toN a q0.p.1 x)) Tryd.underlying23 inf4 rfl rfl (rowO (List.mem_of_getElem? (i := 1) rfl)) hto (by rw [List.length_map, seenB_len]; exact hto)) ?_))
        refine TO.loud rfl (l_st (j := (toN a q0.p.1 x)) (v := .bool true) (vs := [(.bool true)]) (cs := bools (seenB a (pushN a q0.stp (shq a i) x))) 1 inf4 rfl rfl rfl rfl rfl (by simp) rfl (by rw [List.length_map, seenB_len]; simp; omega) ?_)
        refine TO.sub (O' := ([rowI qb qc 70 2 (rcells (q0 :: rest)), rowI (some ⟨z2, 0, none⟩) a.next.length 4 1 (bools (seenB a ((pushN a q0.stp (shq a i) x) ++ [(suc2 a q0.p x, q0.xs ++ [x])]))), oI z4 70 [(.int .i64 ((q0.p.1 : Nat) : Int)), (.slice q0.b q0.xs.length q0.c)], oI z1 25 (dC a k)] ++ (qitms 5 (q0 :: rest)))) (by rw [show putL (bools (seenB a (pushN a q0.stp (shq a i) x))) (toN a q0.p.1 x) [(.bool true)] = bools (seenB a ((pushN a q0.stp (shq a i) x) ++ [(suc2 a q0.p x, q0.xs ++ [x])])) from (by rw [hsd]; exact seenB_put _ hto)]; exact Sub.of (List.Sublist.refl _)) ?_
        refine TO.nil (T.region ?_)
        refine TO.quiet (q_move rfl) (TO.quiet (q_move rfl) (TO.quiet (q_fieldAddr Tryd.underlying70 rfl inf29 rfl rfl) (TO.quiet (q_load_box 2 Tryd.underlying29 rfl rfl rfl rfl) ?_)))
        have hk68 := fun (w1 : World) (hI : Inv w ([rowI qb qc 70 2 (rcells (q0 :: rest)), rowI (some ⟨z2, 0, none⟩) a.next.length 4 1 (bools (seenB a ((pushN a q0.stp (shq a i) x) ++ [(suc2 a q0.p x, q0.xs ++ [x])]))), oI z4 70 [(.int .i64 ((q0.p.1 : Nat) : Int)), (.slice q0.b q0.xs.length q0.c)], oI z1 25 (dC a k)] ++ (qitms 5 (q0 :: rest))) w1) => (haveI := Inv.tab (P := Tryd.prog) hI; cloneC w1 q0.b q0.c q0.xs (hI.slOf (T := 5) (k := 1) (List.mem_append_right _ List.mem_cons_self)) (by omega))
        refine TO.loud rfl (l_call ent44 (CallT.of_pure hk68) rfl ?_)
        clear hk68
        rintro vr O' ⟨N, rfl, wb, wc, rfl, rfl⟩
        refine TO.quiet (q_move rfl) (TO.quiet (q_conv_id Tryd.underlying3 Tryd.underlying5 rfl (wrap8 (by omega))) ?_)
        refine TO.loud rfl (l_build1 (v := .int .u8 ((x : Nat) : Int)) Tryd.underlying29 inf5 rfl rfl rfl (fun z5 => ?_))
        refine TO.loud rfl (l_append 1 Tryd.underlying29 Tryd.underlying29 inf5 rfl rfl rfl rfl (by rw [List.length_map, Nat.mul_one]) (by decide) (Src.row (j := 0) rfl (by simp)) (by simp [oneB]) (by omega) (by decide) (by decide) (fun z6 zc7 => ?_))
        refine TO.quiet (q_build (cs := [.int .i64 ((toN a q0.p.1 x : Nat) : Int), (.slice z6 (q0.xs.length + 1) zc7)]) plan70 inf70 (by kernel_rfl)) ?_
        refine TO.loud rfl (l_buildSlice (m := 1) (parts := [(0, _)]) (cs := [.int .i64 ((toN a q0.p.1 x : Nat) : Int), (.slice z6 (q0.xs.length + 1) zc7)]) Tryd.underlying71 inf70 (by decide) (by kernel_rfl) rfl (fun z8 => ?_))
        refine TO.loud rfl (l_append 3 Tryd.underlying71 Tryd.underlying71 inf70 rfl rfl rfl rfl (by rw [rcells_len, hm]; rfl) (by decide) (Src.row (j := 0) rfl (by simp)) (by simp [oneB]) (by omega) (by decide) (by decide) (fun z9 zc10 => ?_))
        refine TO.quiet (q_assign rfl) ?_
        refine TO.nil ?_
        obtain ⟨wb2, hwb2⟩ : ∃ z, z = z6 := ⟨_, rfl⟩
        obtain ⟨wc2, hwc2⟩ : ∃ z, z = zc7 := ⟨_, rfl⟩
        refine T.sub (O' := ([rowI z9 zc10 70 2 ((rcells (q0 :: rest)) ++ [.int .i64 ((toN a q0.p.1 x : Nat) : Int), (.slice z6 (q0.xs.length + 1) zc7)]), rowI (some ⟨z2, 0, none⟩) a.next.length 4 1 (bools (seenB a ((pushN a q0.stp (shq a i) x) ++ [(suc2 a q0.p x, q0.xs ++ [x])]))), oI z4 70 [(.int .i64 ((q0.p.1 : Nat) : Int)), (.slice q0.b q0.xs.length q0.c)], oI z1 25 (dC a k), rowI z6 zc7 5 1 ((byts q0.xs) ++ [.int .u8 ((x : Nat) : Int)])] ++ qitms 5 (q0 :: rest))) (Sub.pickR [3, 3, 3, 3, 2] [rowI (some ⟨z8, 0, none⟩) 1 70 2 [.int .i64 ((toN a q0.p.1 x : Nat) : Int), (.slice z6 (q0.xs.length + 1) zc7)], rowI (some ⟨z5, 0, none⟩) 1 5 1 [.int .u8 ((x : Nat) : Int)], rowI z6 zc7 5 1 ((byts q0.xs) ++ [.int .u8 ((x : Nat) : Int)]), rowI z9 zc10 70 2 ((rcells (q0 :: rest)) ++ [.int .i64 ((toN a q0.p.1 x : Nat) : Int), (.slice z6 (q0.xs.length + 1) zc7)]), rowI (some ⟨z2, 0, none⟩) a.next.length 4 1 (bools (seenB a ((pushN a q0.stp (shq a i) x) ++ [(suc2 a q0.p x, q0.xs ++ [x])]))), oI z4 70 [(.int .i64 ((q0.p.1 : Nat) : Int)), (.slice q0.b q0.xs.length q0.c)], oI z1 25 (dC a k)] (qitms 5 (q0 :: rest)) rfl rfl) ?_
        refine T.sub (O' := ([rowI z9 zc10 70 2 ((rcells (q0 :: rest)) ++ [.int .i64 ((toN a q0.p.1 x : Nat) : Int), (.slice z6 (q0.xs.length + 1) zc7)]), rowI (some ⟨z2, 0, none⟩) a.next.length 4 1 (bools (seenB a ((pushN a q0.stp (shq a i) x) ++ [(suc2 a q0.p x, q0.xs ++ [x])]))), oI z4 70 [(.int .i64 ((q0.p.1 : Nat) : Int)), (.slice q0.b q0.xs.length q0.c)], oI z1 25 (dC a k)] ++ qitms 5 (q0 :: (rest ++ [⟨suc2 a q0.p x, wb2, wc2, q0.xs ++ [x]⟩])))) (by rw [show qitms 5 (q0 :: (rest ++ [⟨suc2 a q0.p x, wb2, wc2, q0.xs ++ [x]⟩])) = qitms 5 (q0 :: rest) ++ [rowI z6 zc7 5 1 ((byts q0.xs) ++ [.int .u8 ((x : Nat) : Int)])] by subst hwb2; subst hwc2; simp [QRec.itm]]; exact Sub.foldN [rowI z9 zc10 70 2 ((rcells (q0 :: rest)) ++ [.int .i64 ((toN a q0.p.1 x : Nat) : Int), (.slice z6 (q0.xs.length + 1) zc7)]), rowI (some ⟨z2, 0, none⟩) a.next.length 4 1 (bools (seenB a ((pushN a q0.stp (shq a i) x) ++ [(suc2 a q0.p x, q0.xs ++ [x])]))), oI z4 70 [(.int .i64 ((q0.p.1 : Nat) : Int)), (.slice q0.b q0.xs.length q0.c)], oI z1 25 (dC a k)] (rowI z6 zc7 5 1 ((byts q0.xs) ++ [.int .u8 ((x : Nat) : Int)])) (qitms 5 (q0 :: rest)) _ rfl) ?_
        refine T.region ?_
        refine TO.quiet (q_addN (a := x) (b := 1) rfl rfl (by omega)) (TO.quiet (q_move rfl) ?_)
        refine TO.nil ?_
        have hA : pushN a q0.stp (shq a i) (x + 1) = (pushN a q0.stp (shq a i) x) ++ [(suc2 a q0.p x, q0.xs ++ [x])] := by
          show pushS a q0.stp _ x = _
          unfold pushS
          exact if_neg hin
        refine ⟨x + 1, by omega, z9, zc10, m + 1, rest ++ [⟨suc2 a q0.p x, wb2, wc2, q0.xs ++ [x]⟩], ?_, by omega, by simp [hm], ?_, ⟨rfl, rfl, rfl, rfl, rfl, rfl, rfl, rfl, rfl, trivial⟩⟩
        · rw [hA, hsc, show rcells (q0 :: (rest ++ [⟨suc2 a q0.p x, wb2, wc2, q0.xs ++ [x]⟩])) = rcells (q0 :: rest) ++ [(.int .i64 ((toN a q0.p.1 x : Nat) : Int)), (.slice wb2 (q0.xs.length + 1) wc2)] by simp [QRec.cel, suc2]]; subst hwb2; subst hwc2; rfl
        · rw [hA, List.drop_append_of_le_length (by omega), ← hrs2]; simp [QRec.stp]
      have hin : suc2 a q0.p x ∈ (pushN a q0.stp (shq a i) x).map Prod.fst := Classical.not_not.1 hc
      have hil := (hmid x hx9).2.2.2.2.2
      refine T.skip (T.region ?_)
      refine TO.quiet (q_addN (a := x) (b := 1) rfl rfl (by omega)) (TO.quiet (q_move rfl) ?_)
      refine TO.nil ?_
      have hA : pushN a q0.stp (shq a i) (x + 1) = (pushN a q0.stp (shq a i) x) := by
        show pushS a q0.stp _ x = _
        unfold pushS
        exact if_pos hin
      refine ⟨x + 1, by omega, qb, qc, m, rest, by rw [hA], by omega, hm, by rw [hA]; exact hrs2, ⟨rfl, rfl, rfl, rfl, rfl, rfl, rfl, rfl, rfl, trivial⟩⟩
    have hge52 : ¬ x < a.next[q0.p.1].length := by omega
    refine T.exit ?_
    refine T.region ?_
    refine TO.quiet (q_move rfl) ?_
    refine TO.loud rfl (l_tail 0 Tryd.underlying71 inf70 (by decide) rfl rfl rfl (by rw [rcells_len, hm]; rfl) (by omega) (fun z11 => ?_))
    refine TO.quiet (q_assign rfl) ?_
    refine TO.sub (O' := ([rowI z11 (qc - 1) 70 2 (rcells rest), rowI (some ⟨z2, 0, none⟩) a.next.length 4 1 (bools (seenB a (pushN a q0.stp (shq a i) x))), oI z1 25 (dC a k)] ++ qitms 5 (q0 :: rest))) (Sub.pickR [0, 0, 1] [rowI z11 (qc - 1) 70 2 (rcells rest), rowI (some ⟨z2, 0, none⟩) a.next.length 4 1 (bools (seenB a (pushN a q0.stp (shq a i) x))), oI z4 70 [(.int .i64 ((q0.p.1 : Nat) : Int)), (.slice q0.b q0.xs.length q0.c)], oI z1 25 (dC a k)] (qitms 5 (q0 :: rest)) rfl rfl) ?_
    refine TO.sub (O' := ([rowI z11 (qc - 1) 70 2 (rcells rest), rowI (some ⟨z2, 0, none⟩) a.next.length 4 1 (bools (seenB a (pushN a q0.stp (shq a i) x))), oI z1 25 (dC a k)] ++ qitms 5 rest)) (by exact Sub.k (Sub.k (Sub.k (Sub.d Sub.rf)))) ?_
    refine TO.nil ?_
    have hxe : x = letN a := Nat.le_antisymm hx9 (by rw [hl1] at hge52; exact Nat.le_of_not_lt hge52)
    have hbq : pushN a q0.stp (shq a i) x = shq a (i + 1) := by rw [hxe]; exact (bq_succ hq0).symm
    refine ⟨i + 1, by omega, z11, qc - 1, m, rest, by rw [hbq], hm, ?_, ?_, ⟨rfl, rfl, rfl, rfl, rfl, trivial⟩⟩
    · rw [← hbq]; have := congrArg List.tail hrs2; simpa [List.tail_drop] using this
    · intro j hj9
      by_cases e : j = i
      · subst e; exact ⟨q0.stp, hq0, heq⟩
      · exact hj j (by omega)
  have hge30 : ¬ m > 0 := by omega
  refine T.exit ?_
  refine T.seq (T.region ?_)
  refine TO.quiet (q_assign rfl) (TO.quiet (q_assign rfl) (TO.quiet (q_assign rfl) ?_))
  refine TO.nil (T.ret (Res.drop ?_))
  refine Res.three (.slice none 0 0) (.bool false) (.int .i64 0) Tryd.results20 rfl rfl rfl ?_
  have hend : (shq a i).length ≤ i := by
    have := congrArg List.length hrs
    simp at this
    omega
  exact ⟨[], Sub.z, none, ShR.least hv.toVal (res := none) ⟨i, hj, hend⟩, rfl, rfl⟩
end Go.Proofs.YtnmfefmhfkhihaaDoor


namespace Go.Proofs.YtnmfefmhfkhihaaDoor
open Go.Lx Go.RowKit
set_option linter.unusedVariables false
set_option linter.unusedSimpArgs false
theorem shoC (w : World) [Tab Tryd.prog w] (a : DFA) (k : DK) (ha : At w a k) (haa : a.next.length < 9223372036854775807) (haar : ∀ r ∈ a.next, r.length < 9223372036854775807) (haaf : a.final.length < 9223372036854775807) :
    PureT Tryd.prog 20 [dV a k] w fun v N => ∃ res wb wc, (checkD a = 0 → LeastA a res) ∧ (checkD a ≠ 0 → res = none) ∧ v = .tuple #[.slice wb (res.getD []).length wc, .bool res.isSome, .int .i64 (checkD a : Int)] ∧ N = [rowI wb wc 5 1 (byts (res.getD []))] := by
  by_cases he : checkD a ≠ 0
  · refine (CallT.nilOr 5 1 (shoBad w a k ha haa haar haaf he)).mono ?_
    rintro v N ⟨O2, hN, h1, h2⟩
    exact ⟨none, none, 0, fun h => absurd h he, fun _ => rfl, h1, hN.2 h2⟩
  · have h0 : checkD a = 0 := by omega
    refine (CallT.nilOr 5 1 (shoOk w a k ha (checkD_zero.1 h0))).mono ?_
    rintro v N ⟨O2, hN, res, hL, hV⟩
    rw [h0]
    cases res with
    | none => exact ⟨none, none, 0, fun _ => hL, fun _ => rfl, hV.1, hN.2 hV.2⟩
    | some u =>
      obtain ⟨b, c, h1, h2⟩ := hV
      exact ⟨some u, b, c, fun _ => hL, fun h => absurd rfl h, h1, (hN.1 (by rw [h2]; simp)).trans h2⟩
set_option maxHeartbeats 1000000 in
set_option maxRecDepth 20000 in
theorem emptyC (w : World) [Tab Tryd.prog w] (a : DFA) (k : DK) (ha : At w a k) (haa : a.next.length < 9223372036854775807) (haar : ∀ r ∈ a.next, r.length < 9223372036854775807) (haaf : a.final.length < 9223372036854775807) :
    PureT Tryd.prog 30 [dV a k] w fun v N => ∃ b, v = .tuple #[.bool b, .int .i64 (checkD a : Int)] ∧ N = [] ∧ (checkD a = 0 → (b = true ↔ ∀ u, Wd a u → acc a u = false)) ∧ (checkD a ≠ 0 → b = false) := by
  refine CallT.enter Tryd.func30 rfl Tryd.ntmps30 rfl ?_
  refine T.seq (T.region ?_)
  refine TO.loud rfl (l_box (v := (dV a k)) (cs := (dC a k)) rfl rfl (fun z1 => ?_))
  refine TO.quiet (q_assign rfl) (TO.quiet (q_assign rfl) ?_)
  refine TO.nil (T.seq (T.region ?_))
  refine TO.quiet (q_load_boxAgg 0 Tryd.underlying25 rfl inf25 rfl rfl rfl) ?_
  have hk9 := fun (w1 : World) (hI : Inv w [oI z1 25 (dC a k)] w1) => (haveI := Inv.tab (P := Tryd.prog) hI; shoC w1 a k (hI.atB ha) haa haar haaf)
  refine TO.loud rfl (l_call ent20 (CallT.of_pure hk9) rfl ?_)
  clear hk9
  rintro vr O' ⟨N, rfl, res, wb, wc, hL, hn, rfl, rfl⟩
  refine TO.quiet (q_move rfl) (TO.quiet (q_extract (vs := _) rfl rfl) (TO.quiet (q_extract (vs := _) rfl rfl) (TO.quiet (q_extract (vs := _) rfl rfl) ?_)))
  refine TO.quiet (q_assign rfl) (TO.quiet (q_assign rfl) (TO.quiet (q_assign rfl) ?_))
  refine TO.nil (T.seq (T.region ?_))
  refine TO.quiet (q_move rfl) ?_
  by_cases h0 : checkD a = 0
  · refine TO.quiet (QT.toB (QT.cast (q_eql rfl rfl) (v' := .bool (decide (checkD a = 0))) (congrArg Value.bool (decide_eq_decide.2 (by omega)))) (decide_eq_true h0)) ?_
    refine TO.quiet (q_move rfl) ?_
    refine TO.guarded rfl rfl rfl (LT.of_quiet rfl rfl (q_move rfl) ?_)
    refine TO.guarded rfl rfl rfl (LT.of_quiet rfl rfl (q_not rfl) ?_)
    refine TO.quiet (q_pick1 rfl rfl) (TO.quiet (q_move rfl) (TO.quiet (q_assign rfl) (TO.quiet (q_assign rfl) ?_)))
    refine TO.nil (T.ret (Res.drop ?_))
    refine Res.two (.bool (!res.isSome)) (.int .i64 (checkD a : Int)) Tryd.results30 rfl rfl ?_
    exact ⟨[], Sub.z, (!res.isSome), rfl, rfl, fun h => (by
      have hl := hL h
      cases res with
      | none => exact ⟨fun _ => hl, fun _ => rfl⟩
      | some u => exact ⟨fun h9 => (by cases h9), fun h9 => (by have := h9 u hl.1; rw [hl.2.1] at this; cases this)⟩), fun h => absurd h0 h⟩
  refine TO.quiet (QT.toB (QT.cast (q_eql rfl rfl) (v' := .bool (decide (checkD a = 0))) (congrArg Value.bool (decide_eq_decide.2 (by omega)))) (decide_eq_false h0)) (TO.quiet (q_move rfl) ?_)
  refine TO.passed rfl rfl ?_
  refine TO.passed rfl rfl ?_
  refine TO.quiet (q_pick0 rfl rfl) (TO.quiet (q_move rfl) (TO.quiet (q_assign rfl) (TO.quiet (q_assign rfl) ?_)))
  refine TO.nil (T.ret (Res.drop ?_))
  refine Res.two (.bool false) (.int .i64 (checkD a : Int)) Tryd.results30 rfl rfl ?_
  exact ⟨[], Sub.z, false, rfl, rfl, fun h => absurd h h0, fun h => rfl⟩
set_option maxHeartbeats 8000000 in
set_option maxRecDepth 20000 in
theorem univC (w : World) [Tab Tryd.prog w] (a : DFA) (k : DK) (ha : At w a k) (haa : a.next.length < 9223372036854775807) (haar : ∀ r ∈ a.next, r.length < 9223372036854775807) (haaf : a.final.length < 9223372036854775807) (haf2 : a.final.length ≤ 70368744177664) :
    PureT Tryd.prog 31 [dV a k] w fun v N => ∃ b, v = .tuple #[.bool b, .int .i64 (checkD a : Int)] ∧ N = [] ∧ (checkD a = 0 → (b = true ↔ ∀ u, Wd a u → acc a u = true)) ∧ (checkD a ≠ 0 → b = false) := by
  refine CallT.enter Tryd.func31 rfl Tryd.ntmps31 rfl ?_
  refine T.seq (T.region ?_)
  refine TO.loud rfl (l_box (v := (dV a k)) (cs := (dC a k)) rfl rfl (fun z1 => ?_))
  refine TO.quiet (q_assign rfl) (TO.quiet (q_assign rfl) ?_)
  refine TO.nil (T.seq (T.region ?_))
  refine TO.quiet (q_load_boxAgg 0 Tryd.underlying25 rfl inf25 rfl rfl rfl) ?_
  refine TO.loud rfl (l_alloc inf25 rfl (fun z2 => ?_))
  refine TO.loud rfl (l_store_box (v := (dV a k)) (vs := (dC a k)) 0 inf25 rfl rfl rfl rfl rfl rfl (by simp [putL]) ?_)
  refine TO.nil (T.seq (T.region ?_))
  refine TO.quiet (q_fieldAddr Tryd.underlying25 rfl inf23 rfl rfl) (TO.quiet (q_load_box 1 Tryd.underlying23 rfl rfl rfl rfl) ?_)
  have hk9 := fun (w1 : World) (hI : Inv w [oI z2 25 (dC a k), oI z1 25 (dC a k)] w1) => (haveI := Inv.tab (P := Tryd.prog) hI; cloneB w1 k.fb k.fc a.final (hI.sl ha.final) (by omega))
  refine TO.loud rfl (l_call ent53 (CallT.of_pure hk9) rfl ?_)
  clear hk9
  rintro vr O' ⟨N, rfl, rb, rc, rfl, rfl⟩
  refine TO.quiet (q_fieldAddr Tryd.underlying25 rfl inf23 rfl rfl) ?_
  refine TO.loud rfl (l_store_box (v := (.slice rb a.final.length rc)) (vs := [(.slice rb a.final.length rc)]) 1 inf23 rfl rfl rfl rfl rfl rfl (by simp [putL]) ?_)
  refine TO.nil (T.seq (T.seq (T.region ?_)))
  refine TO.quiet (q_fieldAddr Tryd.underlying25 rfl inf23 rfl rfl) (TO.quiet (q_load_box 1 Tryd.underlying23 rfl rfl rfl rfl) (TO.quiet (q_len Tryd.underlying23 rfl) (TO.quiet (q_move rfl) ?_)))
  refine TO.nil (T.block ?_)
  refine T.sub (O' := [rowI rb rc 4 1 (bools a.final), oI z2 25 [(.int .i64 a.vars), (.int .i64 a.start), (.slice k.nb a.next.length k.nc), (.slice rb a.final.length rc)], oI z1 25 (dC a k)]) (by exact Sub.rf) ?_
  refine T.loop (fun (s : Nat) ρ O => O = [rowI rb rc 4 1 (bools (flipS a.final s)), oI z2 25 [(.int .i64 a.vars), (.int .i64 a.start), (.slice k.nb a.next.length k.nc), (.slice rb a.final.length rc)], oI z1 25 (dC a k)] ∧ s ≤ a.final.length ∧ Heads [(0, (dV a k)), (1, (.pointer (some ⟨z1, 0, none⟩))), (2, .bool false), (3, .int .i64 0), (4, (.pointer (some ⟨z2, 0, none⟩))), (13, .int .i64 (a.final.length : Int)), (14, .int .i64 ((s : Nat) : Int))] ρ) (fun s => a.final.length - s) 0 ?_ ?_
  · exact ⟨by rw [flipS_zero], Nat.zero_le _, ⟨rfl, rfl, rfl, rfl, rfl, rfl, rfl, trivial⟩⟩
  rintro s ρ O ⟨rfl, hs, hH⟩
  obtain ⟨ρ0, rfl⟩ := hH.elim
  clear hH
  refine T.seq (T.region ?_)
  refine TO.quiet (q_lss rfl rfl) ?_
  refine TO.nil (T.seq ?_)
  refine T.condP rfl (fun hc => ?_) (fun hc => ?_)
  · have hlt15 : s < a.final.length := by omega
    refine T.skip (T.seq (T.block (T.seq (T.region ?_))))
    refine TO.quiet (q_move rfl) (TO.quiet (q_assign rfl) ?_)
    refine TO.nil ?_
    refine T.draws _ [(0, 0), (1, 0), (2, 0), (3, 0), (4, 0), (5, 0), (6, 0), (7, 0), (8, 0), (9, 0), (10, 2)] mixed (by kernel_rfl) (Sub.of (List.Sublist.refl _)) (fun _ _ _ h => h) ?_
    refine DO.quiet rfl (q_fieldAddr Tryd.underlying25 rfl inf23 rfl rfl) (DO.quiet rfl (q_load_box 1 Tryd.underlying23 rfl rfl rfl rfl) (DO.quiet rfl (q_move rfl) (DO.quiet rfl (q_fieldAddr Tryd.underlying25 rfl inf23 rfl rfl) ?_)))
    refine DO.quiet rfl (q_load_box 1 Tryd.underlying23 rfl rfl rfl rfl) (DO.quiet rfl (q_move rfl) (DO.quiet rfl (q_ix (i := s) Tryd.underlying23 inf4 rfl rfl (rowO (List.mem_of_getElem? (i := 0) rfl)) hlt15 (by rw [List.length_map, flipS_len]; omega)) (DO.quiet rfl (q_ld Tryd.underlying4 rfl rfl (rowO (List.mem_of_getElem? (i := 0) rfl)) (flipS_at hlt15)) ?_)))
    refine DO.quiet rfl (q_not rfl) (DO.quiet rfl (q_ix (i := s) Tryd.underlying23 inf4 rfl rfl (rowO (List.mem_of_getElem? (i := 0) rfl)) hlt15 (by rw [List.length_map, flipS_len]; omega)) ?_)
    refine DO.last rfl rfl (l_st (j := s) (v := .bool (!(a.final.getD s false))) (vs := [(.bool (!(a.final.getD s false)))]) (cs := bools (flipS a.final s)) 0 inf4 rfl rfl rfl rfl rfl (by simp) rfl (by rw [List.length_map, flipS_len]; simp; omega) ?_)
    refine DO.sub (O' := [rowI rb rc 4 1 (bools ((flipS a.final s).set s (!(a.final.getD s false)))), oI z2 25 [(.int .i64 a.vars), (.int .i64 a.start), (.slice k.nb a.next.length k.nc), (.slice rb a.final.length rc)], oI z1 25 (dC a k)]) (by rw [show putL (bools (flipS a.final s)) s [(.bool (!(a.final.getD s false)))] = bools ((flipS a.final s).set s (!(a.final.getD s false))) from by simp [putL]]; exact Sub.of (List.Sublist.refl _)) ?_
    refine DO.done ?_
    refine T.region ?_
    refine TO.quiet (q_addN (a := s) (b := 1) rfl rfl (by omega)) (TO.quiet (q_move rfl) ?_)
    refine TO.nil ?_
    exact ⟨s + 1, by omega, by rw [flipS_set hlt15], by omega, ⟨rfl, rfl, rfl, rfl, rfl, rfl, rfl, trivial⟩⟩
  have hge15 : ¬ s < a.final.length := by omega
  refine T.exit ?_
  refine T.seq (T.region ?_)
  refine TO.quiet (q_load_boxAgg 1 Tryd.underlying25 rfl inf25 rfl rfl rfl) ?_
  have hk29 := fun (w1 : World) (hI : Inv w [rowI rb rc 4 1 (bools (flipS a.final s)), oI z2 25 [(.int .i64 a.vars), (.int .i64 a.start), (.slice k.nb a.next.length k.nc), (.slice rb a.final.length rc)], oI z1 25 (dC a k)] w1) => (haveI := Inv.tab (P := Tryd.prog) hI; (show PureT _ _ _ _ _ from by
      have h9 := emptyC w1 (flipD a) ⟨k.nb, k.nc, rb, rc, k.qs⟩ ⟨(hI.dfa ha).outer, (hI.dfa ha).rows, by have h8 := hI.slOf (List.mem_of_getElem? (i := 0) rfl); rw [flipS_end (by omega)] at h8; exact h8⟩ haa haar (by show (a.final.map _).length < _; rw [List.length_map]; exact haaf)
      rw [flip_check] at h9
      have e9 : dV (flipD a) ⟨k.nb, k.nc, rb, rc, k.qs⟩ = .agg #[.int .i64 a.vars, .int .i64 a.start, .slice k.nb a.next.length k.nc, .slice rb a.final.length rc] := by show Value.agg (dfaCells _ _ _ _ _).toArray = _; unfold dfaCells flipD; rw [List.length_map]
      rw [e9] at h9
      exact h9))
  refine TO.loud rfl (l_call ent30 (CallT.of_pure hk29) rfl ?_)
  clear hk29
  rintro vr O' ⟨N, rfl, b, rfl, rfl, h1, h2⟩
  refine TO.quiet (q_extract (vs := _) rfl rfl) (TO.quiet (q_extract (vs := _) rfl rfl) (TO.quiet (q_assign rfl) (TO.quiet (q_assign rfl) ?_)))
  refine TO.nil (T.ret (Res.drop ?_))
  refine Res.two (.bool b) (.int .i64 (checkD a : Int)) Tryd.results31 rfl rfl ?_
  exact ⟨[], Sub.z, b, rfl, rfl, fun h => (h1 h).trans (flip_none (checkD_zero.1 h).toVal), h2⟩
end Go.Proofs.YtnmfefmhfkhihaaDoor


namespace Go.Proofs.YtnmfefmhfkhihaaDoor
open Go.Lx Go.RowKit
set_option linter.unusedVariables false
set_option linter.unusedSimpArgs false
theorem equalDFA0 (w : World) [Tab Tryd.prog w] (d e : DFA) (nb1 nb2 fb1 fb2 : Option Addr) (nc1 nc2 fc1 fc2 : Nat) (vs us : List Value) (h1 : DfaAt w d nb1 vs fb1) (h2 : DfaAt w e nb2 us fb2) (hb : d.next.length < 9223372036854775807) (hbr : ∀ r ∈ d.next, r.length < 9223372036854775807) (hbf : d.final.length < 9223372036854775807) :
    PureT Tryd.prog 32 [.agg (dfaCells d nb1 nc1 fb1 fc1).toArray, .agg (dfaCells e nb2 nc2 fb2 fc2).toArray] w fun v N => v = .bool (decide (d = e)) ∧ N = [] :=
  (CallT.none (equalDFA w d e nb1 nb2 fb1 fb2 nc1 nc2 fc1 fc2 vs us h1 h2 hb hbr hbf)).mono fun v N ⟨h1, O2, h2, _⟩ => ⟨h2, h1⟩
theorem equalDFAT (w : World) [Tab Tryd.prog w] (d : DFA) (nb1 nb2 fb1 fb2 : Option Addr) (nc1 nc2 fc1 fc2 : Nat) (vs us : List Value) (h1 : DfaAt w d nb1 vs fb1) (h2 : DfaAt w d nb2 us fb2) (hb : d.next.length < 9223372036854775807) (hbr : ∀ r ∈ d.next, r.length < 9223372036854775807) (hbf : d.final.length < 9223372036854775807) :
    PureT Tryd.prog 32 [.agg (dfaCells d nb1 nc1 fb1 fc1).toArray, .agg (dfaCells d nb2 nc2 fb2 fc2).toArray] w fun v N => v = .bool true ∧ N = [] :=
  (equalDFA0 w d d nb1 nb2 fb1 fb2 nc1 nc2 fc1 fc2 vs us h1 h2 hb hbr hbf).mono fun v N ⟨h1, h2⟩ => ⟨h1.trans (congrArg Value.bool (decide_eq_true rfl)), h2⟩
set_option maxHeartbeats 1000000 in
set_option maxRecDepth 20000 in
theorem longC (w : World) [Tab Tryd.prog w] (b : Option Addr) (c : Nat) (L : List DRec) (hS : Sl w b (dcells L)) (hD : ∀ r ∈ L, DfaAt w r.d r.nb r.vs r.fb) (hL : L.length < 9223372036854775807) (hB : ∀ r ∈ L, r.d.next.length < 9223372036854775807) :
    PureT Tryd.prog 39 [.slice b L.length c] w fun v N => v = .bool (L.any fun r => longD r.d) ∧ N = [] := by
  refine CallT.enter Tryd.func39 rfl Tryd.ntmps39 rfl ?_
  refine T.seq (T.region ?_)
  refine TO.quiet (q_assign rfl) ?_
  refine TO.nil (T.seq (T.seq (T.region ?_)))
  refine TO.quiet (q_assign rfl) ?_
  refine TO.nil (T.block ?_)
  refine T.loop (fun (i : Nat) ρ O => O = [] ∧ i ≤ L.length ∧ (L.take i).any (fun r => longD r.d) = false ∧ Heads [(0, (.slice b L.length c)), (3, .int .i64 (i : Int))] ρ) (fun i => L.length - i) 0 ?_ ?_
  · exact ⟨rfl, Nat.zero_le _, rfl, ⟨rfl, rfl, trivial⟩⟩
  rintro i ρ O ⟨rfl, hi, hany, hH⟩
  obtain ⟨ρ0, rfl⟩ := hH.elim
  clear hH
  refine T.seq (T.seq (T.region ?_))
  refine TO.quiet (q_move rfl) (TO.quiet (q_move rfl) (TO.quiet (q_len Tryd.underlying84 rfl) (TO.quiet (q_lss rfl rfl) ?_)))
  refine TO.nil ?_
  refine T.condP rfl (fun hc => ?_) (fun hc => ?_)
  · have hlt8 : i < L.length := by omega
    refine T.skip (T.seq (T.block (T.seq (T.seq (T.region ?_)))))
    refine TO.quiet (q_move rfl) (TO.quiet (q_move rfl) (TO.quiet (q_ixK (i := i) Tryd.underlying84 inf25 rfl rfl (Sl.o hS) hlt8 (by rw [dcells_len]; omega)) (TO.quiet (q_fieldEl Tryd.underlying25 rfl inf22 rfl rfl (Sl.o hS) (by rw [dcells_len]; omega)) ?_)))
    refine TO.quiet (q_ld Tryd.underlying22 rfl rfl (Sl.o hS) (show (dcells L)[i * 4 + 2]? = some (.slice L[i].nb L[i].d.next.length L[i].nc) by rw [dcells_get hlt8 (by decide)]; rfl)) (TO.quiet (q_len Tryd.underlying22 rfl) ?_)
    by_cases h1 : (L[i].d.next.length : Int) > 40
    · refine TO.quiet (QT.toB (q_gtr rfl rfl) (decide_eq_true h1)) ?_
      refine TO.quiet (q_move rfl) ?_
      refine TO.passed rfl rfl ?_
      refine TO.passed rfl rfl ?_
      refine TO.passed rfl rfl ?_
      refine TO.passed rfl rfl ?_
      refine TO.passed rfl rfl ?_
      refine TO.passed rfl rfl ?_
      refine TO.passed rfl rfl ?_
      refine TO.quiet (q_pick1 rfl rfl) ?_
      refine TO.nil ?_
      refine T.cond1 rfl ?_
      refine T.seq (T.region ?_)
      refine TO.quiet (q_assign rfl) ?_
      refine TO.nil (T.ret ?_)
      refine Res.one (.bool true) Tryd.results39 rfl ?_
      exact ⟨congrArg Value.bool (any_at hlt8 (by simp only [longD, Bool.or_eq_true, decide_eq_true_eq]; exact .inl (.inl (by omega)))).symm, rfl⟩
    refine TO.quiet (QT.toB (q_gtr rfl rfl) (decide_eq_false h1)) (TO.quiet (q_move rfl) ?_)
    refine TO.guarded rfl rfl rfl (LT.of_quiet rfl rfl (q_move rfl) ?_)
    refine TO.guarded rfl rfl rfl (LT.of_quiet rfl rfl (q_move rfl) ?_)
    refine TO.guarded rfl rfl rfl (LT.of_quiet rfl rfl (q_ixK (i := i) Tryd.underlying84 inf25 rfl rfl (Sl.o hS) hlt8 (by rw [dcells_len]; omega)) ?_)
    refine TO.guarded rfl rfl rfl (LT.of_quiet rfl rfl (q_fieldEl Tryd.underlying25 rfl inf23 rfl rfl (Sl.o hS) (by rw [dcells_len]; omega)) ?_)
    refine TO.guarded rfl rfl rfl (LT.of_quiet rfl rfl (q_ld Tryd.underlying23 rfl rfl (Sl.o hS) (show (dcells L)[i * 4 + 3]? = some (.slice L[i].fb L[i].d.final.length L[i].fc) by rw [dcells_get hlt8 (by decide)]; rfl)) ?_)
    refine TO.guarded rfl rfl rfl (LT.of_quiet rfl rfl (q_len Tryd.underlying23 rfl) ?_)
    by_cases h2 : (L[i].d.final.length : Int) > 40
    · refine TO.guarded rfl rfl rfl (LT.of_quiet rfl rfl (QT.toB (q_gtr rfl rfl) (decide_eq_true h2)) ?_)
      refine TO.quiet (q_pick0 rfl rfl) ?_
      refine TO.nil ?_
      refine T.cond1 rfl ?_
      refine T.seq (T.region ?_)
      refine TO.quiet (q_assign rfl) ?_
      refine TO.nil (T.ret ?_)
      refine Res.one (.bool true) Tryd.results39 rfl ?_
      exact ⟨congrArg Value.bool (any_at hlt8 (by simp only [longD, Bool.or_eq_true, decide_eq_true_eq]; exact .inl (.inr (by omega)))).symm, rfl⟩
    refine TO.guarded rfl rfl rfl (LT.of_quiet rfl rfl (QT.toB (q_gtr rfl rfl) (decide_eq_false h2)) ?_)
    refine TO.quiet (q_pick0 rfl rfl) ?_
    refine TO.nil ?_
    refine T.cond0 rfl ?_
    refine T.skip (T.seq (T.region ?_))
    refine TO.quiet (q_assign rfl) ?_
    refine TO.nil (T.block ?_)
    refine T.loop (fun (s : Nat) ρ O => O = [] ∧ s ≤ L[i].d.next.length ∧ (L[i].d.next.take s).any (fun r => decide (100 < r.length)) = false ∧ Heads [(0, (.slice b L.length c)), (3, .int .i64 (i : Int)), (4, .int .i64 (s : Int))] ρ) (fun s => L[i].d.next.length - s) 0 ?_ ?_
    · exact ⟨rfl, Nat.zero_le _, rfl, ⟨rfl, rfl, rfl, trivial⟩⟩
    rintro s ρ O ⟨rfl, hs, hany2, hH⟩
    obtain ⟨ρ0, rfl⟩ := hH.elim
    clear hH
    refine T.seq (T.seq (T.region ?_))
    refine TO.quiet (q_move rfl) (TO.quiet (q_move rfl) (TO.quiet (q_move rfl) (TO.quiet (q_ixK (i := i) Tryd.underlying84 inf25 rfl rfl (Sl.o hS) hlt8 (by rw [dcells_len]; omega)) ?_)))
    refine TO.quiet (q_fieldEl Tryd.underlying25 rfl inf22 rfl rfl (Sl.o hS) (by rw [dcells_len]; omega)) (TO.quiet (q_ld Tryd.underlying22 rfl rfl (Sl.o hS) (show (dcells L)[i * 4 + 2]? = some (.slice L[i].nb L[i].d.next.length L[i].nc) by rw [dcells_get hlt8 (by decide)]; rfl)) (TO.quiet (q_len Tryd.underlying22 rfl) (TO.quiet (q_lss rfl rfl) ?_)))
    refine TO.nil ?_
    refine T.condP rfl (fun hc => ?_) (fun hc => ?_)
    · have hlt34 : s < L[i].d.next.length := by omega
      obtain ⟨vb, vc, g1, s1⟩ := (hD _ (List.getElem_mem hlt8)).rows.get hlt34
      have hB9 := hB _ (List.getElem_mem hlt8)
      refine T.skip (T.seq (T.block (T.seq (T.region ?_))))
      refine TO.quiet (q_move rfl) (TO.quiet (q_move rfl) (TO.quiet (q_ixK (i := i) Tryd.underlying84 inf25 rfl rfl (Sl.o hS) hlt8 (by rw [dcells_len]; omega)) (TO.quiet (q_fieldEl Tryd.underlying25 rfl inf22 rfl rfl (Sl.o hS) (by rw [dcells_len]; omega)) ?_)))
      refine TO.quiet (q_ld Tryd.underlying22 rfl rfl (Sl.o hS) (show (dcells L)[i * 4 + 2]? = some (.slice L[i].nb L[i].d.next.length L[i].nc) by rw [dcells_get hlt8 (by decide)]; rfl)) (TO.quiet (q_move rfl) (TO.quiet (q_ix (i := s) Tryd.underlying22 inf41 rfl rfl (Sl.o (hD _ (List.getElem_mem hlt8)).outer) hlt34 (by rw [(hD _ (List.getElem_mem hlt8)).rows.1]; exact hlt34)) (TO.quiet (q_ld Tryd.underlying41 rfl rfl (Sl.o (hD _ (List.getElem_mem hlt8)).outer) g1) ?_)))
      refine TO.quiet (q_len Tryd.underlying41 rfl) (TO.quiet (q_gtr rfl rfl) ?_)
      refine TO.nil ?_
      refine T.condP rfl (fun hc => ?_) (fun hc => ?_)
      · have hlt46 : L[i].d.next[s].length > 100 := by omega
        refine T.seq (T.region ?_)
        refine TO.quiet (q_assign rfl) ?_
        refine TO.nil (T.ret ?_)
        refine Res.one (.bool true) Tryd.results39 rfl ?_
        exact ⟨congrArg Value.bool (any_at hlt8 (by simp only [longD, Bool.or_eq_true, decide_eq_true_eq]; exact .inr (any_at hlt34 (by simp; omega)))).symm, rfl⟩
      have hge46 : ¬ L[i].d.next[s].length > 100 := by omega
      refine T.skip (T.region ?_)
      refine TO.quiet (q_move rfl) (TO.quiet (q_inc rfl rfl (by omega)) (TO.quiet (q_assign rfl) ?_))
      refine TO.nil ?_
      exact ⟨s + 1, by omega, rfl, by omega, any_take hlt34 hany2 (by simp; omega), ⟨rfl, rfl, rfl, trivial⟩⟩
    have hge34 : ¬ s < L[i].d.next.length := by omega
    refine T.exit ?_
    refine T.region ?_
    refine TO.quiet (q_move rfl) (TO.quiet (q_inc rfl rfl (by omega)) (TO.quiet (q_assign rfl) ?_))
    refine TO.nil ?_
    have hLi : longD L[i].d = false := by
      simp only [longD, Bool.or_eq_false_iff, decide_eq_false_iff_not]
      exact ⟨⟨by omega, by omega⟩, by rwa [List.take_of_length_le (by omega)] at hany2⟩
    exact ⟨i + 1, by omega, rfl, by omega, any_take hlt8 hany hLi, ⟨rfl, rfl, trivial⟩⟩
  have hge8 : ¬ i < L.length := by omega
  refine T.exit ?_
  refine T.seq (T.region ?_)
  refine TO.quiet (q_assign rfl) ?_
  refine TO.nil (T.ret ?_)
  refine Res.one (.bool false) Tryd.results39 rfl ?_
  exact ⟨congrArg Value.bool (by rw [List.take_of_length_le (by omega)] at hany; exact hany.symm), rfl⟩
theorem long1 (w : World) [Tab Tryd.prog w] (b : Option Addr) (c : Nat) (d : DFA) (nb fb : Option Addr) (nc fc : Nat) (vs : List Value) (hS : Sl w b (dfaCells d nb nc fb fc)) (hD : DfaAt w d nb vs fb) (hB : d.next.length < 9223372036854775807) :
    PureT Tryd.prog 39 [.slice b 1 c] w fun v N => v = .bool (decide (longD d = true)) ∧ N = [] :=
  (longC w b c [⟨d, nb, fb, nc, fc, vs⟩] hS (allC hD allN) (show 1 < 9223372036854775807 by decide) (allC hB allN)).mono fun v N ⟨h1, h2⟩ => ⟨by rw [h1]; simp, h2⟩
end Go.Proofs.YtnmfefmhfkhihaaDoor


namespace Go.Proofs.YtnmfefmhfkhihaaDoor
open Go.Lx Go.RowKit
set_option linter.unusedVariables false
set_option linter.unusedSimpArgs false
set_option maxHeartbeats 1000000 in
set_option maxRecDepth 20000 in
theorem overBytes (base : World) (b : Option Addr) (c c' : Nat) (xs : List Nat) (hb : xs.length < 9223372036854775807) :
    CallT Tryd.prog base 18 [.slice b xs.length c'] [rowI b c 5 1 (byts xs)] (fun _ O' => O' = []) := by
  refine CallT.enter Tryd.func18 rfl Tryd.ntmps18 rfl ?_
  refine T.seq (T.region ?_)
  refine TO.quiet (q_assign rfl) ?_
  refine TO.nil (T.block ?_)
  refine T.loop (fun (k : Nat) ρ O => ∃ (ys : List Nat), O = [rowI b c 5 1 (byts ys)] ∧ k ≤ xs.length ∧ ys.length = xs.length ∧ Heads [(0, (.slice b xs.length c')), (2, .int .i64 (k : Int))] ρ) (fun k => xs.length - k) 0 ?_ ?_
  · exact ⟨xs, rfl, Nat.zero_le _, rfl, ⟨rfl, rfl, trivial⟩⟩
  rintro k ρ O ⟨ys, rfl, hk, hyl, hH⟩
  obtain ⟨ρ0, rfl⟩ := hH.elim
  clear hH
  refine T.seq (T.seq (T.region ?_))
  refine TO.quiet (q_move rfl) (TO.quiet (q_move rfl) (TO.quiet (q_len Tryd.underlying29 rfl) (TO.quiet (q_lss rfl rfl) ?_)))
  refine TO.nil ?_
  refine T.condP rfl (fun hc => ?_) (fun hc => ?_)
  · have hlt6 : k < xs.length := by omega
    have hlt : k < ys.length := by omega
    refine T.skip (T.seq (T.block (T.region ?_)))
    refine TO.quiet (q_move rfl) (TO.quiet (q_move rfl) (TO.quiet (q_ix (i := k) Tryd.underlying29 inf5 rfl rfl (rowO (List.mem_of_getElem? (i := 0) rfl))) ?_))
    refine TO.loud rfl (l_st (j := k) (v := .int .u8 201) (vs := [(.int .u8 201)]) (cs := byts ys) 0 inf5 rfl rfl rfl rfl rfl (by simp) rfl (by first | (simp; omega) | (simp_all; omega)) ?_)
    refine TO.sub (O' := [rowI b c 5 1 (byts (ys.set k 201))]) (by rw [show putL (byts ys) k [(.int .u8 201)] = byts (ys.set k 201) from by simp [putL]]; exact Sub.of (List.Sublist.refl _)) ?_
    refine TO.nil (T.region ?_)
    refine TO.quiet (q_move rfl) (TO.quiet (q_inc rfl rfl (by omega)) (TO.quiet (q_assign rfl) ?_))
    refine TO.nil ?_
    exact ⟨k + 1, by omega, ys.set k 201, rfl, by omega, by simp [hyl], ⟨rfl, rfl, trivial⟩⟩
  have hge6 : ¬ k < xs.length := by omega
  refine T.exit ?_
  refine Res.drop ?_
  refine Res.zero Tryd.results18 ?_
  exact ⟨[], Sub.of (List.nil_sublist _), rfl⟩
end Go.Proofs.YtnmfefmhfkhihaaDoor


namespace Go.Lx
set_option linter.unusedVariables false
set_option maxRecDepth 20000
def ex2 : DFA := ⟨1, 0, [[0, 1], [2, 3], [0, 1], [2, 3]], [false, false, true, true]⟩
def exX : DFA := ⟨2, 0, [[2, 1, 1, 2], [2, 2, 2, 2], [2, 2, 2, 2]], [false, true, false]⟩
theorem ex2_ok : checkD ex2 = 0 := by decide
theorem exX_ok : checkD exX = 0 := by decide
theorem ex2_valid : Valid ex2 := checkD_zero.1 ex2_ok
theorem exX_valid : Valid exX := checkD_zero.1 exX_ok
theorem bd_ex2 : Bd9 ex2 := ⟨by decide, ex2_valid.bound, by decide⟩
theorem bd_exX : Bd9 exX := ⟨by decide, exX_valid.bound, by decide⟩
theorem ex2_least' : LeastA ex2 (some [1, 0]) := by
  refine ⟨by intro x hx; simp at hx; rcases hx with rfl | rfl <;> decide, by decide, fun u hu ha => ?_⟩
  match u, hu, ha with
  | [], _, ha => revert ha; decide
  | [x], hu, ha =>
    have hx : x < 2 := hu x (by simp)
    have : x = 0 ∨ x = 1 := by omega
    rcases this with rfl | rfl <;> revert ha <;> decide
  | [x, y], hu, ha =>
    have hx : x < 2 := hu x (by simp)
    have hy : y < 2 := hu y (by simp)
    have h1 : x = 0 ∨ x = 1 := by omega
    have h2 : y = 0 ∨ y = 1 := by omega
    rcases h1 with rfl | rfl <;> rcases h2 with rfl | rfl <;> revert ha <;> decide
  | x :: y :: z :: u, hu, ha =>
    exact Nat.le_of_lt (code_lt_len (v := [1, 0]) (by decide) (Wd.lt64 ex2_valid.toVal hu) (by simp))
theorem ex2_least {r : Option (List Nat)} (h : LeastA ex2 r) : r = some [1, 0] := h.unique ex2_valid ex2_least'
theorem allW_take {d : DFA} {n m : Nat} (hn : n ≤ 65) (h : m ≤ (allW d n).length) : (allW d 65).take m = (allW d n).take m := by
  obtain ⟨r, hr⟩ := allW_pre d hn
  rw [hr, take_pre h]
theorem allW_get {d : DFA} {n k : Nat} (hn : n ≤ 65) (h : k < (allW d n).length) : (allW d 65)[k]? = (allW d n)[k]? := by
  obtain ⟨r, hr⟩ := allW_pre d hn
  rw [hr, List.getElem?_append_left h]
theorem ex2_four : allW ex2 4 = [[1, 0], [1, 1], [0, 1, 0], [0, 1, 1], [1, 1, 0], [1, 1, 1]] := by decide
theorem ex2_cnt : cntV ex2 2 = 2 := by decide
theorem ex2_cntE : cntE ex2 2 = 0 := by decide
theorem ex2_wdsE : wdsE ex2 3 = 0 := by decide
theorem ex2_wds : wdsV ex2 3 = [[1, 0], [1, 1], [0, 1, 0]] := by
  unfold wdsV
  rw [if_pos ex2_wdsE, show (3 : Int).toNat = 3 from rfl, allW_take (n := 4) (by decide) (by rw [ex2_four]; decide), ex2_four]; rfl
theorem ex2_nth : nthV ex2 2 = some [0, 1, 0] := by
  rw [nthV_small ex2_ok (by decide), allW_get (n := 4) (by decide) (by rw [ex2_four]; decide), ex2_four]; rfl
theorem ex2_nthE : nthE ex2 2 = 0 := nthE_small ex2_ok (by decide)
theorem ex2_inf : InfC ex2 ex2.start.toNat := ⟨[1, 0], 2, by intro x hx; simp at hx; rcases hx with rfl | rfl <;> decide, by decide, ⟨[], Wd.nil, by decide⟩, [1, 0], by decide, by intro x hx; simp at hx; rcases hx with rfl | rfl <;> decide, by decide⟩
theorem exX_two : ∀ u, Wd exX u → runN exX 2 u = 2
  | [], _ => rfl
  | x :: u, h => by
    have h' := Wd.cons.1 h
    have hx : x < 4 := h'.1
    rw [runN_cons]
    have : toN exX 2 x = 2 := by
      have : x = 0 ∨ x = 1 ∨ x = 2 ∨ x = 3 := by omega
      rcases this with rfl | rfl | rfl | rfl <;> decide
    rw [this]; exact exX_two u h'.2
theorem exX_words {u : List Nat} (h : Wd exX u) (ha : acc exX u = true) : u.length < 2 := by
  match u, h, ha with
  | [], _, _ => decide
  | [x], _, _ => simp
  | x :: y :: u, h, ha =>
    have h1 := Wd.cons.1 h
    have h2 := Wd.cons.1 h1.2
    have hx : x < 4 := h1.1
    have hy : y < 4 := h2.1
    have e : toN exX (toN exX 0 x) y = 2 := by
      have q1 : x = 0 ∨ x = 1 ∨ x = 2 ∨ x = 3 := by omega
      have q2 : y = 0 ∨ y = 1 ∨ y = 2 ∨ y = 3 := by omega
      rcases q1 with rfl | rfl | rfl | rfl <;> rcases q2 with rfl | rfl | rfl | rfl <;> decide
    have hr : runN exX exX.start.toNat (x :: y :: u) = 2 := by
      show runN exX (toN exX (toN exX 0 x) y) u = 2
      rw [e]; exact exX_two u h2.2
    rw [acc, hr] at ha
    exact absurd ha (by decide)
theorem exX_fin : ¬ InfC exX exX.start.toNat := by
  rw [inf_iff exX_valid.toVal (by decide)]
  rintro ⟨z, h1, h2, h3, _⟩
  have := exX_words h1 h2
  have h4 : 3 ≤ z.length := h3
  omega
theorem exX_all : ∀ n, 2 ≤ n → allW exX n = [[1], [2]]
  | 0, h => by omega
  | 1, h => by omega
  | 2, _ => by decide
  | n + 3, _ => by
    rw [allW_snoc, exX_all (n + 2) (by omega)]
    have : wsN exX (n + 2) exX.start.toNat = [] := by
      cases h : wsN exX (n + 2) exX.start.toNat with
      | nil => rfl
      | cons u l =>
        have hu : u ∈ wsN exX (n + 2) exX.start.toNat := by rw [h]; simp
        obtain ⟨h1, h2, h3⟩ := mem_wsN.1 hu
        have := exX_words h2 h3
        omega
    rw [this]; rfl
theorem exX_nth : nthV exX 2 = none := by
  rw [nthV_small exX_ok (by decide), exX_all 65 (by decide)]; rfl
theorem exX_nthE : nthE exX 2 = 0 := nthE_small exX_ok (by decide)
structure Sm (d : DFA) : Prop where
  n12 : d.next.length ≤ 12
  r100 : ∀ r ∈ d.next, r.length ≤ 100
  f40 : d.final.length ≤ 40
theorem Sm.of {d : DFA} (h : ¬ longD d = true) (hn : d.next.length ≤ 12) : Sm d := ⟨hn, (longD_false h).2.2, (longD_false h).2.1⟩
theorem least_lt {d : DFA} (hv : Val d) {u : List Nat} (h : LeastA d (some u)) : u.length < d.next.length := by
  obtain ⟨h1, h2, h3⟩ := h
  refine Ds.lt hv (start_lt hv) (s := d.start.toNat) (k := u.length) ⟨⟨u, h1, rfl, h2⟩, fun v hv' hf => ?_⟩
  exact code_len u v (Wd.lt64 hv h1) (Wd.lt64 hv hv') (h3 v hv' hf)
theorem least_len' {d : DFA} {r : Option (List Nat)} {n : Nat} (hn : d.next.length ≤ n) (h0 : checkD d = 0 → LeastA d r) (h1 : checkD d ≠ 0 → r = none) : (r.getD []).length ≤ n := by
  cases r with
  | none => simp
  | some u =>
    by_cases he : checkD d = 0
    · have := least_lt (checkD_zero.1 he).toVal (h0 he)
      simp; omega
    · cases h1 he
theorem sho_same {a : DFA} {r1 r2 : Option (List Nat)} (h1 : checkD a = 0 → LeastA a r1) (h2 : checkD a = 0 → LeastA a r2) (n1 : checkD a ≠ 0 → r1 = none) (n2 : checkD a ≠ 0 → r2 = none) : r1 = r2 := by
  by_cases he : checkD a = 0
  · exact (h1 he).unique (checkD_zero.1 he) (h2 he)
  · rw [n1 he, n2 he]
theorem flag_same {e : Nat} {P : Prop} {b1 b2 : Bool} (h1 : e = 0 → (b1 = true ↔ P)) (n1 : e ≠ 0 → b1 = false) (h2 : e = 0 → (b2 = true ↔ P)) (n2 : e ≠ 0 → b2 = false) : b1 = b2 := by
  by_cases he : e = 0
  · have := (h2 he).trans (h1 he).symm
    cases b1 <;> cases b2 <;> simp_all
  · rw [n1 he, n2 he]
theorem empty_is {a : DFA} {r : Option (List Nat)} {b : Bool} (h : checkD a = 0 → LeastA a r) (n : checkD a ≠ 0 → r = none) (hb : checkD a = 0 → (b = true ↔ ∀ u, Wd a u → acc a u = false)) (hn : checkD a ≠ 0 → b = false) : b = (decide (checkD a = 0) && !r.isSome) := by
  by_cases he : checkD a = 0
  · have h1 := h he
    have h2 := hb he
    cases r with
    | none => simp [he, h2.2 h1]
    | some u =>
      have h3 : b ≠ true := fun h9 => by
        have := h2.1 h9 u h1.1
        rw [h1.2.1] at this; cases this
      simpa [he] using h3
  · simp [he, hn he]
end Go.Lx


namespace Go.Proofs.YtnmfefmhfkhihaaDoor
open Go.Lx Go.RowKit
set_option linter.unusedVariables false
set_option linter.unusedSimpArgs false
set_option maxHeartbeats 1000000 in
set_option maxRecDepth 20000 in
theorem equalWords (w : World) [Tab Tryd.prog w] (b1 b2 : Option Addr) (c1 c2 : Nat) (us vs : List WRec) (h1 : Sl w b1 (wvals us)) (h1q : ∀ q ∈ us, Sl w q.b (byts q.xs)) (h1l : us.length < 9223372036854775807) (h2 : Sl w b2 (wvals vs)) (h2q : ∀ q ∈ vs, Sl w q.b (byts q.xs)) (h2l : vs.length < 9223372036854775807) (hul : ∀ q ∈ us, q.xs.length < 9223372036854775807) :
    PureT Tryd.prog 17 [.slice b1 us.length c1, .slice b2 vs.length c2] w fun v N => v = .bool (decide (wnums us = wnums vs)) ∧ N = [] := by
  refine CallT.enter Tryd.func17 rfl Tryd.ntmps17 rfl ?_
  refine T.seq (T.region ?_)
  refine TO.quiet (q_assign rfl) ?_
  refine TO.nil (T.seq (T.seq (T.region ?_)))
  refine TO.quiet (q_move rfl) (TO.quiet (q_len Tryd.underlying33 rfl) (TO.quiet (q_move rfl) (TO.quiet (q_len Tryd.underlying33 rfl) ?_)))
  refine TO.quiet (q_neq rfl rfl) ?_
  refine TO.nil ?_
  refine T.condP rfl (fun hc => ?_) (fun hc => ?_)
  · have hlt10 : us.length ≠ vs.length := by omega
    have hne : us.length ≠ vs.length := by omega
    refine T.seq (T.region ?_)
    refine TO.quiet (q_assign rfl) ?_
    refine TO.nil (T.ret (Res.drop ?_))
    refine Res.one (.bool false) Tryd.results17 rfl ?_
    exact ⟨[], Sub.z, congrArg Value.bool (Eq.symm (decide_eq_false (fun h9 => hne (by have := congrArg List.length h9; simpa using this)))), rfl⟩
  have hge10 : ¬ us.length ≠ vs.length := by omega
  have hle : us.length = vs.length := by omega
  refine T.skip (T.seq (T.seq (T.region ?_)))
  refine TO.quiet (q_assign rfl) ?_
  refine TO.nil (T.block ?_)
  refine T.loop (fun (i : Nat) ρ O => O = [] ∧ i ≤ us.length ∧ (wnums us).take i = (wnums vs).take i ∧ Heads [(0, (.slice b1 us.length c1)), (1, (.slice b2 vs.length c2)), (5, .int .i64 ((i : Nat) : Int))] ρ) (fun i => us.length - i) 0 ?_ ?_
  · exact ⟨rfl, Nat.zero_le _, rfl, ⟨rfl, rfl, rfl, trivial⟩⟩
  rintro i ρ O ⟨rfl, hi, he, hH⟩
  obtain ⟨ρ0, rfl⟩ := hH.elim
  clear hH
  refine T.seq (T.seq (T.region ?_))
  refine TO.quiet (q_move rfl) (TO.quiet (q_move rfl) (TO.quiet (q_len Tryd.underlying33 rfl) (TO.quiet (q_lss rfl rfl) ?_)))
  refine TO.nil ?_
  refine T.condP rfl (fun hc => ?_) (fun hc => ?_)
  · have hlt14 : i < us.length := by omega
    have hlv : i < vs.length := by omega
    refine T.skip (T.seq (T.block (T.seq ?_)))
    refine T.draws _ [(0, 0), (1, 0), (2, 0), (3, 0), (4, 0), (5, 0), (6, 0), (7, 0), (8, 2), (9, 2)] mixed (by kernel_rfl) (Sub.of (List.Sublist.refl _)) (fun _ _ _ h => h) ?_
    refine DO.quiet rfl (q_move rfl) (DO.quiet rfl (q_move rfl) (DO.quiet rfl (q_ix (i := i) Tryd.underlying33 inf29 rfl rfl (Sl.o h1) hlt14 (by rw [List.length_map]; exact hlt14)) (DO.quiet rfl (q_ld Tryd.underlying29 rfl rfl (Sl.o h1) (wvals_gt hlt14)) ?_)))
    refine DO.quiet rfl (q_move rfl) (DO.quiet rfl (q_move rfl) (DO.quiet rfl (q_ix (i := i) Tryd.underlying33 inf29 rfl rfl (Sl.o h2) hlv (by rw [List.length_map]; exact hlv)) (DO.quiet rfl (q_ld Tryd.underlying29 rfl rfl (Sl.o h2) (wvals_gt hlv)) ?_)))
    have hk25 := fun (w1 : World) (hI : Inv w [] w1) => (haveI := Inv.tab (P := Tryd.prog) hI; equalBytes w1 us[i].b vs[i].b us[i].c vs[i].c us[i].xs vs[i].xs (hI.sl (h1q _ (List.getElem_mem hlt14))) (hI.sl (h2q _ (List.getElem_mem hlv))) (hul _ (List.getElem_mem hlt14)))
    refine DO.last rfl rfl (l_call ent16 (CallT.of_pure hk25) rfl ?_)
    clear hk25
    rintro vr O' ⟨N, rfl, rfl, rfl⟩
    refine DO.last rfl rfl (LT.of_quiet rfl rfl (QT.cast (q_not rfl) (v' := .bool (decide (us[i].xs ≠ vs[i].xs))) (by simp)) ?_)
    refine DO.done ?_
    refine T.condP rfl (fun hc => ?_) (fun hc => ?_)
    · have hxx : us[i].xs ≠ vs[i].xs := hc
      refine T.seq (T.region ?_)
      refine TO.quiet (q_assign rfl) ?_
      refine TO.nil (T.ret (Res.drop ?_))
      refine Res.one (.bool false) Tryd.results17 rfl ?_
      exact ⟨[], Sub.z, congrArg Value.bool (Eq.symm (decide_eq_false (fun h9 => hxx (by
        have h8 := congrArg (·[i]?) h9
        simp only [List.getElem?_map, List.getElem?_eq_getElem hlt14, List.getElem?_eq_getElem hlv, Option.map_some] at h8
        exact Option.some.inj h8)))), rfl⟩
    have heq : us[i].xs = vs[i].xs := Classical.not_not.1 hc
    refine T.skip (T.region ?_)
    refine TO.quiet (q_move rfl) (TO.quiet (q_addN (a := i) (b := 1) rfl rfl (by omega)) (TO.quiet (q_assign rfl) ?_))
    refine TO.nil ?_
    exact ⟨i + 1, by omega, rfl, by omega, by rw [List.take_succ_eq_append_getElem (show i < (wnums us).length by rw [List.length_map]; omega), List.take_succ_eq_append_getElem (show i < (wnums vs).length by rw [List.length_map]; omega), he, List.getElem_map, List.getElem_map, heq], ⟨rfl, rfl, rfl, trivial⟩⟩
  have hge14 : ¬ i < us.length := by omega
  refine T.exit ?_
  refine T.seq (T.region ?_)
  refine TO.quiet (q_assign rfl) ?_
  refine TO.nil (T.ret (Res.drop ?_))
  refine Res.one (.bool true) Tryd.results17 rfl ?_
  exact ⟨[], Sub.z, congrArg Value.bool (Eq.symm (decide_eq_true (by rw [List.take_of_length_le (by rw [List.length_map]; omega), List.take_of_length_le (by rw [List.length_map]; omega)] at he; exact he))), rfl⟩
theorem copyK (w : World) [Tab Tryd.prog w] (d : DFA) (k : DK) (h : At w d k) (hb : d.next.length * 24 ≤ 70368744177664) (hbr : ∀ r ∈ d.next, r.length * 8 ≤ 70368744177664) (hbf : d.final.length * 1 ≤ 70368744177664) :
    PureT Tryd.prog 25 [dV d k] w fun v N => ∃ k' : DK, v = dV d k' ∧ N = [dI 41 4 3 d k'] := CallT.dk (g := id) (copyDFA w d k.nb k.fb k.nc k.fc (vals k.qs) h hb hbr hbf)
theorem equalK (w : World) [Tab Tryd.prog w] (d : DFA) (j k : DK) (h1 : At w d j) (h2 : At w d k) (hb : d.next.length < 9223372036854775807) (hbr : ∀ r ∈ d.next, r.length < 9223372036854775807) (hbf : d.final.length < 9223372036854775807) :
    PureT Tryd.prog 32 [dV d j, dV d k] w fun v N => v = .bool true ∧ N = [] := equalDFAT w d j.nb k.nb j.fb k.fb j.nc k.nc j.fc k.fc (vals j.qs) (vals k.qs) h1 h2 hb hbr hbf
set_option maxHeartbeats 1000000 in
set_option maxRecDepth 20000 in
theorem longK (w : World) [Tab Tryd.prog w] (a : DFA) (k : DK) (ha : At w a k) (haa : a.next.length < 9223372036854775807) :
    PureT Tryd.prog 10 [dV a k] w fun v N => v = .bool (decide (longD a = true ∨ 12 < a.next.length)) ∧ N = [] := by
  refine CallT.enter Tryd.func10 rfl Tryd.ntmps10 rfl ?_
  refine T.seq (T.region ?_)
  refine TO.loud rfl (l_box (v := (dV a k)) (cs := (dC a k)) rfl rfl (fun bx1 => ?_))
  refine TO.quiet (q_assign rfl) ?_
  refine TO.nil (T.seq (T.region ?_))
  refine TO.quiet (q_load_boxAgg 0 Tryd.underlying25 rfl inf25 rfl rfl rfl) ?_
  refine TO.loud rfl (l_buildSlice (m := 1) (parts := [(0, _)]) (cs := (dC a k)) Tryd.underlying84 inf25 (by decide) (by kernel_rfl) rfl (fun bx2 => ?_))
  have hk5 := fun (w1 : World) (hI : Inv w [rowI (some ⟨bx2, 0, none⟩) 1 25 4 (dC a k), oI bx1 25 (dC a k)] w1) => (haveI := Inv.tab (P := Tryd.prog) hI; long1 w1 (some ⟨bx2, 0, none⟩) 1 a k.nb k.fb k.nc k.fc (vals k.qs) (hI.slOf (List.mem_of_getElem? (i := 0) rfl)) (hI.dfa ha) haa)
  refine TO.loud rfl (l_call ent39 (CallT.of_pure hk5) rfl ?_)
  clear hk5
  rintro vr O' ⟨N, rfl, rfl, rfl⟩
  by_cases hs6 : longD a = true
  · refine TO.quiet (QT.toB (q_move rfl) (decide_eq_true hs6)) ?_
    refine TO.passed rfl rfl ?_
    refine TO.passed rfl rfl ?_
    refine TO.passed rfl rfl ?_
    refine TO.passed rfl rfl ?_
    refine TO.quiet (q_pick1 rfl rfl) (TO.quiet (q_assign rfl) ?_)
    refine TO.nil (T.ret (Res.drop ?_))
    refine Res.one (.bool true) Tryd.results10 rfl ?_
    exact ⟨[], Sub.z, congrArg Value.bool (by first | (simp_all; done) | (simp_all; omega)), rfl⟩
  refine TO.quiet (QT.toB (q_move rfl) (decide_eq_false hs6)) ?_
  refine TO.guarded rfl rfl rfl (LT.of_quiet rfl rfl (q_fieldAddr Tryd.underlying25 rfl inf22 rfl rfl) ?_)
  refine TO.guarded rfl rfl rfl (LT.of_quiet rfl rfl (q_load_box 1 Tryd.underlying22 rfl rfl rfl rfl) ?_)
  refine TO.guarded rfl rfl rfl (LT.of_quiet rfl rfl (q_len Tryd.underlying22 rfl) ?_)
  refine TO.guarded rfl rfl rfl (LT.of_quiet rfl rfl (q_gtr rfl rfl) ?_)
  refine TO.quiet (q_pick0 rfl rfl) (TO.quiet (q_assign rfl) ?_)
  refine TO.nil (T.ret (Res.drop ?_))
  refine Res.one (.bool (decide ((a.next.length : Int) > 12))) Tryd.results10 rfl ?_
  exact ⟨[], Sub.z, congrArg Value.bool (by first | (simp_all; done) | (simp_all; omega)), rfl⟩
set_option maxHeartbeats 1000000 in
set_option maxRecDepth 20000 in
theorem secondK (w : World) [Tab Tryd.prog w] : PureT Tryd.prog 23 [] w fun v N => ∃ k' : DK, v = dV ex2 k' ∧ N = [dI 41 4 3 ex2 k'] := by
  refine CallT.enter Tryd.func23 rfl Tryd.ntmps23 rfl ?_
  refine T.seq (T.region ?_)
  refine TO.loud rfl (l_alloc inf25 rfl (fun z1 => ?_))
  refine TO.nil (T.seq (T.region ?_))
  refine TO.loud rfl (l_buildSlice (m := 2) (parts := [(0, .const (.int .i64 0)), (1, .const (.int .i64 1))]) (cs := [.int .i64 0, .int .i64 1]) Tryd.underlying41 inf3 (by decide) (by kernel_rfl) rfl (fun z2 => ?_))
  refine TO.loud rfl (l_buildSlice (m := 2) (parts := [(0, .const (.int .i64 2)), (1, .const (.int .i64 3))]) (cs := [.int .i64 2, .int .i64 3]) Tryd.underlying41 inf3 (by decide) (by kernel_rfl) rfl (fun z3 => ?_))
  refine TO.loud rfl (l_buildSlice (m := 2) (parts := [(0, .const (.int .i64 0)), (1, .const (.int .i64 1))]) (cs := [.int .i64 0, .int .i64 1]) Tryd.underlying41 inf3 (by decide) (by kernel_rfl) rfl (fun z4 => ?_))
  refine TO.loud rfl (l_buildSlice (m := 2) (parts := [(0, .const (.int .i64 2)), (1, .const (.int .i64 3))]) (cs := [.int .i64 2, .int .i64 3]) Tryd.underlying41 inf3 (by decide) (by kernel_rfl) rfl (fun z5 => ?_))
  refine TO.loud rfl (l_buildSlice (m := 4) (parts := [(0, .tmp 1), (1, .tmp 2), (2, .tmp 3), (3, .tmp 4)]) (cs := [(.slice (some ⟨z2, 0, none⟩) 2 2), (.slice (some ⟨z3, 0, none⟩) 2 2), (.slice (some ⟨z4, 0, none⟩) 2 2), (.slice (some ⟨z5, 0, none⟩) 2 2)]) Tryd.underlying22 inf41 (by decide) (by kernel_rfl) rfl (fun z6 => ?_))
  refine TO.loud rfl (l_buildSlice (m := 4) (parts := [(0, .const (.bool false)), (1, .const (.bool false)), (2, .const (.bool true)), (3, .const (.bool true))]) (cs := [.bool false, .bool false, .bool true, .bool true]) Tryd.underlying23 inf4 (by decide) (by kernel_rfl) rfl (fun z7 => ?_))
  refine TO.quiet (q_build (cs := [.int .i64 1, (.int .i64 0), (.slice (some ⟨z6, 0, none⟩) 4 4), (.slice (some ⟨z7, 0, none⟩) 4 4)]) plan25 inf25 (by kernel_rfl)) ?_
  refine TO.loud rfl (l_store_box (v := (.agg #[.int .i64 1, (.int .i64 0), (.slice (some ⟨z6, 0, none⟩) 4 4), (.slice (some ⟨z7, 0, none⟩) 4 4)])) (vs := [.int .i64 1, (.int .i64 0), (.slice (some ⟨z6, 0, none⟩) 4 4), (.slice (some ⟨z7, 0, none⟩) 4 4)]) 6 inf25 rfl rfl rfl rfl rfl rfl (by simp [putL]) ?_)
  refine TO.nil ?_
  refine T.sub (O' := [rowI (some ⟨z6, 0, none⟩) 4 41 1 [(.slice (some ⟨z2, 0, none⟩) 2 2), (.slice (some ⟨z3, 0, none⟩) 2 2), (.slice (some ⟨z4, 0, none⟩) 2 2), (.slice (some ⟨z5, 0, none⟩) 2 2)], rowI (some ⟨z7, 0, none⟩) 4 4 1 [.bool false, .bool false, .bool true, .bool true], rowI (some ⟨z2, 0, none⟩) 2 3 1 [.int .i64 0, .int .i64 1], rowI (some ⟨z3, 0, none⟩) 2 3 1 [.int .i64 2, .int .i64 3], rowI (some ⟨z4, 0, none⟩) 2 3 1 [.int .i64 0, .int .i64 1], rowI (some ⟨z5, 0, none⟩) 2 3 1 [.int .i64 2, .int .i64 3], oI z1 25 [.int .i64 1, (.int .i64 0), (.slice (some ⟨z6, 0, none⟩) 4 4), (.slice (some ⟨z7, 0, none⟩) 4 4)]]) (by exact Sub.pull [rowI (some ⟨z7, 0, none⟩) 4 4 1 [.bool false, .bool false, .bool true, .bool true]] _ (.k (.pull [rowI (some ⟨z5, 0, none⟩) 2 3 1 [.int .i64 2, .int .i64 3], rowI (some ⟨z4, 0, none⟩) 2 3 1 [.int .i64 0, .int .i64 1], rowI (some ⟨z3, 0, none⟩) 2 3 1 [.int .i64 2, .int .i64 3]] _ (.pull [rowI (some ⟨z5, 0, none⟩) 2 3 1 [.int .i64 2, .int .i64 3], rowI (some ⟨z4, 0, none⟩) 2 3 1 [.int .i64 0, .int .i64 1]] _ (.pull [rowI (some ⟨z5, 0, none⟩) 2 3 1 [.int .i64 2, .int .i64 3]] _ (.k (.k .z))))))) ?_
  obtain ⟨k0, hk0⟩ : ∃ k : DK, k = ⟨some ⟨z6, 0, none⟩, 4, some ⟨z7, 0, none⟩, 4, [⟨some ⟨z2, 0, none⟩, 2, [0, 1]⟩, ⟨some ⟨z3, 0, none⟩, 2, [2, 3]⟩, ⟨some ⟨z4, 0, none⟩, 2, [0, 1]⟩, ⟨some ⟨z5, 0, none⟩, 2, [2, 3]⟩]⟩ := ⟨_, rfl⟩
  refine T.sub (O' := (([rowI k0.nb k0.nc 41 1 (vals k0.qs), rowI k0.fb k0.fc 4 1 (bools ex2.final)] ++ itms 3 k0.qs) ++ [oI z1 25 [.int .i64 1, (.int .i64 0), (.slice (some ⟨z6, 0, none⟩) 4 4), (.slice (some ⟨z7, 0, none⟩) 4 4)]])) (by subst hk0; exact Sub.rf) ?_
  refine T.pack (φ := nums k0.qs = ex2.next) (by subst hk0; rfl) ?_
  refine T.sub (O' := [dI 41 4 3 ex2 k0, oI z1 25 (dC ex2 k0)]) (by subst hk0; exact Sub.rf) ?_
  refine T.ret (Res.drop ?_)
  refine Res.cell1 (i := 1) Tryd.results23 Tryd.underlying25 rfl inf25 rfl rfl rfl ?_
  exact ⟨[dI 41 4 3 ex2 k0], (by exact Sub.k .z), k0, rfl, rfl⟩
set_option maxHeartbeats 1000000 in
set_option maxRecDepth 20000 in
theorem exactlyK (w : World) [Tab Tryd.prog w] : PureT Tryd.prog 40 [] w fun v N => ∃ k' : DK, v = dV exX k' ∧ N = [dI 41 4 3 exX k'] := by
  refine CallT.enter Tryd.func40 rfl Tryd.ntmps40 rfl ?_
  refine T.seq (T.region ?_)
  refine TO.loud rfl (l_alloc inf25 rfl (fun z1 => ?_))
  refine TO.nil (T.seq (T.region ?_))
  refine TO.loud rfl (l_buildSlice (m := 4) (parts := [(0, .const (.int .i64 2)), (1, .const (.int .i64 1)), (2, .const (.int .i64 1)), (3, .const (.int .i64 2))]) (cs := [.int .i64 2, .int .i64 1, .int .i64 1, .int .i64 2]) Tryd.underlying41 inf3 (by decide) (by kernel_rfl) rfl (fun z2 => ?_))
  refine TO.loud rfl (l_buildSlice (m := 4) (parts := [(0, .const (.int .i64 2)), (1, .const (.int .i64 2)), (2, .const (.int .i64 2)), (3, .const (.int .i64 2))]) (cs := [.int .i64 2, .int .i64 2, .int .i64 2, .int .i64 2]) Tryd.underlying41 inf3 (by decide) (by kernel_rfl) rfl (fun z3 => ?_))
  refine TO.loud rfl (l_buildSlice (m := 4) (parts := [(0, .const (.int .i64 2)), (1, .const (.int .i64 2)), (2, .const (.int .i64 2)), (3, .const (.int .i64 2))]) (cs := [.int .i64 2, .int .i64 2, .int .i64 2, .int .i64 2]) Tryd.underlying41 inf3 (by decide) (by kernel_rfl) rfl (fun z4 => ?_))
  refine TO.loud rfl (l_buildSlice (m := 3) (parts := [(0, .tmp 1), (1, .tmp 2), (2, .tmp 3)]) (cs := [(.slice (some ⟨z2, 0, none⟩) 4 4), (.slice (some ⟨z3, 0, none⟩) 4 4), (.slice (some ⟨z4, 0, none⟩) 4 4)]) Tryd.underlying22 inf41 (by decide) (by kernel_rfl) rfl (fun z5 => ?_))
  refine TO.loud rfl (l_buildSlice (m := 3) (parts := [(0, .const (.bool false)), (1, .const (.bool true)), (2, .const (.bool false))]) (cs := [.bool false, .bool true, .bool false]) Tryd.underlying23 inf4 (by decide) (by kernel_rfl) rfl (fun z6 => ?_))
  refine TO.quiet (q_build (cs := [.int .i64 2, (.int .i64 0), (.slice (some ⟨z5, 0, none⟩) 3 3), (.slice (some ⟨z6, 0, none⟩) 3 3)]) plan25 inf25 (by kernel_rfl)) ?_
  refine TO.loud rfl (l_store_box (v := (.agg #[.int .i64 2, (.int .i64 0), (.slice (some ⟨z5, 0, none⟩) 3 3), (.slice (some ⟨z6, 0, none⟩) 3 3)])) (vs := [.int .i64 2, (.int .i64 0), (.slice (some ⟨z5, 0, none⟩) 3 3), (.slice (some ⟨z6, 0, none⟩) 3 3)]) 5 inf25 rfl rfl rfl rfl rfl rfl (by simp [putL]) ?_)
  refine TO.nil ?_
  refine T.sub (O' := [rowI (some ⟨z5, 0, none⟩) 3 41 1 [(.slice (some ⟨z2, 0, none⟩) 4 4), (.slice (some ⟨z3, 0, none⟩) 4 4), (.slice (some ⟨z4, 0, none⟩) 4 4)], rowI (some ⟨z6, 0, none⟩) 3 4 1 [.bool false, .bool true, .bool false], rowI (some ⟨z2, 0, none⟩) 4 3 1 [.int .i64 2, .int .i64 1, .int .i64 1, .int .i64 2], rowI (some ⟨z3, 0, none⟩) 4 3 1 [.int .i64 2, .int .i64 2, .int .i64 2, .int .i64 2], rowI (some ⟨z4, 0, none⟩) 4 3 1 [.int .i64 2, .int .i64 2, .int .i64 2, .int .i64 2], oI z1 25 [.int .i64 2, (.int .i64 0), (.slice (some ⟨z5, 0, none⟩) 3 3), (.slice (some ⟨z6, 0, none⟩) 3 3)]]) (by exact Sub.pull [rowI (some ⟨z6, 0, none⟩) 3 4 1 [.bool false, .bool true, .bool false]] _ (.k (.pull [rowI (some ⟨z4, 0, none⟩) 4 3 1 [.int .i64 2, .int .i64 2, .int .i64 2, .int .i64 2], rowI (some ⟨z3, 0, none⟩) 4 3 1 [.int .i64 2, .int .i64 2, .int .i64 2, .int .i64 2]] _ (.pull [rowI (some ⟨z4, 0, none⟩) 4 3 1 [.int .i64 2, .int .i64 2, .int .i64 2, .int .i64 2]] _ (.k (.k .z)))))) ?_
  obtain ⟨k0, hk0⟩ : ∃ k : DK, k = ⟨some ⟨z5, 0, none⟩, 3, some ⟨z6, 0, none⟩, 3, [⟨some ⟨z2, 0, none⟩, 4, [2, 1, 1, 2]⟩, ⟨some ⟨z3, 0, none⟩, 4, [2, 2, 2, 2]⟩, ⟨some ⟨z4, 0, none⟩, 4, [2, 2, 2, 2]⟩]⟩ := ⟨_, rfl⟩
  refine T.sub (O' := (([rowI k0.nb k0.nc 41 1 (vals k0.qs), rowI k0.fb k0.fc 4 1 (bools exX.final)] ++ itms 3 k0.qs) ++ [oI z1 25 [.int .i64 2, (.int .i64 0), (.slice (some ⟨z5, 0, none⟩) 3 3), (.slice (some ⟨z6, 0, none⟩) 3 3)]])) (by subst hk0; exact Sub.rf) ?_
  refine T.pack (φ := nums k0.qs = exX.next) (by subst hk0; rfl) ?_
  refine T.sub (O' := [dI 41 4 3 exX k0, oI z1 25 (dC exX k0)]) (by subst hk0; exact Sub.rf) ?_
  refine T.ret (Res.drop ?_)
  refine Res.cell1 (i := 1) Tryd.results40 Tryd.underlying25 rfl inf25 rfl rfl rfl ?_
  exact ⟨[dI 41 4 3 exX k0], (by exact Sub.k .z), k0, rfl, rfl⟩
theorem sho2 (w : World) [Tab Tryd.prog w] (k : DK) (ha : At w ex2 k) :
    PureT Tryd.prog 20 [dV ex2 k] w fun v N => ∃ wb wc, v = .tuple #[.slice wb 2 wc, .bool true, .int .i64 0] ∧ N = [rowI wb wc 5 1 (byts [1, 0])] := by
  refine (shoC w ex2 k ha bd_ex2.1 bd_ex2.2.1 bd_ex2.2.2).mono ?_
  rintro v N ⟨res, wb, wc, h1, _, h3, h4⟩
  obtain rfl := ex2_least (h1 ex2_ok)
  rw [ex2_ok] at h3
  exact ⟨wb, wc, h3, h4⟩
theorem cnt2 (w : World) [Tab Tryd.prog w] (k : DK) (ha : At w ex2 k) :
    PureT Tryd.prog 22 [dV ex2 k, .int .i64 2] w fun v N => v = .tuple #[.int .u64 2, .int .i64 0] ∧ N = [] := by
  have h := countC w ex2 k ha bd_ex2.1 bd_ex2.2.1 bd_ex2.2.2 2
  rw [ex2_cnt, ex2_cntE] at h
  exact h
theorem wds2 (w : World) [Tab Tryd.prog w] (k : DK) (ha : At w ex2 k) :
    PureT Tryd.prog 15 [dV ex2 k, .int .i64 3] w fun v N => ∃ ws lb lc, wnums ws = [[1, 0], [1, 1], [0, 1, 0]] ∧ v = .tuple #[.slice lb ws.length lc, .int .i64 0] ∧ N = [wlI 29 5 lb lc ws] := by
  have h := wdsC w ex2 k ha bd_ex2.1 bd_ex2.2.1 bd_ex2.2.2 3
  rw [ex2_wds, ex2_wdsE] at h
  exact h
theorem fin2 (w : World) [Tab Tryd.prog w] (k : DK) (ha : At w ex2 k) :
    PureT Tryd.prog 21 [dV ex2 k] w fun v N => v = .tuple #[.bool false, .int .i64 0] ∧ N = [] := by
  refine (finC w ex2 k ha bd_ex2.1 bd_ex2.2.1 bd_ex2.2.2).mono ?_
  rintro v N ⟨b, h1, h2, h3, _⟩
  rw [ex2_ok] at h1
  cases b with
  | false => exact ⟨h1, h2⟩
  | true => exact absurd ex2_inf ((h3 ex2_ok).1 rfl)
theorem finX (w : World) [Tab Tryd.prog w] (k : DK) (ha : At w exX k) :
    PureT Tryd.prog 21 [dV exX k] w fun v N => v = .tuple #[.bool true, .int .i64 0] ∧ N = [] := by
  refine (finC w exX k ha bd_exX.1 bd_exX.2.1 bd_exX.2.2).mono ?_
  rintro v N ⟨b, h1, h2, h3, _⟩
  rw [exX_ok] at h1
  cases b with
  | true => exact ⟨h1, h2⟩
  | false => exact absurd ((h3 exX_ok).2 exX_fin) (by decide)
theorem nthX (w : World) [Tab Tryd.prog w] (k : DK) (ha : At w exX k) :
    PureT Tryd.prog 14 [dV exX k, .int .u64 2] w fun v N => ∃ wb wc, v = .tuple #[.slice wb 0 wc, .bool false, .int .i64 0] ∧ N = [rowI wb wc 5 1 (byts [])] := by
  have h := nthC w exX k ha bd_exX.1 bd_exX.2.1 bd_exX.2.2 2
  rw [exX_nth, exX_nthE] at h
  exact h
theorem nth2 (w : World) [Tab Tryd.prog w] (k : DK) (ha : At w ex2 k) :
    PureT Tryd.prog 14 [dV ex2 k, .int .u64 2] w fun v N => ∃ wb wc, v = .tuple #[.slice wb 3 wc, .bool true, .int .i64 0] ∧ N = [rowI wb wc 5 1 (byts [0, 1, 0])] := by
  have h := nthC w ex2 k ha bd_ex2.1 bd_ex2.2.1 bd_ex2.2.2 2
  rw [ex2_nth, ex2_nthE] at h
  exact h
set_option maxHeartbeats 8000000 in
set_option maxRecDepth 20000 in
theorem awakeC (w : World) [Tab Tryd.prog w] : PureT Tryd.prog 11 [] w fun v N => v = .bool true ∧ N = [] := by
  refine CallT.enter Tryd.func11 rfl Tryd.ntmps11 rfl ?_
  refine T.seq (T.region ?_)
  refine TO.quiet (q_assign rfl) ?_
  refine TO.nil (T.seq (T.region ?_))
  have hk19 := fun (w1 : World) (hI : Inv w [] w1) => (haveI := Inv.tab (P := Tryd.prog) hI; secondK w1)
  refine TO.loud rfl (l_call ent23 (CallT.of_pure hk19) rfl ?_)
  clear hk19
  rintro vr O' ⟨N, rfl, k1, rfl, rfl⟩
  have hk20 := fun (w1 : World) (hI : Inv w [dI 41 4 3 ex2 k1] w1) => (haveI := Inv.tab (P := Tryd.prog) hI; sho2 w1 k1 (hI.at (k := k1) (List.mem_of_getElem? (i := 0) rfl)))
  refine TO.loud rfl (l_call ent20 (CallT.of_pure hk20) rfl ?_)
  clear hk20
  rintro vr O' ⟨N, rfl, wb1, wc1, rfl, rfl⟩
  refine TO.quiet (q_move rfl) (TO.quiet (q_extract (vs := _) rfl rfl) (TO.quiet (q_extract (vs := _) rfl rfl) (TO.quiet (q_extract (vs := _) rfl rfl) ?_)))
  refine TO.quiet (q_assign rfl) (TO.quiet (q_assign rfl) (TO.quiet (q_assign rfl) ?_))
  refine TO.sub (O' := [rowI wb1 wc1 5 1 (byts [1, 0])]) (by exact Sub.k .z) ?_
  refine TO.nil (T.seq (T.region ?_))
  have hk25 := fun (w1 : World) (hI : Inv w [rowI wb1 wc1 5 1 (byts [1, 0])] w1) => (haveI := Inv.tab (P := Tryd.prog) hI; secondK w1)
  refine TO.loud rfl (l_call ent23 (CallT.of_pure hk25) rfl ?_)
  clear hk25
  rintro vr O' ⟨N, rfl, k2, rfl, rfl⟩
  have hk26 := fun (w1 : World) (hI : Inv w [dI 41 4 3 ex2 k2, rowI wb1 wc1 5 1 (byts [1, 0])] w1) => (haveI := Inv.tab (P := Tryd.prog) hI; cnt2 w1 k2 (hI.at (k := k2) (List.mem_of_getElem? (i := 0) rfl)))
  refine TO.loud rfl (l_call ent22 (CallT.of_pure hk26) rfl ?_)
  clear hk26
  rintro vr O' ⟨N, rfl, rfl, rfl⟩
  refine TO.quiet (q_move rfl) (TO.quiet (q_extract (vs := _) rfl rfl) (TO.quiet (q_extract (vs := _) rfl rfl) (TO.quiet (q_assign rfl) ?_)))
  refine TO.quiet (q_assign rfl) ?_
  refine TO.sub (O' := [rowI wb1 wc1 5 1 (byts [1, 0])]) (by exact Sub.d (.k .z)) ?_
  refine TO.nil (T.seq (T.region ?_))
  have hk30 := fun (w1 : World) (hI : Inv w [rowI wb1 wc1 5 1 (byts [1, 0])] w1) => (haveI := Inv.tab (P := Tryd.prog) hI; secondK w1)
  refine TO.loud rfl (l_call ent23 (CallT.of_pure hk30) rfl ?_)
  clear hk30
  rintro vr O' ⟨N, rfl, k3, rfl, rfl⟩
  have hk31 := fun (w1 : World) (hI : Inv w [dI 41 4 3 ex2 k3, rowI wb1 wc1 5 1 (byts [1, 0])] w1) => (haveI := Inv.tab (P := Tryd.prog) hI; wds2 w1 k3 (hI.at (k := k3) (List.mem_of_getElem? (i := 0) rfl)))
  refine TO.loud rfl (l_call ent15 (CallT.of_pure hk31) rfl ?_)
  clear hk31
  rintro vr O' ⟨N, rfl, ws, lb, lc, hws, rfl, rfl⟩
  refine TO.quiet (q_move rfl) (TO.quiet (q_extract (vs := _) rfl rfl) (TO.quiet (q_extract (vs := _) rfl rfl) (TO.quiet (q_assign rfl) ?_)))
  refine TO.quiet (q_assign rfl) ?_
  refine TO.sub (O' := [wlI 29 5 lb lc ws, rowI wb1 wc1 5 1 (byts [1, 0])]) (by exact Sub.k (.d (.k .z))) ?_
  refine TO.nil (T.seq (T.region ?_))
  have hk35 := fun (w1 : World) (hI : Inv w [wlI 29 5 lb lc ws, rowI wb1 wc1 5 1 (byts [1, 0])] w1) => (haveI := Inv.tab (P := Tryd.prog) hI; secondK w1)
  refine TO.loud rfl (l_call ent23 (CallT.of_pure hk35) rfl ?_)
  clear hk35
  rintro vr O' ⟨N, rfl, k4, rfl, rfl⟩
  have hk36 := fun (w1 : World) (hI : Inv w [dI 41 4 3 ex2 k4, wlI 29 5 lb lc ws, rowI wb1 wc1 5 1 (byts [1, 0])] w1) => (haveI := Inv.tab (P := Tryd.prog) hI; fin2 w1 k4 (hI.at (k := k4) (List.mem_of_getElem? (i := 0) rfl)))
  refine TO.loud rfl (l_call ent21 (CallT.of_pure hk36) rfl ?_)
  clear hk36
  rintro vr O' ⟨N, rfl, rfl, rfl⟩
  refine TO.quiet (q_move rfl) (TO.quiet (q_extract (vs := _) rfl rfl) (TO.quiet (q_extract (vs := _) rfl rfl) (TO.quiet (q_assign rfl) ?_)))
  refine TO.quiet (q_assign rfl) ?_
  refine TO.sub (O' := [wlI 29 5 lb lc ws, rowI wb1 wc1 5 1 (byts [1, 0])]) (by exact Sub.d (.k (.k .z))) ?_
  refine TO.nil (T.seq (T.region ?_))
  have hk40 := fun (w1 : World) (hI : Inv w [wlI 29 5 lb lc ws, rowI wb1 wc1 5 1 (byts [1, 0])] w1) => (haveI := Inv.tab (P := Tryd.prog) hI; exactlyK w1)
  refine TO.loud rfl (l_call ent40 (CallT.of_pure hk40) rfl ?_)
  clear hk40
  rintro vr O' ⟨N, rfl, k5, rfl, rfl⟩
  have hk41 := fun (w1 : World) (hI : Inv w [dI 41 4 3 exX k5, wlI 29 5 lb lc ws, rowI wb1 wc1 5 1 (byts [1, 0])] w1) => (haveI := Inv.tab (P := Tryd.prog) hI; finX w1 k5 (hI.at (k := k5) (List.mem_of_getElem? (i := 0) rfl)))
  refine TO.loud rfl (l_call ent21 (CallT.of_pure hk41) rfl ?_)
  clear hk41
  rintro vr O' ⟨N, rfl, rfl, rfl⟩
  refine TO.quiet (q_move rfl) (TO.quiet (q_extract (vs := _) rfl rfl) (TO.quiet (q_extract (vs := _) rfl rfl) (TO.quiet (q_assign rfl) ?_)))
  refine TO.quiet (q_assign rfl) ?_
  refine TO.sub (O' := [wlI 29 5 lb lc ws, rowI wb1 wc1 5 1 (byts [1, 0])]) (by exact Sub.d (.k (.k .z))) ?_
  refine TO.nil (T.seq (T.region ?_))
  have hk45 := fun (w1 : World) (hI : Inv w [wlI 29 5 lb lc ws, rowI wb1 wc1 5 1 (byts [1, 0])] w1) => (haveI := Inv.tab (P := Tryd.prog) hI; exactlyK w1)
  refine TO.loud rfl (l_call ent40 (CallT.of_pure hk45) rfl ?_)
  clear hk45
  rintro vr O' ⟨N, rfl, k6, rfl, rfl⟩
  have hk46 := fun (w1 : World) (hI : Inv w [dI 41 4 3 exX k6, wlI 29 5 lb lc ws, rowI wb1 wc1 5 1 (byts [1, 0])] w1) => (haveI := Inv.tab (P := Tryd.prog) hI; nthX w1 k6 (hI.at (k := k6) (List.mem_of_getElem? (i := 0) rfl)))
  refine TO.loud rfl (l_call ent14 (CallT.of_pure hk46) rfl ?_)
  clear hk46
  rintro vr O' ⟨N, rfl, wb2, wc2, rfl, rfl⟩
  refine TO.quiet (q_move rfl) (TO.quiet (q_extract (vs := _) rfl rfl) (TO.quiet (q_extract (vs := _) rfl rfl) (TO.quiet (q_extract (vs := _) rfl rfl) ?_)))
  refine TO.quiet (q_assign rfl) (TO.quiet (q_assign rfl) (TO.quiet (q_assign rfl) ?_))
  refine TO.sub (O' := [rowI wb2 wc2 5 1 (byts []), wlI 29 5 lb lc ws, rowI wb1 wc1 5 1 (byts [1, 0])]) (by exact Sub.k (.d (.k (.k .z)))) ?_
  refine TO.nil (T.seq (T.region ?_))
  have hk51 := fun (w1 : World) (hI : Inv w [rowI wb2 wc2 5 1 (byts []), wlI 29 5 lb lc ws, rowI wb1 wc1 5 1 (byts [1, 0])] w1) => (haveI := Inv.tab (P := Tryd.prog) hI; secondK w1)
  refine TO.loud rfl (l_call ent23 (CallT.of_pure hk51) rfl ?_)
  clear hk51
  rintro vr O' ⟨N, rfl, k7, rfl, rfl⟩
  have hk52 := fun (w1 : World) (hI : Inv w [dI 41 4 3 ex2 k7, rowI wb2 wc2 5 1 (byts []), wlI 29 5 lb lc ws, rowI wb1 wc1 5 1 (byts [1, 0])] w1) => (haveI := Inv.tab (P := Tryd.prog) hI; nth2 w1 k7 (hI.at (k := k7) (List.mem_of_getElem? (i := 0) rfl)))
  refine TO.loud rfl (l_call ent14 (CallT.of_pure hk52) rfl ?_)
  clear hk52
  rintro vr O' ⟨N, rfl, wb3, wc3, rfl, rfl⟩
  refine TO.quiet (q_move rfl) (TO.quiet (q_extract (vs := _) rfl rfl) (TO.quiet (q_extract (vs := _) rfl rfl) (TO.quiet (q_extract (vs := _) rfl rfl) ?_)))
  refine TO.quiet (q_assign rfl) (TO.quiet (q_assign rfl) (TO.quiet (q_assign rfl) ?_))
  refine TO.sub (O' := [rowI wb3 wc3 5 1 (byts [0, 1, 0]), rowI wb2 wc2 5 1 (byts []), wlI 29 5 lb lc ws, rowI wb1 wc1 5 1 (byts [1, 0])]) (by exact Sub.k (.d (.k (.k (.k .z))))) ?_
  refine TO.nil (T.seq (T.region ?_))
  refine TO.quiet (q_move rfl) (TO.quiet (QT.toB (q_eql rfl rfl) (decide_eq_true rfl)) (TO.quiet (q_move rfl) ?_))
  refine TO.guarded rfl rfl rfl (LT.of_quiet rfl rfl (q_move rfl) ?_)
  refine TO.guarded rfl rfl rfl (LT.of_quiet rfl rfl (QT.toB (q_eql rfl rfl) (decide_eq_true rfl)) ?_)
  refine TO.quiet (q_pick1 rfl rfl) (TO.quiet (q_move rfl) ?_)
  refine TO.guarded rfl rfl rfl (LT.of_quiet rfl rfl (q_move rfl) ?_)
  refine TO.guarded rfl rfl rfl (LT.of_quiet rfl rfl (QT.toB (q_eql rfl rfl) (decide_eq_true rfl)) ?_)
  refine TO.quiet (q_pick1 rfl rfl) (TO.quiet (q_move rfl) ?_)
  refine TO.guarded rfl rfl rfl (LT.of_quiet rfl rfl (q_move rfl) ?_)
  refine TO.guarded rfl rfl rfl (LT.of_quiet rfl rfl (QT.toB (q_eql rfl rfl) (decide_eq_true rfl)) ?_)
  refine TO.quiet (q_pick1 rfl rfl) (TO.quiet (q_move rfl) ?_)
  refine TO.guarded rfl rfl rfl (LT.of_quiet rfl rfl (q_move rfl) ?_)
  refine TO.guarded rfl rfl rfl (LT.of_quiet rfl rfl (QT.toB (q_eql rfl rfl) (decide_eq_true rfl)) ?_)
  refine TO.quiet (q_pick1 rfl rfl) (TO.quiet (q_move rfl) ?_)
  refine TO.guarded rfl rfl rfl (LT.of_quiet rfl rfl (q_move rfl) ?_)
  refine TO.guarded rfl rfl rfl (LT.of_quiet rfl rfl (QT.toB (q_eql rfl rfl) (decide_eq_true rfl)) ?_)
  refine TO.quiet (q_pick1 rfl rfl) (TO.quiet (q_move rfl) ?_)
  refine TO.guarded rfl rfl rfl (LT.of_quiet rfl rfl (q_move rfl) ?_)
  refine TO.guarded rfl rfl rfl (LT.of_quiet rfl rfl (QT.toB (q_eql rfl rfl) (decide_eq_true rfl)) ?_)
  refine TO.quiet (q_pick1 rfl rfl) (TO.quiet (q_move rfl) ?_)
  refine TO.guarded rfl rfl rfl (LT.of_quiet rfl rfl (q_move rfl) ?_)
  refine TO.quiet (q_pick1 rfl rfl) (TO.quiet (q_move rfl) ?_)
  refine TO.guarded rfl rfl rfl (LT.of_quiet rfl rfl (q_move rfl) ?_)
  refine TO.guarded rfl rfl rfl (l_buildSlice (m := 2) (parts := [(0, .const (.int .u8 1)), (1, .const (.int .u8 0))]) (cs := [.int .u8 1, .int .u8 0]) Tryd.underlying29 inf5 (by decide) (by kernel_rfl) rfl (fun z1 => ?_))
  have hk88 := fun (w1 : World) (hI : Inv w [rowI (some ⟨z1, 0, none⟩) 2 5 1 [.int .u8 1, .int .u8 0], rowI wb3 wc3 5 1 (byts [0, 1, 0]), rowI wb2 wc2 5 1 (byts []), wlI 29 5 lb lc ws, rowI wb1 wc1 5 1 (byts [1, 0])] w1) => (haveI := Inv.tab (P := Tryd.prog) hI; (show PureT _ _ _ _ _ from by
      have h9 := equalBytes w1 wb1 (some ⟨z1, 0, none⟩) wc1 2 [1, 0] [1, 0] (hI.slOf (List.mem_of_getElem? (i := 4) rfl)) (hI.slOf (cs := byts [1, 0]) (List.mem_of_getElem? (i := 0) rfl)) (by decide)
      exact h9))
  refine TO.guarded rfl rfl rfl (l_call ent16 (CallT.of_pure hk88) rfl ?_)
  clear hk88
  rintro vr O' ⟨N, rfl, rfl, rfl⟩
  refine TO.quiet (q_pick1 rfl rfl) (TO.quiet (q_move rfl) ?_)
  refine TO.guarded rfl rfl rfl (LT.of_quiet rfl rfl (q_move rfl) ?_)
  refine TO.guarded rfl rfl rfl (LT.of_quiet rfl rfl (QT.toB (q_eql rfl rfl) (decide_eq_true rfl)) ?_)
  refine TO.quiet (q_pick1 rfl rfl) (TO.quiet (q_move rfl) ?_)
  refine TO.guarded rfl rfl rfl (LT.of_quiet rfl rfl (q_move rfl) ?_)
  refine TO.guarded rfl rfl rfl (l_buildSlice (m := 2) (parts := [(0, .const (.int .u8 1)), (1, .const (.int .u8 0))]) (cs := [.int .u8 1, .int .u8 0]) Tryd.underlying29 inf5 (by decide) (by kernel_rfl) rfl (fun z2 => ?_))
  refine TO.guarded rfl rfl rfl (l_buildSlice (m := 2) (parts := [(0, .const (.int .u8 1)), (1, .const (.int .u8 1))]) (cs := [.int .u8 1, .int .u8 1]) Tryd.underlying29 inf5 (by decide) (by kernel_rfl) rfl (fun z3 => ?_))
  refine TO.guarded rfl rfl rfl (l_buildSlice (m := 3) (parts := [(0, .const (.int .u8 0)), (1, .const (.int .u8 1)), (2, .const (.int .u8 0))]) (cs := [.int .u8 0, .int .u8 1, .int .u8 0]) Tryd.underlying29 inf5 (by decide) (by kernel_rfl) rfl (fun z4 => ?_))
  refine TO.guarded rfl rfl rfl (l_buildSlice (m := 3) (parts := [(0, .tmp 96), (1, .tmp 97), (2, .tmp 98)]) (cs := [(.slice (some ⟨z2, 0, none⟩) 2 2), (.slice (some ⟨z3, 0, none⟩) 2 2), (.slice (some ⟨z4, 0, none⟩) 3 3)]) Tryd.underlying33 inf29 (by decide) (by kernel_rfl) rfl (fun z5 => ?_))
  have hk100 := fun (w1 : World) (hI : Inv w [rowI (some ⟨z5, 0, none⟩) 3 29 1 [(.slice (some ⟨z2, 0, none⟩) 2 2), (.slice (some ⟨z3, 0, none⟩) 2 2), (.slice (some ⟨z4, 0, none⟩) 3 3)], rowI (some ⟨z4, 0, none⟩) 3 5 1 [.int .u8 0, .int .u8 1, .int .u8 0], rowI (some ⟨z3, 0, none⟩) 2 5 1 [.int .u8 1, .int .u8 1], rowI (some ⟨z2, 0, none⟩) 2 5 1 [.int .u8 1, .int .u8 0], rowI (some ⟨z1, 0, none⟩) 2 5 1 [.int .u8 1, .int .u8 0], rowI wb3 wc3 5 1 (byts [0, 1, 0]), rowI wb2 wc2 5 1 (byts []), wlI 29 5 lb lc ws, rowI wb1 wc1 5 1 (byts [1, 0])] w1) => (haveI := Inv.tab (P := Tryd.prog) hI; (show PureT _ _ _ _ _ from by
      have h8 := wlO hI (T2 := 29) (T1 := 5) (ws := ws) (List.mem_of_getElem? (i := 7) rfl)
      have h7 : ∀ q ∈ ws, q.xs.length < 9223372036854775807 := fun q hq => by
        have h6 : q.xs ∈ wnums ws := List.mem_map_of_mem hq
        rw [hws] at h6
        simp only [List.mem_cons, List.not_mem_nil, or_false] at h6
        rcases h6 with h6 | h6 | h6 <;> rw [h6] <;> decide
      have h5 : ws.length = 3 := by have := congrArg List.length hws; simpa using this
      have h9 := equalWords w1 lb (some ⟨z5, 0, none⟩) lc 3 ws [⟨some ⟨z2, 0, none⟩, 2, [1, 0]⟩, ⟨some ⟨z3, 0, none⟩, 2, [1, 1]⟩, ⟨some ⟨z4, 0, none⟩, 3, [0, 1, 0]⟩] h8.1 h8.2 (by omega) (hI.slOf (List.mem_of_getElem? (i := 0) rfl)) (by
        have g1 := hI.slOf (cs := byts [1, 0]) (List.mem_of_getElem? (i := 3) rfl)
        have g2 := hI.slOf (cs := byts [1, 1]) (List.mem_of_getElem? (i := 2) rfl)
        have g3 := hI.slOf (cs := byts [0, 1, 0]) (List.mem_of_getElem? (i := 1) rfl)
        intro q hq
        simp only [List.mem_cons, List.not_mem_nil, or_false] at hq
        rcases hq with rfl | rfl | rfl
        · exact g1
        · exact g2
        · exact g3) (show 3 < 9223372036854775807 by decide) h7
      rw [decide_eq_true (show wnums ws = wnums [⟨some ⟨z2, 0, none⟩, 2, [1, 0]⟩, ⟨some ⟨z3, 0, none⟩, 2, [1, 1]⟩, ⟨some ⟨z4, 0, none⟩, 3, [0, 1, 0]⟩] from hws)] at h9
      exact h9))
  refine TO.guarded rfl rfl rfl (l_call ent17 (CallT.of_pure hk100) rfl ?_)
  clear hk100
  rintro vr O' ⟨N, rfl, rfl, rfl⟩
  refine TO.quiet (q_pick1 rfl rfl) (TO.quiet (q_move rfl) ?_)
  refine TO.guarded rfl rfl rfl (LT.of_quiet rfl rfl (q_move rfl) ?_)
  refine TO.guarded rfl rfl rfl (LT.of_quiet rfl rfl (q_not rfl) ?_)
  refine TO.quiet (q_pick1 rfl rfl) (TO.quiet (q_move rfl) ?_)
  refine TO.guarded rfl rfl rfl (LT.of_quiet rfl rfl (q_move rfl) ?_)
  refine TO.quiet (q_pick1 rfl rfl) (TO.quiet (q_move rfl) ?_)
  refine TO.guarded rfl rfl rfl (LT.of_quiet rfl rfl (q_move rfl) ?_)
  refine TO.guarded rfl rfl rfl (LT.of_quiet rfl rfl (q_not rfl) ?_)
  refine TO.quiet (q_pick1 rfl rfl) (TO.quiet (q_move rfl) ?_)
  refine TO.guarded rfl rfl rfl (LT.of_quiet rfl rfl (q_move rfl) ?_)
  refine TO.quiet (q_pick1 rfl rfl) (TO.quiet (q_move rfl) ?_)
  refine TO.guarded rfl rfl rfl (LT.of_quiet rfl rfl (q_move rfl) ?_)
  refine TO.guarded rfl rfl rfl (l_buildSlice (m := 3) (parts := [(0, .const (.int .u8 0)), (1, .const (.int .u8 1)), (2, .const (.int .u8 0))]) (cs := [.int .u8 0, .int .u8 1, .int .u8 0]) Tryd.underlying29 inf5 (by decide) (by kernel_rfl) rfl (fun z6 => ?_))
  have hk119 := fun (w1 : World) (hI : Inv w [rowI (some ⟨z6, 0, none⟩) 3 5 1 [.int .u8 0, .int .u8 1, .int .u8 0], rowI (some ⟨z5, 0, none⟩) 3 29 1 [(.slice (some ⟨z2, 0, none⟩) 2 2), (.slice (some ⟨z3, 0, none⟩) 2 2), (.slice (some ⟨z4, 0, none⟩) 3 3)], rowI (some ⟨z4, 0, none⟩) 3 5 1 [.int .u8 0, .int .u8 1, .int .u8 0], rowI (some ⟨z3, 0, none⟩) 2 5 1 [.int .u8 1, .int .u8 1], rowI (some ⟨z2, 0, none⟩) 2 5 1 [.int .u8 1, .int .u8 0], rowI (some ⟨z1, 0, none⟩) 2 5 1 [.int .u8 1, .int .u8 0], rowI wb3 wc3 5 1 (byts [0, 1, 0]), rowI wb2 wc2 5 1 (byts []), wlI 29 5 lb lc ws, rowI wb1 wc1 5 1 (byts [1, 0])] w1) => (haveI := Inv.tab (P := Tryd.prog) hI; (show PureT _ _ _ _ _ from by
      have h9 := equalBytes w1 wb3 (some ⟨z6, 0, none⟩) wc3 3 [0, 1, 0] [0, 1, 0] (hI.slOf (List.mem_of_getElem? (i := 6) rfl)) (hI.slOf (cs := byts [0, 1, 0]) (List.mem_of_getElem? (i := 0) rfl)) (by decide)
      exact h9))
  refine TO.guarded rfl rfl rfl (l_call ent16 (CallT.of_pure hk119) rfl ?_)
  clear hk119
  rintro vr O' ⟨N, rfl, rfl, rfl⟩
  refine TO.quiet (q_pick1 rfl rfl) (TO.quiet (q_assign rfl) ?_)
  refine TO.nil (T.ret (Res.drop ?_))
  refine Res.one (.bool true) Tryd.results11 rfl ?_
  exact ⟨[], Sub.z, rfl, rfl⟩
end Go.Proofs.YtnmfefmhfkhihaaDoor


namespace Go.Proofs.YtnmfefmhfkhihaaDoor
open Go.Lx Go.RowKit
set_option linter.unusedVariables false
set_option linter.unusedSimpArgs false
theorem hasNat (w : World) [Tab Tryd.prog w] (b : Option Addr) (c : Nat) (xs : List Nat) (x m : Nat) (hm : m = xs.length) (h : Sl w b (nats xs)) (hb : xs.length < 9223372036854775807) : PureT Tryd.prog 70 [.slice b m c, .int .i64 (x : Int)] w fun v N => v = .bool (decide (x ∈ xs)) ∧ N = [] := by
  subst hm
  have h1 := hasInt w b c (xs.map fun x : Nat => (x : Int)) x (by simpa [Function.comp_def] using h) (by simpa using hb)
  have e : decide ((x : Int) ∈ xs.map fun x : Nat => (x : Int)) = decide (x ∈ xs) := by
    apply decide_eq_decide.2
    simp only [List.mem_map]
    constructor
    · rintro ⟨y, hy, e⟩
      have : y = x := by omega
      exact this ▸ hy
    · exact fun h => ⟨x, h, rfl⟩
  rw [e, List.length_map] at h1
  exact h1
set_option maxHeartbeats 1000000 in
set_option maxRecDepth 20000 in
theorem orderC (w : World) [Tab Tryd.prog w] (d : DFA) (nb fb : Option Addr) (nc fc : Nat) (vs : List Value) (h : DfaAt w d nb vs fb) (hv : Valid d) (hn : d.next.length < 10000) :
    PureT Tryd.prog 52 [.agg (dfaCells d nb nc fb fc).toArray] w fun v N => ∃ b c, v = .slice b (order d).length c ∧ N = [rowI b c 3 1 (nats (order d))] := by
  refine CallT.enter Tryd.func52 rfl Tryd.ntmps52 rfl ?_
  have hs0 := hv.s0
  have hvl := h.rows.1
  have hww := hv.width
  refine T.seq (T.region ?_)
  refine TO.loud rfl (l_box (v := (.agg #[(.int .i64 d.vars), (.int .i64 d.start), (.slice nb d.next.length nc), (.slice fb d.final.length fc)])) (cs := [(.int .i64 d.vars), (.int .i64 d.start), (.slice nb d.next.length nc), (.slice fb d.final.length fc)]) rfl rfl (fun z1 => ?_))
  refine TO.quiet (q_assign rfl) ?_
  refine TO.nil (T.seq (T.region ?_))
  refine TO.quiet (q_fieldAddr Tryd.underlying25 rfl inf3 rfl rfl) (TO.quiet (q_load_box 0 Tryd.underlying3 rfl rfl rfl rfl) ?_)
  refine TO.loud rfl (l_build1 (v := (.int .i64 d.start)) Tryd.underlying41 inf3 rfl rfl rfl (fun z2 => ?_))
  refine TO.quiet (q_assign rfl) ?_
  refine TO.nil (T.seq (T.seq (T.region ?_)))
  refine TO.quiet (q_assign rfl) ?_
  refine TO.nil (T.block ?_)
  refine T.loop (fun (i : Nat) ρ O => ∃ (lb : Option Addr) (lc m : Nat), O = [rowI lb lc 3 1 (nats (bfsN d i)), oI z1 25 [(.int .i64 d.vars), (.int .i64 d.start), (.slice nb d.next.length nc), (.slice fb d.final.length fc)]] ∧ m = (bfsN d i).length ∧ i ≤ m ∧ Heads [(0, (.agg #[(.int .i64 d.vars), (.int .i64 d.start), (.slice nb d.next.length nc), (.slice fb d.final.length fc)])), (1, (.pointer (some ⟨z1, 0, none⟩))), (2, (.slice none 0 0)), (3, (.slice lb m lc)), (4, .int .i64 (i : Int))] ρ) (fun i => d.next.length - i) 0 ?_ ?_
  · exact ⟨_, _, 1, by rw [show nats (bfsN d 0) = [.int .i64 d.start] by simp [bfsN, Int.toNat_of_nonneg hs0]], rfl, Nat.zero_le _, ⟨rfl, rfl, rfl, rfl, rfl, trivial⟩⟩
  rintro i ρ O ⟨lb, lc, m, rfl, hm, him, hH⟩
  obtain ⟨ρ0, rfl⟩ := hH.elim
  clear hH
  have hlen := bfsN_len hv.toVal i
  refine T.seq (T.seq (T.region ?_))
  refine TO.quiet (q_move rfl) (TO.quiet (q_move rfl) (TO.quiet (q_len Tryd.underlying41 rfl) (TO.quiet (q_lss rfl rfl) ?_)))
  refine TO.nil ?_
  refine T.condP rfl (fun hc => ?_) (fun hc => ?_)
  · have hlt13 : i < m := by omega
    obtain ⟨o, ho⟩ : ∃ o, (bfsN d i)[i]? = some o := ⟨_, List.getElem?_eq_getElem (show i < (bfsN d i).length by omega)⟩
    have ho9 := (bfsN_ok hv.toVal i).2 o (List.mem_of_getElem? ho)
    obtain ⟨vb, vc, g1, s1⟩ := h.rows.get ho9
    have hl1 : d.next[o].length = 2 ^ d.vars.toNat := hv.len _ (List.getElem_mem ho9)
    refine T.skip (T.seq (T.block (T.seq ?_)))
    refine T.draws _ [(0, 0), (1, 0), (2, 0), (3, 0), (4, 0), (5, 0), (6, 0), (7, 0), (8, 0)] mixed (by kernel_rfl) (Sub.of (List.Sublist.refl _)) (fun _ _ _ h => h) ?_
    refine DO.quiet rfl (q_fieldAddr Tryd.underlying25 rfl inf22 rfl rfl) (DO.quiet rfl (q_load_box 1 Tryd.underlying22 rfl rfl rfl rfl) (DO.quiet rfl (q_move rfl) (DO.quiet rfl (q_move rfl) ?_)))
    refine DO.quiet rfl (q_ix (i := i) Tryd.underlying41 inf3 rfl rfl (rowO (List.mem_of_getElem? (i := 0) rfl)) (by omega) (by rw [List.length_map]; omega)) (DO.quiet rfl (q_ld Tryd.underlying3 rfl rfl (rowO (List.mem_of_getElem? (i := 0) rfl)) (show (nats (bfsN d i))[i]? = some (.int .i64 ((o : Nat) : Int)) by rw [List.getElem?_map, ho]; rfl)) (DO.quiet rfl (q_ix (i := o) Tryd.underlying22 inf41 rfl rfl (Sl.o h.outer) ho9 (hvl ▸ ho9)) (DO.quiet rfl (q_ld Tryd.underlying41 rfl rfl (Sl.o h.outer) g1) ?_)))
    refine DO.quiet rfl (q_assign rfl) ?_
    refine DO.done ?_
    refine T.seq (T.region ?_)
    refine TO.quiet (q_assign rfl) ?_
    refine TO.nil (T.block ?_)
    refine T.loop (fun (x : Nat) ρ O => ∃ (lb : Option Addr) (lc m2 : Nat), O = [rowI lb lc 3 1 (nats (bfsM d i o x)), oI z1 25 [(.int .i64 d.vars), (.int .i64 d.start), (.slice nb d.next.length nc), (.slice fb d.final.length fc)]] ∧ x ≤ 2 ^ d.vars.toNat ∧ m2 = (bfsM d i o x).length ∧ Heads [(0, (.agg #[(.int .i64 d.vars), (.int .i64 d.start), (.slice nb d.next.length nc), (.slice fb d.final.length fc)])), (1, (.pointer (some ⟨z1, 0, none⟩))), (2, (.slice none 0 0)), (3, (.slice lb m2 lc)), (4, .int .i64 (i : Int)), (5, (.slice vb d.next[o].length vc)), (6, .int .i64 (x : Int))] ρ) (fun x => 2 ^ d.vars.toNat - x) 0 ?_ ?_
    · exact ⟨lb, lc, m, rfl, Nat.zero_le _, hm, ⟨rfl, rfl, rfl, rfl, rfl, rfl, rfl, trivial⟩⟩
    rintro x ρ O ⟨lb, lc, m2, rfl, hx, hm2, hH⟩
    obtain ⟨ρ0, rfl⟩ := hH.elim
    clear hH
    obtain ⟨hml1, hml2⟩ := bfsM_len (i := i) hv ho9 hx
    refine T.seq (T.seq (T.region ?_))
    refine TO.quiet (q_move rfl) (TO.quiet (q_move rfl) (TO.quiet (q_len Tryd.underlying41 rfl) (TO.quiet (q_lss rfl rfl) ?_)))
    refine TO.nil ?_
    refine T.condP rfl (fun hc => ?_) (fun hc => ?_)
    · have hlt27 : x < d.next[o].length := by omega
      have hlx : x < 2 ^ d.vars.toNat := by omega
      obtain ⟨hta, _, hxk1, hx1⟩ := hv.toN_lt ho9 hlx
      have hx1 : (ints d.next[o])[x]? = some (.int .i64 ((toN d o x : Nat) : Int)) := by rw [ints_get hxk1, hx1]
      refine T.skip (T.seq (T.block (T.seq (T.region ?_))))
      refine TO.quiet (q_move rfl) (TO.quiet (q_move rfl) (TO.quiet (q_move rfl) (TO.quiet (q_ix (i := x) Tryd.underlying41 inf3 rfl rfl (Sl.o s1) (by rw [hl1]; exact hlx) (by rw [List.length_map, hl1]; exact hlx)) ?_)))
      refine TO.quiet (q_ld Tryd.underlying3 rfl rfl (Sl.o s1) hx1) ?_
      by_cases hin : toN d o x ∈ bfsM d i o x
      · have hk35 := fun (w1 : World) (hI : Inv w [rowI lb lc 3 1 (nats (bfsM d i o x)), oI z1 25 [(.int .i64 d.vars), (.int .i64 d.start), (.slice nb d.next.length nc), (.slice fb d.final.length fc)]] w1) => (haveI := Inv.tab (P := Tryd.prog) hI; hasNat w1 lb lc (bfsM d i o x) (toN d o x) m2 hm2 (hI.slOf (List.mem_of_getElem? (i := 0) rfl)) (by omega))
        refine TO.loud rfl (l_call ent70 (CallT.of_pure hk35) rfl ?_)
        clear hk35
        rintro v O' ⟨N, rfl, rfl, rfl⟩
        rw [decide_eq_true hin]
        refine TO.quiet (q_not rfl) ?_
        refine TO.nil ?_
        refine T.cond0 rfl ?_
        refine T.skip (T.region ?_)
        refine TO.quiet (q_move rfl) (TO.quiet (q_inc rfl rfl (by omega)) (TO.quiet (q_assign rfl) ?_))
        refine TO.sub (O' := [rowI lb lc 3 1 (nats (bfsM d i o x)), oI z1 25 [(.int .i64 d.vars), (.int .i64 d.start), (.slice nb d.next.length nc), (.slice fb d.final.length fc)]]) (Sub.pick [0, 0] rfl) ?_
        refine TO.nil ?_
        have hst : bfsM d i o (x + 1) = bfsM d i o x := by rw [bfsM_step, add, if_pos hin]
        exact ⟨x + 1, by omega, lb, lc, m2, by rw [hst], by omega, by rw [hst]; exact hm2, ⟨rfl, rfl, rfl, rfl, rfl, rfl, rfl, trivial⟩⟩
      have hk35 := fun (w1 : World) (hI : Inv w [rowI lb lc 3 1 (nats (bfsM d i o x)), oI z1 25 [(.int .i64 d.vars), (.int .i64 d.start), (.slice nb d.next.length nc), (.slice fb d.final.length fc)]] w1) => (haveI := Inv.tab (P := Tryd.prog) hI; hasNat w1 lb lc (bfsM d i o x) (toN d o x) m2 hm2 (hI.slOf (List.mem_of_getElem? (i := 0) rfl)) (by omega))
      refine TO.loud rfl (l_call ent70 (CallT.of_pure hk35) rfl ?_)
      clear hk35
      rintro v O' ⟨N, rfl, rfl, rfl⟩
      rw [decide_eq_false hin]
      refine TO.quiet (q_not rfl) ?_
      refine TO.nil ?_
      refine T.cond1 rfl ?_
      refine T.region ?_
      refine TO.quiet (q_move rfl) (TO.quiet (q_move rfl) (TO.quiet (q_move rfl) (TO.quiet (q_ix (i := x) Tryd.underlying41 inf3 rfl rfl (Sl.o s1) (by rw [hl1]; exact hlx) (by rw [List.length_map, hl1]; exact hlx)) ?_)))
      refine TO.quiet (q_ld Tryd.underlying3 rfl rfl (Sl.o s1) hx1) ?_
      refine TO.loud rfl (l_build1 (v := .int .i64 ((toN d o x : Nat) : Int)) Tryd.underlying41 inf3 rfl rfl rfl (fun z3 => ?_))
      refine TO.loud rfl (l_append 1 Tryd.underlying41 Tryd.underlying41 inf3 rfl rfl rfl rfl (by rw [List.length_map, hm2, Nat.mul_one]) (by decide) (Src.row (j := 0) rfl (by simp)) (by simp [oneB]) (by omega) (by decide) (by decide) (fun z4 zc5 => ?_))
      refine TO.quiet (q_assign rfl) ?_
      refine TO.nil (T.region ?_)
      refine TO.quiet (q_move rfl) (TO.quiet (q_inc rfl rfl (by omega)) (TO.quiet (q_assign rfl) ?_))
      refine TO.sub (O' := [rowI z4 zc5 3 1 ((nats (bfsM d i o x)) ++ [.int .i64 ((toN d o x : Nat) : Int)]), oI z1 25 [(.int .i64 d.vars), (.int .i64 d.start), (.slice nb d.next.length nc), (.slice fb d.final.length fc)]]) (Sub.pick [1, 1] rfl) ?_
      refine TO.nil ?_
      have hst : bfsM d i o (x + 1) = bfsM d i o x ++ [toN d o x] := by rw [bfsM_step, add, if_neg hin]
      exact ⟨x + 1, by omega, z4, zc5, m2 + 1, by rw [hst, show nats (bfsM d i o x ++ [toN d o x]) = nats (bfsM d i o x) ++ [.int .i64 ((toN d o x : Nat) : Int)] from List.map_append], by omega, by rw [hst]; simp [hm2], ⟨rfl, rfl, rfl, rfl, rfl, rfl, rfl, trivial⟩⟩
    have hge27 : ¬ x < d.next[o].length := by omega
    refine T.exit ?_
    refine T.region ?_
    refine TO.quiet (q_move rfl) (TO.quiet (q_inc rfl rfl (by omega)) (TO.quiet (q_assign rfl) ?_))
    refine TO.nil ?_
    have hxe : x = 2 ^ d.vars.toNat := by omega
    have hbs : bfsM d i o x = bfsN d (i + 1) := by rw [bfsN_succ ho, hxe]; rfl
    exact ⟨i + 1, by omega, lb, lc, m2, by rw [hbs], by rw [← hbs]; exact hm2, by omega, ⟨rfl, rfl, rfl, rfl, rfl, trivial⟩⟩
  have hge13 : ¬ i < m := by omega
  refine T.exit ?_
  refine T.seq (T.region ?_)
  refine TO.quiet (q_move rfl) (TO.quiet (q_assign rfl) ?_)
  refine TO.nil (T.ret (Res.drop ?_))
  refine Res.one (.slice lb m lc) Tryd.results52 rfl ?_
  have hlen := bfsN_len hv.toVal i
  have hle : order d = bfsN d i := order_eq (by omega) (by omega)
  exact ⟨[rowI lb lc 3 1 (nats (bfsN d i))], (Sub.pick [0] rfl), _, _, by rw [hle, ← hm], by rw [hle]⟩
end Go.Proofs.YtnmfefmhfkhihaaDoor


namespace Go.Lx
open Go.RowKit
set_option linter.unusedVariables false
def inL (d : DFA) (s : Nat) : List Int := (List.range d.next.length).map fun t => if t < s then lnN d 0 t else 0
def lnP (d : DFA) (n s x : Nat) : Int := if lnN d n s < 0 ∧ ((List.range x).any fun y => decide (lnN d n (toN d s y) = (n : Int))) = true then ((n + 1 : Nat) : Int) else lnN d n s
def lnL (d : DFA) (n s x : Nat) : List Int := (List.range d.next.length).map fun t => if t < s then lnN d (n + 1) t else if t = s then lnP d n s x else lnN d n t
def lenL (d : DFA) : List Int := (List.range d.next.length).map (lnD d)
theorem map_range_set {α : Type} {N s : Nat} (f : Nat → α) (v : α) (hs : s < N) : ((List.range N).map f).set s v = (List.range N).map fun t => if t = s then v else f t := by
  apply List.ext_getElem?
  intro t
  by_cases e : s = t
  · subst e
    rw [List.getElem?_set_self (by simpa using hs), List.getElem?_map, List.getElem?_range hs]; simp
  · rw [List.getElem?_set_ne e, List.getElem?_map, List.getElem?_map]
    by_cases ht : t < N
    · rw [List.getElem?_range ht]
      show some (f t) = some (if t = s then v else f t)
      rw [if_neg (fun h => e h.symm)]
    · rw [List.getElem?_eq_none (by simpa using ht)]; rfl
theorem map_range_congr {α : Type} {N : Nat} {f g : Nat → α} (h : ∀ t, t < N → f t = g t) : (List.range N).map f = (List.range N).map g := List.map_congr_left fun t ht => h t (List.mem_range.1 ht)
theorem inL_len (d : DFA) (s : Nat) : (inL d s).length = d.next.length := by simp [inL]
theorem lnL_len (d : DFA) (n s x : Nat) : (lnL d n s x).length = d.next.length := by simp [lnL]
theorem lenL_len (d : DFA) : (lenL d).length = d.next.length := by simp [lenL]
theorem inL_zero (d : DFA) : ints (inL d 0) = List.replicate d.next.length (.int .i64 0) := by
  unfold inL ints
  rw [List.map_map]
  refine List.ext_getElem (by simp) fun i h1 h2 => by simp
theorem inL_yes {d : DFA} {s : Nat} (hs : s < d.next.length) (hf : finN d s = true) : ((inL d s).set s (-1)).set s 0 = inL d (s + 1) := by
  rw [List.set_set]
  unfold inL
  rw [map_range_set _ _ hs]
  refine map_range_congr fun t ht => ?_
  by_cases e : t = s
  · subst e; rw [if_pos rfl, if_pos (by omega)]; simp [lnN, hf]
  · rw [if_neg e]
    by_cases h : t < s
    · rw [if_pos h, if_pos (by omega)]
    · rw [if_neg h, if_neg (by omega)]
theorem inL_no {d : DFA} {s : Nat} (hs : s < d.next.length) (hf : finN d s = false) : (inL d s).set s (-1) = inL d (s + 1) := by
  unfold inL
  rw [map_range_set _ _ hs]
  refine map_range_congr fun t ht => ?_
  by_cases e : t = s
  · subst e; rw [if_pos rfl, if_pos (by omega)]; simp [lnN, hf]
  · rw [if_neg e]
    by_cases h : t < s
    · rw [if_pos h, if_pos (by omega)]
    · rw [if_neg h, if_neg (by omega)]
theorem lnP_zero (d : DFA) (n s : Nat) : lnP d n s 0 = lnN d n s := by
  unfold lnP; rw [if_neg (fun h => by simp at h)]
theorem lnP_full (d : DFA) (n s : Nat) : lnP d n s (letN d) = lnN d (n + 1) s := rfl
theorem inL_end (d : DFA) : inL d d.next.length = lnL d 0 0 0 := by
  unfold inL lnL
  refine map_range_congr fun t ht => ?_
  rw [if_pos ht, if_neg (by omega)]
  by_cases e : t = 0
  · subst e; rw [if_pos rfl, lnP_zero]
  · rw [if_neg e]
theorem lnL_get {d : DFA} {n s x t : Nat} (ht : t < d.next.length) : (ints (lnL d n s x))[t]? = some (.int .i64 (if t < s then lnN d (n + 1) t else if t = s then lnP d n s x else lnN d n t)) := by
  unfold lnL ints
  rw [List.map_map, List.getElem?_map, List.getElem?_range ht]; rfl
theorem lnL_at {d : DFA} {n s x : Nat} (hs : s < d.next.length) : (ints (lnL d n s x))[s]? = some (.int .i64 (lnP d n s x)) := by
  rw [lnL_get hs, if_neg (by omega), if_pos rfl]
theorem lnP_neg {d : DFA} {n s x : Nat} : lnP d n s x < 0 ↔ lnN d n s < 0 ∧ ((List.range x).any fun y => decide (lnN d n (toN d s y) = (n : Int))) = false := by
  unfold lnP
  by_cases h : ((List.range x).any fun y => decide (lnN d n (toN d s y) = (n : Int))) = true
  · by_cases h2 : lnN d n s < 0
    · rw [if_pos ⟨h2, h⟩, h]; constructor
      · intro h3; omega
      · intro h3; exact absurd h3.2 (by simp)
    · rw [if_neg (fun q => h2 q.1)]; exact ⟨fun q => absurd q h2, fun q => absurd q.1 h2⟩
  · rw [if_neg (fun q => h q.2)]
    exact ⟨fun q => ⟨q, by simpa using h⟩, fun q => q.1⟩
theorem lnN_new {d : DFA} {n t : Nat} : lnN d (n + 1) t = (n : Int) ↔ lnN d n t = (n : Int) := by
  by_cases h : lnN d n t < 0 ∧ ((List.range (letN d)).any fun x => decide (lnN d n (toN d t x) = (n : Int))) = true
  · have h1 := h.1
    rw [lnN, if_pos h]
    exact ⟨fun q => by omega, fun q => by omega⟩
  · rw [lnN, if_neg h]
theorem lnL_to {d : DFA} {n s x t : Nat} (hneg : lnP d n s x < 0) : (if t < s then lnN d (n + 1) t else if t = s then lnP d n s x else lnN d n t) = (n : Int) ↔ lnN d n t = (n : Int) := by
  by_cases h : t < s
  · rw [if_pos h]; exact lnN_new
  · rw [if_neg h]
    by_cases e : t = s
    · subst e
      rw [if_pos rfl]
      have h1 := (lnP_neg.1 hneg).1
      constructor
      · intro q; omega
      · intro q; omega
    · rw [if_neg e]
theorem lnP_hit {d : DFA} {n s x : Nat} (hneg : lnP d n s x < 0) (ht : lnN d n (toN d s x) = (n : Int)) : lnP d n s (x + 1) = ((n + 1 : Nat) : Int) := by
  have h1 := (lnP_neg.1 hneg).1
  unfold lnP
  rw [if_pos ⟨h1, by rw [List.range_succ, List.any_append]; simp [ht]⟩]
theorem lnP_miss {d : DFA} {n s x : Nat} (h : ¬ (lnP d n s x < 0 ∧ lnN d n (toN d s x) = (n : Int))) : lnP d n s (x + 1) = lnP d n s x := by
  by_cases ht : lnN d n (toN d s x) = (n : Int)
  · have h1 : ¬ lnP d n s x < 0 := fun q => h ⟨q, ht⟩
    unfold lnP at h1 ⊢
    by_cases h2 : lnN d n s < 0
    · by_cases h3 : ((List.range x).any fun y => decide (lnN d n (toN d s y) = (n : Int))) = true
      · have e1 : ((List.range (x + 1)).any fun y => decide (lnN d n (toN d s y) = (n : Int))) = true := by rw [List.range_succ, List.any_append, h3]; rfl
        rw [if_pos ⟨h2, e1⟩, if_pos ⟨h2, h3⟩]
      · rw [if_neg (fun q => h3 q.2)] at h1; exact absurd h2 h1
    · rw [if_neg (fun q => h2 q.1), if_neg (fun q => h2 q.1)]
  · unfold lnP
    rw [List.range_succ, List.any_append]
    simp [ht]
theorem lnL_hit {d : DFA} {n s x : Nat} (hs : s < d.next.length) (hneg : lnP d n s x < 0) (ht : lnN d n (toN d s x) = (n : Int)) : (lnL d n s x).set s ((n + 1 : Nat) : Int) = lnL d n s (x + 1) := by
  unfold lnL
  rw [map_range_set _ _ hs]
  refine map_range_congr fun t _ => ?_
  by_cases e : t = s
  · subst e; rw [if_pos rfl, if_neg (by omega), if_pos rfl, lnP_hit hneg ht]
  · rw [if_neg e, if_neg e, if_neg e]
theorem lnL_miss {d : DFA} {n s x : Nat} (h : ¬ (lnP d n s x < 0 ∧ lnN d n (toN d s x) = (n : Int))) : lnL d n s (x + 1) = lnL d n s x := by
  unfold lnL; rw [lnP_miss h]
theorem lnL_row (d : DFA) (n s : Nat) : lnL d n s (letN d) = lnL d n (s + 1) 0 := by
  unfold lnL
  refine map_range_congr fun t _ => ?_
  rw [lnP_full, lnP_zero]
  by_cases h : t < s
  · rw [if_pos h, if_pos (by omega)]
  · rw [if_neg h]
    by_cases e : t = s
    · subst e; rw [if_pos rfl, if_pos (by omega)]
    · rw [if_neg e, if_neg (by omega)]
      by_cases e2 : t = s + 1
      · subst e2; rw [if_pos rfl]
      · rw [if_neg e2]
theorem lnL_round (d : DFA) (n : Nat) : lnL d n d.next.length 0 = lnL d (n + 1) 0 0 := by
  unfold lnL
  refine map_range_congr fun t ht => ?_
  rw [if_pos ht, if_neg (by omega)]
  by_cases e : t = 0
  · subst e; rw [if_pos rfl, lnP_zero]
  · rw [if_neg e]
theorem lnL_end {d : DFA} {n : Nat} (h : n + 1 = d.next.length) : lnL d n 0 0 = lenL d := by
  unfold lnL lenL lnD
  refine map_range_congr fun t ht => ?_
  rw [if_neg (by omega), show d.next.length - 1 = n by omega]
  by_cases e : t = 0
  · subst e; rw [if_pos rfl, lnP_zero]
  · rw [if_neg e]
theorem lenL_at {d : DFA} {t : Nat} (ht : t < d.next.length) : (ints (lenL d))[t]? = some (.int .i64 (lnD d t)) := by
  unfold lenL ints
  rw [List.map_map, List.getElem?_map, List.getElem?_range ht]; rfl
theorem lnN_big (d : DFA) (n s : Nat) : -1 ≤ lnN d n s ∧ lnN d n s ≤ (n : Int) := by
  rcases lnN_spec (d := d) n s with ⟨m, _, _, e⟩ | ⟨_, e⟩ <;> omega
end Go.Lx


namespace Go.Proofs.YtnmfefmhfkhihaaDoor
open Go.Lx Go.RowKit
set_option linter.unusedVariables false
set_option linter.unusedSimpArgs false
set_option maxHeartbeats 8000000 in
set_option maxRecDepth 20000 in
theorem lengthsC (w : World) [Tab Tryd.prog w] (a : DFA) (k : DK) (ha : At w a k) (hv : Valid a) :
    PureT Tryd.prog 51 [dV a k] w fun v N => ∃ b : Nat, v = .slice (some ⟨b, 0, none⟩) a.next.length a.next.length ∧ N = [rowI (some ⟨b, 0, none⟩) a.next.length 3 1 (ints (lenL a))] := by
  refine CallT.enter Tryd.func51 rfl Tryd.ntmps51 rfl ?_
  have h4 := hv.n4
  have h0 := hv.n0
  have hww : letN a ≤ 64 := hv.width
  have hfin := hv.fin
  have hvl := ha.rows.1
  obtain ⟨N, hN⟩ : ∃ N, N = a.next.length := ⟨_, rfl⟩
  refine T.seq (T.region ?_)
  refine TO.loud rfl (l_box (v := (dV a k)) (cs := (dC a k)) rfl rfl (fun z1 => ?_))
  refine TO.quiet (q_assign rfl) ?_
  refine TO.nil (T.seq (T.region ?_))
  refine TO.quiet (q_fieldAddr Tryd.underlying25 rfl inf22 rfl rfl) (TO.quiet (q_load_box 0 Tryd.underlying22 rfl rfl rfl rfl) (TO.quiet (q_len Tryd.underlying22 rfl) ?_))
  refine TO.loud rfl (l_makeSlice (m := a.next.length) Tryd.underlying41 inf3 rfl rfl (by omega) (by omega) (fun z2 => ?_))
  refine TO.quiet (q_assign rfl) ?_
  refine TO.nil (T.seq (T.seq (T.region ?_)))
  refine TO.quiet (q_assign rfl) ?_
  refine TO.nil (T.block ?_)
  refine T.sub (O' := [rowI (some ⟨z2, 0, none⟩) a.next.length 3 1 (List.replicate a.next.length (.int .i64 0)), oI z1 25 (dC a k)]) (by exact Sub.rf) ?_
  refine T.loop (fun (s : Nat) ρ O => O = [rowI (some ⟨z2, 0, none⟩) a.next.length 3 1 (ints (inL a s)), oI z1 25 (dC a k)] ∧ s ≤ a.next.length ∧ Heads [(0, (dV a k)), (1, (.pointer (some ⟨z1, 0, none⟩))), (2, (.slice none 0 0)), (3, (.slice (some ⟨z2, 0, none⟩) a.next.length a.next.length)), (4, .int .i64 ((s : Nat) : Int))] ρ) (fun s => a.next.length - s) 0 ?_ ?_
  · exact ⟨by rw [inL_zero], Nat.zero_le _, ⟨rfl, rfl, rfl, rfl, rfl, trivial⟩⟩
  rintro s ρ O ⟨rfl, hs, hH⟩
  obtain ⟨ρ0, rfl⟩ := hH.elim
  clear hH
  refine T.seq (T.seq (T.region ?_))
  refine TO.quiet (q_move rfl) (TO.quiet (q_move rfl) (TO.quiet (q_len Tryd.underlying41 rfl) (TO.quiet (q_lss rfl rfl) ?_)))
  refine TO.nil ?_
  refine T.condP rfl (fun hc => ?_) (fun hc => ?_)
  · have hlt15 : s < a.next.length := by omega
    refine T.skip (T.seq (T.block (T.seq (T.region ?_))))
    refine TO.quiet (q_move rfl) (TO.quiet (q_move rfl) (TO.quiet (q_ix (i := s) Tryd.underlying41 inf3 rfl rfl (rowO (List.mem_of_getElem? (i := 0) rfl)) hlt15 (by rw [List.length_map, inL_len]; omega)) ?_))
    refine TO.loud rfl (l_st (j := s) (v := .int .i64 (-1)) (vs := [(.int .i64 (-1))]) (cs := ints (inL a s)) 0 inf3 rfl rfl rfl rfl rfl (by simp) rfl (by rw [List.length_map, inL_len]; simp; omega) ?_)
    refine TO.sub (O' := [rowI (some ⟨z2, 0, none⟩) a.next.length 3 1 (ints ((inL a s).set s (-1))), oI z1 25 (dC a k)]) (by rw [show putL (ints (inL a s)) s [(.int .i64 (-1))] = ints ((inL a s).set s (-1)) from by simp [putL]]; exact Sub.of (List.Sublist.refl _)) ?_
    refine TO.nil (T.seq (T.region ?_))
    refine TO.quiet (q_fieldAddr Tryd.underlying25 rfl inf23 rfl rfl) (TO.quiet (q_load_box 1 Tryd.underlying23 rfl rfl rfl rfl) (TO.quiet (q_move rfl) (TO.quiet (q_ix (i := s) Tryd.underlying23 inf4 rfl rfl (Sl.o ha.final) (by omega) (by rw [List.length_map]; omega)) ?_)))
    refine TO.quiet (q_ld Tryd.underlying4 rfl rfl (Sl.o ha.final) (bools_get (by omega))) ?_
    refine TO.nil ?_
    refine T.cond rfl (fun hc => ?_) (fun hc => ?_)
    · have hfn : finN a s = true := by rw [← hc]; simp [finN, show s < a.final.length by omega]
      refine T.region ?_
      refine TO.quiet (q_move rfl) (TO.quiet (q_move rfl) (TO.quiet (q_ix (i := s) Tryd.underlying41 inf3 rfl rfl (rowO (List.mem_of_getElem? (i := 0) rfl)) hlt15 (by rw [List.length_map, List.length_set, inL_len]; omega)) ?_))
      refine TO.loud rfl (l_st (j := s) (v := .int .i64 0) (vs := [(.int .i64 0)]) (cs := ints ((inL a s).set s (-1))) 0 inf3 rfl rfl rfl rfl rfl (by simp) rfl (by rw [List.length_map, List.length_set, inL_len]; simp; omega) ?_)
      refine TO.sub (O' := [rowI (some ⟨z2, 0, none⟩) a.next.length 3 1 (ints (((inL a s).set s (-1)).set s 0)), oI z1 25 (dC a k)]) (by rw [show putL (ints ((inL a s).set s (-1))) s [(.int .i64 0)] = ints (((inL a s).set s (-1)).set s 0) from by simp [putL]]; exact Sub.of (List.Sublist.refl _)) ?_
      refine TO.nil (T.region ?_)
      refine TO.quiet (q_move rfl) (TO.quiet (q_addN (a := s) (b := 1) rfl rfl (by omega)) (TO.quiet (q_assign rfl) ?_))
      refine TO.nil ?_
      exact ⟨s + 1, by omega, by rw [← inL_yes hlt15 hfn], by omega, ⟨rfl, rfl, rfl, rfl, rfl, trivial⟩⟩
    have hfn : finN a s = false := by rw [← hc]; simp [finN, show s < a.final.length by omega]
    refine T.skip (T.region ?_)
    refine TO.quiet (q_move rfl) (TO.quiet (q_addN (a := s) (b := 1) rfl rfl (by omega)) (TO.quiet (q_assign rfl) ?_))
    refine TO.nil ?_
    exact ⟨s + 1, by omega, by rw [← inL_no hlt15 hfn], by omega, ⟨rfl, rfl, rfl, rfl, rfl, trivial⟩⟩
  have hge15 : ¬ s < a.next.length := by omega
  refine T.exit ?_
  refine T.seq (T.seq (T.region ?_))
  refine TO.quiet (q_assign rfl) ?_
  refine TO.nil (T.block ?_)
  have hse : s = a.next.length := by omega
  have e0 : inL a s = lnL a 0 0 0 := by rw [hse]; exact inL_end a
  refine T.loop (fun (n : Nat) ρ O => O = [rowI (some ⟨z2, 0, none⟩) a.next.length 3 1 (ints (lnL a n 0 0)), oI z1 25 (dC a k)] ∧ n + 1 ≤ a.next.length ∧ Heads [(0, (dV a k)), (1, (.pointer (some ⟨z1, 0, none⟩))), (2, (.slice none 0 0)), (3, (.slice (some ⟨z2, 0, none⟩) a.next.length a.next.length)), (4, .int .i64 ((s : Nat) : Int)), (5, .int .i64 ((n + 1 : Nat) : Int))] ρ) (fun n => a.next.length - n) 0 ?_ ?_
  · exact ⟨by rw [e0], h0, ⟨rfl, rfl, rfl, rfl, rfl, rfl, trivial⟩⟩
  rintro n ρ O ⟨rfl, hn, hH⟩
  obtain ⟨ρ0, rfl⟩ := hH.elim
  clear hH
  refine T.seq (T.seq (T.region ?_))
  refine TO.quiet (q_move rfl) (TO.quiet (q_move rfl) (TO.quiet (q_len Tryd.underlying41 rfl) (TO.quiet (q_lss rfl rfl) ?_)))
  refine TO.nil ?_
  refine T.condP rfl (fun hc => ?_) (fun hc => ?_)
  · have hlt32 : n + 1 < a.next.length := by omega
    refine T.skip (T.seq (T.block (T.seq (T.region ?_))))
    refine TO.quiet (q_assign rfl) ?_
    refine TO.nil (T.block ?_)
    refine T.loop (fun (t : Nat) ρ O => O = [rowI (some ⟨z2, 0, none⟩) a.next.length 3 1 (ints (lnL a n t 0)), oI z1 25 (dC a k)] ∧ t ≤ a.next.length ∧ Heads [(0, (dV a k)), (1, (.pointer (some ⟨z1, 0, none⟩))), (2, (.slice none 0 0)), (3, (.slice (some ⟨z2, 0, none⟩) a.next.length a.next.length)), (4, .int .i64 ((s : Nat) : Int)), (5, .int .i64 ((n + 1 : Nat) : Int)), (6, .int .i64 ((t : Nat) : Int))] ρ) (fun t => a.next.length - t) 0 ?_ ?_
    · exact ⟨rfl, Nat.zero_le _, ⟨rfl, rfl, rfl, rfl, rfl, rfl, rfl, trivial⟩⟩
    rintro t ρ O ⟨rfl, ht, hH⟩
    obtain ⟨ρ0, rfl⟩ := hH.elim
    clear hH
    refine T.seq (T.seq (T.region ?_))
    refine TO.quiet (q_move rfl) (TO.quiet (q_move rfl) (TO.quiet (q_len Tryd.underlying41 rfl) (TO.quiet (q_lss rfl rfl) ?_)))
    refine TO.nil ?_
    refine T.condP rfl (fun hc => ?_) (fun hc => ?_)
    · have hlt38 : t < a.next.length := by omega
      obtain ⟨v1, c1, g1, s1⟩ := ha.rows.get hlt38
      have hl1 : a.next[t].length = letN a := hv.len _ (List.getElem_mem hlt38)
      refine T.skip (T.seq (T.block (T.seq (T.region ?_))))
      refine TO.quiet (q_assign rfl) ?_
      refine TO.nil (T.block ?_)
      refine T.loop (fun (x : Nat) ρ O => O = [rowI (some ⟨z2, 0, none⟩) a.next.length 3 1 (ints (lnL a n t x)), oI z1 25 (dC a k)] ∧ x ≤ letN a ∧ Heads [(0, (dV a k)), (1, (.pointer (some ⟨z1, 0, none⟩))), (2, (.slice none 0 0)), (3, (.slice (some ⟨z2, 0, none⟩) a.next.length a.next.length)), (4, .int .i64 ((s : Nat) : Int)), (5, .int .i64 ((n + 1 : Nat) : Int)), (6, .int .i64 ((t : Nat) : Int)), (7, .int .i64 ((x : Nat) : Int))] ρ) (fun x => letN a - x) 0 ?_ ?_
      · exact ⟨rfl, Nat.zero_le _, ⟨rfl, rfl, rfl, rfl, rfl, rfl, rfl, rfl, trivial⟩⟩
      rintro x ρ O ⟨rfl, hx, hH⟩
      obtain ⟨ρ0, rfl⟩ := hH.elim
      clear hH
      refine T.seq (T.seq (T.region ?_))
      refine TO.quiet (q_move rfl) (TO.quiet (q_fieldAddr Tryd.underlying25 rfl inf22 rfl rfl) (TO.quiet (q_load_box 1 Tryd.underlying22 rfl rfl rfl rfl) (TO.quiet (q_move rfl) ?_)))
      refine TO.quiet (q_ix (i := t) Tryd.underlying22 inf41 rfl rfl (Sl.o ha.outer) hlt38 (hvl ▸ hlt38)) (TO.quiet (q_ld Tryd.underlying41 rfl rfl (Sl.o ha.outer) g1) (TO.quiet (q_len Tryd.underlying41 rfl) (TO.quiet (q_lss rfl rfl) ?_)))
      refine TO.nil ?_
      refine T.condP rfl (fun hc => ?_) (fun hc => ?_)
      · have hlt48 : x < a.next[t].length := by omega
        have hxl : x < letN a := by omega
        obtain ⟨hto, _, hxk1, hx1⟩ := hv.toN_lt hlt38 hxl
        have hx1 : (ints a.next[t])[x]? = some (.int .i64 ((toN a t x : Nat) : Int)) := by rw [ints_get hxk1, hx1]
        have hbg := lnN_big a n (toN a t x)
        refine T.skip (T.seq (T.block (T.seq (T.region ?_))))
        refine TO.quiet (q_move rfl) (TO.quiet (q_move rfl) (TO.quiet (q_ix (i := t) Tryd.underlying41 inf3 rfl rfl (rowO (List.mem_of_getElem? (i := 0) rfl)) hlt38 (by rw [List.length_map, lnL_len]; omega)) (TO.quiet (q_ld Tryd.underlying3 rfl rfl (rowO (List.mem_of_getElem? (i := 0) rfl)) (lnL_at hlt38)) ?_)))
        refine TO.quiet (q_lss rfl rfl) ?_
        by_cases hneg : lnP a n t x < 0
        · refine TO.quiet (QT.toB (q_move rfl) (decide_eq_true hneg)) ?_
          refine TO.guarded rfl rfl rfl (LT.of_quiet rfl rfl (q_move rfl) ?_)
          refine TO.guarded rfl rfl rfl (LT.of_quiet rfl rfl (q_fieldAddr Tryd.underlying25 rfl inf22 rfl rfl) ?_)
          refine TO.guarded rfl rfl rfl (LT.of_quiet rfl rfl (q_load_box 1 Tryd.underlying22 rfl rfl rfl rfl) ?_)
          refine TO.guarded rfl rfl rfl (LT.of_quiet rfl rfl (q_move rfl) ?_)
          refine TO.guarded rfl rfl rfl (LT.of_quiet rfl rfl (q_ix (i := t) Tryd.underlying22 inf41 rfl rfl (Sl.o ha.outer) hlt38 (hvl ▸ hlt38)) ?_)
          refine TO.guarded rfl rfl rfl (LT.of_quiet rfl rfl (q_ld Tryd.underlying41 rfl rfl (Sl.o ha.outer) g1) ?_)
          refine TO.guarded rfl rfl rfl (LT.of_quiet rfl rfl (q_move rfl) ?_)
          refine TO.guarded rfl rfl rfl (LT.of_quiet rfl rfl (q_ix (i := x) Tryd.underlying41 inf3 rfl rfl (Sl.o s1) hxk1 (by rw [List.length_map]; exact hxk1)) ?_)
          refine TO.guarded rfl rfl rfl (LT.of_quiet rfl rfl (q_ld Tryd.underlying3 rfl rfl (Sl.o s1) hx1) ?_)
          refine TO.guarded rfl rfl rfl (LT.of_quiet rfl rfl (q_ix (i := (toN a t x)) Tryd.underlying41 inf3 rfl rfl (rowO (List.mem_of_getElem? (i := 0) rfl)) hto (by rw [List.length_map, lnL_len]; omega)) ?_)
          refine TO.guarded rfl rfl rfl (LT.of_quiet rfl rfl (q_ld Tryd.underlying3 rfl rfl (rowO (List.mem_of_getElem? (i := 0) rfl)) (lnL_get hto)) ?_)
          refine TO.guarded rfl rfl rfl (LT.of_quiet rfl rfl (q_move rfl) ?_)
          refine TO.guarded rfl rfl rfl (LT.of_quiet rfl rfl (QT.cast (q_sub64 rfl rfl (by omega)) (v' := .int .i64 ((n : Nat) : Int)) (congrArg (Value.int .i64) (by omega))) ?_)
          by_cases hhit : lnN a n (toN a t x) = (n : Int)
          · refine TO.guarded rfl rfl rfl (LT.of_quiet rfl rfl (QT.toB (QT.cast (q_eql rfl rfl) (v' := .bool (decide (lnN a n (toN a t x) = (n : Int)))) (congrArg Value.bool (decide_eq_decide.2 (lnL_to hneg)))) (decide_eq_true hhit)) ?_)
            refine TO.quiet (q_pick1 rfl rfl) ?_
            refine TO.nil ?_
            skip
            refine T.cond1 rfl ?_
            refine T.region ?_
            refine TO.quiet (q_move rfl) (TO.quiet (q_move rfl) (TO.quiet (q_move rfl) (TO.quiet (q_ix (i := t) Tryd.underlying41 inf3 rfl rfl (rowO (List.mem_of_getElem? (i := 0) rfl)) hlt38 (by rw [List.length_map, lnL_len]; omega)) ?_)))
            refine TO.loud rfl (l_st (j := t) (v := .int .i64 ((n + 1 : Nat) : Int)) (vs := [(.int .i64 ((n + 1 : Nat) : Int))]) (cs := ints (lnL a n t x)) 0 inf3 rfl rfl rfl rfl rfl (by simp) rfl (by rw [List.length_map, lnL_len]; simp; omega) ?_)
            refine TO.sub (O' := [rowI (some ⟨z2, 0, none⟩) a.next.length 3 1 (ints ((lnL a n t x).set t ((n + 1 : Nat) : Int))), oI z1 25 (dC a k)]) (by rw [show putL (ints (lnL a n t x)) t [(.int .i64 ((n + 1 : Nat) : Int))] = ints ((lnL a n t x).set t ((n + 1 : Nat) : Int)) from by simp [putL]]; exact Sub.of (List.Sublist.refl _)) ?_
            refine TO.nil (T.region ?_)
            refine TO.quiet (q_move rfl) (TO.quiet (q_addN (a := x) (b := 1) rfl rfl (by omega)) (TO.quiet (q_assign rfl) ?_))
            refine TO.nil ?_
            exact ⟨x + 1, by omega, by rw [← lnL_hit hlt38 hneg hhit], by omega, ⟨rfl, rfl, rfl, rfl, rfl, rfl, rfl, rfl, trivial⟩⟩
          refine TO.guarded rfl rfl rfl (LT.of_quiet rfl rfl (QT.toB (QT.cast (q_eql rfl rfl) (v' := .bool (decide (lnN a n (toN a t x) = (n : Int)))) (congrArg Value.bool (decide_eq_decide.2 (lnL_to hneg)))) (decide_eq_false hhit)) ?_)
          refine TO.quiet (q_pick1 rfl rfl) ?_
          refine TO.nil ?_
          have hmiss : ¬ (lnP a n t x < 0 ∧ lnN a n (toN a t x) = (n : Int)) := fun h9 => hhit h9.2
          refine T.cond0 rfl ?_
          refine T.skip (T.region ?_)
          refine TO.quiet (q_move rfl) (TO.quiet (q_addN (a := x) (b := 1) rfl rfl (by omega)) (TO.quiet (q_assign rfl) ?_))
          refine TO.nil ?_
          exact ⟨x + 1, by omega, by rw [lnL_miss hmiss], by omega, ⟨rfl, rfl, rfl, rfl, rfl, rfl, rfl, rfl, trivial⟩⟩
        refine TO.quiet (QT.toB (q_move rfl) (decide_eq_false hneg)) ?_
        refine TO.passed rfl rfl ?_
        refine TO.passed rfl rfl ?_
        refine TO.passed rfl rfl ?_
        refine TO.passed rfl rfl ?_
        refine TO.passed rfl rfl ?_
        refine TO.passed rfl rfl ?_
        refine TO.passed rfl rfl ?_
        refine TO.passed rfl rfl ?_
        refine TO.passed rfl rfl ?_
        refine TO.passed rfl rfl ?_
        refine TO.passed rfl rfl ?_
        refine TO.passed rfl rfl ?_
        refine TO.passed rfl rfl ?_
        refine TO.passed rfl rfl ?_
        refine TO.quiet (q_pick0 rfl rfl) ?_
        refine TO.nil ?_
        have hmiss : ¬ (lnP a n t x < 0 ∧ lnN a n (toN a t x) = (n : Int)) := fun h9 => hneg h9.1
        refine T.cond0 rfl ?_
        refine T.skip (T.region ?_)
        refine TO.quiet (q_move rfl) (TO.quiet (q_addN (a := x) (b := 1) rfl rfl (by omega)) (TO.quiet (q_assign rfl) ?_))
        refine TO.nil ?_
        exact ⟨x + 1, by omega, by rw [lnL_miss hmiss], by omega, ⟨rfl, rfl, rfl, rfl, rfl, rfl, rfl, rfl, trivial⟩⟩
      have hge48 : ¬ x < a.next[t].length := by omega
      have hxe : x = letN a := by omega
      refine T.exit ?_
      refine T.region ?_
      refine TO.quiet (q_move rfl) (TO.quiet (q_addN (a := t) (b := 1) rfl rfl (by omega)) (TO.quiet (q_assign rfl) ?_))
      refine TO.nil ?_
      exact ⟨t + 1, by omega, by rw [hxe, lnL_row], by omega, ⟨rfl, rfl, rfl, rfl, rfl, rfl, rfl, trivial⟩⟩
    have hge38 : ¬ t < a.next.length := by omega
    refine T.exit ?_
    refine T.region ?_
    refine TO.quiet (q_move rfl) (TO.quiet (q_addN (a := (n + 1)) (b := 1) rfl rfl (by omega)) (TO.quiet (q_assign rfl) ?_))
    refine TO.nil ?_
    exact ⟨n + 1, by omega, by rw [show t = a.next.length by omega, lnL_round], by omega, ⟨rfl, rfl, rfl, rfl, rfl, rfl, trivial⟩⟩
  have hge32 : ¬ n + 1 < a.next.length := by omega
  refine T.exit ?_
  refine T.seq (T.region ?_)
  refine TO.quiet (q_move rfl) (TO.quiet (q_assign rfl) ?_)
  refine TO.nil (T.ret (Res.drop ?_))
  refine Res.one (.slice (some ⟨z2, 0, none⟩) a.next.length a.next.length) Tryd.results51 rfl ?_
  have hne : n + 1 = a.next.length := by omega
  exact ⟨[rowI (some ⟨z2, 0, none⟩) a.next.length 3 1 (ints (lnL a n 0 0))], (by exact Sub.k .z), z2, rfl, by rw [lnL_end hne]⟩
set_option maxHeartbeats 8000000 in
set_option maxRecDepth 20000 in
theorem rShoN (w : World) [Tab Tryd.prog w] (a : DFA) (k : DK) (ha : At w a k) (hv : Valid a) :
    PureT Tryd.prog 26 [dV a k] w fun v N => ∃ res wb wc, LeastA a res ∧ v = .tuple #[.slice wb (res.getD []).length wc, .bool res.isSome, .int .i64 0] ∧ ((res ≠ none ∧ N = [rowI wb wc 5 1 (byts (res.getD []))]) ∨ (res = none ∧ N = [] ∧ wb = none ∧ wc = 0)) := by
  refine CallT.enter Tryd.func26 rfl Tryd.ntmps26 rfl ?_
  have he := checkD_zero.2 hv
  have h4 := hv.n4
  have hww : letN a ≤ 64 := hv.width
  have hvl := ha.rows.1
  have hs0 := hv.s0
  have hs1 : a.start = ((a.start.toNat : Nat) : Int) := (Int.toNat_of_nonneg hv.s0).symm
  have hsl := start_lt hv.toVal
  refine T.seq (T.region ?_)
  refine TO.loud rfl (l_box (v := (dV a k)) (cs := (dC a k)) rfl rfl (fun z1 => ?_))
  refine TO.quiet (q_assign rfl) (TO.quiet (q_assign rfl) (TO.quiet (q_assign rfl) ?_))
  refine TO.nil (T.seq (T.region ?_))
  refine TO.quiet (q_load_boxAgg 0 Tryd.underlying25 rfl inf25 rfl rfl rfl) ?_
  have hk11 := fun (w1 : World) (hI : Inv w [oI z1 25 (dC a k)] w1) => (haveI := Inv.tab (P := Tryd.prog) hI; (show PureT _ _ _ _ _ from by
      have h9 := refCheck w1 a k.nb k.fb k.nc k.fc (vals k.qs) (hI.dfa ha) (by omega) hv.bound (by have := hv.fin; omega)
      rw [he] at h9
      exact h9))
  refine TO.loud rfl (l_call ent24 (CallT.of_pure hk11) rfl ?_)
  clear hk11
  rintro vr O' ⟨N, rfl, rfl, rfl⟩
  refine TO.quiet (q_assign rfl) ?_
  refine TO.nil (T.seq (T.seq (T.region ?_)))
  refine TO.quiet (q_move rfl) (TO.quiet (QT.toB (q_neq rfl rfl) (decide_eq_false (fun h => h rfl))) ?_)
  refine TO.nil ?_
  refine T.cond0 rfl ?_
  refine T.skip (T.seq (T.region ?_))
  refine TO.quiet (q_load_boxAgg 0 Tryd.underlying25 rfl inf25 rfl rfl rfl) ?_
  have hk16 := fun (w1 : World) (hI : Inv w [oI z1 25 (dC a k)] w1) => (haveI := Inv.tab (P := Tryd.prog) hI; lengthsC w1 a k (hI.atB ha) hv)
  refine TO.loud rfl (l_call ent51 (CallT.of_pure hk16) rfl ?_)
  clear hk16
  rintro vr O' ⟨N, rfl, lb, rfl, rfl⟩
  refine TO.quiet (q_assign rfl) ?_
  refine TO.nil (T.seq (T.region ?_))
  refine TO.quiet (q_fieldAddr Tryd.underlying25 rfl inf3 rfl rfl) (TO.quiet (q_load_box 1 Tryd.underlying3 rfl rfl rfl rfl) (TO.quiet (q_assign rfl) ?_))
  refine TO.nil (T.seq (T.seq (T.region ?_)))
  refine TO.quiet (q_move rfl) (TO.quiet (q_move rfl) (TO.quiet (q_ixz (i := a.start) Tryd.underlying41 inf3 rfl rfl (rowO (List.mem_of_getElem? (i := 0) rfl)) hs0 hsl (by rw [List.length_map, lenL_len]; omega)) (TO.quiet (q_ld Tryd.underlying3 rfl rfl (rowO (List.mem_of_getElem? (i := 0) rfl)) (lenL_at hsl)) ?_)))
  refine TO.quiet (q_lss rfl rfl) ?_
  refine TO.nil ?_
  refine T.condP rfl (fun hc => ?_) (fun hc => ?_)
  · have hneg := hc
    refine T.seq (T.region ?_)
    refine TO.quiet (q_assign rfl) (TO.quiet (q_assign rfl) (TO.quiet (q_assign rfl) ?_))
    refine TO.nil (T.ret (Res.drop ?_))
    refine Res.three (.slice none 0 0) (.bool false) (.int .i64 0) Tryd.results26 rfl rfl rfl ?_
    exact ⟨[], Sub.z, none, none, 0, (by
      rcases lnD_neg hv.toVal hsl with h9 | h9
      · obtain ⟨k9, h9⟩ := h9; exact absurd hneg (by omega)
      · exact fun u9 hu9 => h9.2 u9 hu9), rfl, .inr ⟨rfl, rfl, rfl, rfl⟩⟩
  have hpos := hc
  refine T.skip (T.seq (T.region ?_))
  refine TO.quiet (q_assign rfl) ?_
  refine TO.nil (T.seq (T.block ?_))
  refine T.nilRow 5 1 ?_
  refine T.sub (O' := [rowI none 0 5 1 (byts []), rowI (some ⟨lb, 0, none⟩) a.next.length 3 1 (ints (lenL a)), oI z1 25 (dC a k)]) (by exact Sub.rf) ?_
  obtain ⟨K, hK⟩ : ∃ K : Nat, lnD a a.start.toNat = (K : Int) := by
    rcases lnD_neg hv.toVal hsl with h9 | h9
    · exact h9
    · exact absurd h9.1 (by omega)
  have hD0 := (lnD_iff hv.toVal hsl).1 hK
  have hKn := Ds.lt hv.toVal hsl hD0
  refine T.loopS (fun (u : List Nat) ρ O => ∃ (s9 : Nat) (wb : Option Addr) (wc : Nat), O = [rowI wb wc 5 1 (byts u), rowI (some ⟨lb, 0, none⟩) a.next.length 3 1 (ints (lenL a)), oI z1 25 (dC a k)] ∧ GI a K u s9 ∧ Heads [(0, (dV a k)), (1, (.pointer (some ⟨z1, 0, none⟩))), (2, (.slice none 0 0)), (3, .bool false), (4, .int .i64 0), (5, .int .i64 0), (6, (.slice (some ⟨lb, 0, none⟩) a.next.length a.next.length)), (7, .int .i64 ((s9 : Nat) : Int)), (8, (.slice wb u.length wc))] ρ) (fun u => K - u.length) [] ?_ ?_
  · exact ⟨a.start.toNat, none, 0, rfl, GI.zero hD0, ⟨rfl, rfl, rfl, rfl, rfl, rfl, rfl, (congrArg (Value.int .i64) hs1), rfl, trivial⟩⟩
  rintro u ρ O ⟨s9, wb, wc, rfl, hg, hH⟩
  obtain ⟨ρ0, rfl⟩ := hH.elim
  clear hH
  have hul := hg.len
  have hs9 : s9 < a.next.length := by rw [← hg.run]; exact runN_lt hv.toVal hsl u hg.wd
  have hln : lnD a s9 = ((K - u.length : Nat) : Int) := (lnD_iff hv.toVal hs9).2 hg.dist
  refine T.seq (T.seq (T.region ?_))
  refine TO.quiet (q_move rfl) (TO.quiet (q_move rfl) (TO.quiet (q_ix (i := s9) Tryd.underlying41 inf3 rfl rfl (rowO (List.mem_of_getElem? (i := 1) rfl)) hs9 (by rw [List.length_map, lenL_len]; omega)) (TO.quiet (q_ld Tryd.underlying3 rfl rfl (rowO (List.mem_of_getElem? (i := 1) rfl)) (by rw [lenL_at hs9, hln])) ?_)))
  refine TO.quiet (q_gtr rfl rfl) ?_
  refine TO.nil ?_
  refine T.condP rfl (fun hc => ?_) (fun hc => ?_)
  · have hlt28 : K - u.length > 0 := by omega
    refine T.skip (T.block (T.seq (T.region ?_)))
    refine TO.quiet (q_assign rfl) ?_
    refine TO.nil (T.seq (T.block ?_))
    obtain ⟨x0, hx0, hD9⟩ := hg.next (show u.length < K by omega)
    obtain ⟨v1, c1, g1, s1⟩ := ha.rows.get hs9
    have hl1 : a.next[s9].length = letN a := hv.len _ (List.getElem_mem hs9)
    refine T.loop (fun (x : Nat) ρ O => O = [rowI wb wc 5 1 (byts u), rowI (some ⟨lb, 0, none⟩) a.next.length 3 1 (ints (lenL a)), oI z1 25 (dC a k)] ∧ x ≤ x0 ∧ (∀ y, y < x → ¬ Ds a (toN a s9 y) (K - u.length - 1)) ∧ Heads [(0, (dV a k)), (1, (.pointer (some ⟨z1, 0, none⟩))), (2, (.slice none 0 0)), (3, .bool false), (4, .int .i64 0), (5, .int .i64 0), (6, (.slice (some ⟨lb, 0, none⟩) a.next.length a.next.length)), (7, .int .i64 ((s9 : Nat) : Int)), (8, (.slice wb u.length wc)), (9, .int .i64 ((x : Nat) : Int))] ρ) (fun x => x0 - x) 0 ?_ ?_
    · exact ⟨rfl, Nat.zero_le _, fun y hy => absurd hy (by omega), ⟨rfl, rfl, rfl, rfl, rfl, rfl, rfl, rfl, rfl, rfl, trivial⟩⟩
    rintro x ρ O ⟨rfl, hx, hyy, hH⟩
    obtain ⟨ρ0, rfl⟩ := hH.elim
    clear hH
    have hxl : x < letN a := by omega
    obtain ⟨hto, _, hxk1, hx1⟩ := hv.toN_lt hs9 hxl
    have hx1 : (ints a.next[s9])[x]? = some (.int .i64 ((toN a s9 x : Nat) : Int)) := by rw [ints_get hxk1, hx1]
    refine T.seq (T.seq ?_)
    refine T.draws _ [(0, 0), (1, 0), (2, 0), (3, 0), (4, 0), (5, 0), (6, 0), (7, 0), (8, 0), (9, 0), (10, 0), (11, 0), (12, 0), (13, 0), (14, 0), (15, 0), (16, 0)] mixed (drawF_ok (by kernel_rfl)) (Sub.of (List.Sublist.refl _)) (fun _ _ _ h => h) ?_
    refine DO.quiet rfl (q_move rfl) (DO.quiet rfl (q_fieldAddr Tryd.underlying25 rfl inf22 rfl rfl) (DO.quiet rfl (q_load_box 2 Tryd.underlying22 rfl rfl rfl rfl) (DO.quiet rfl (q_move rfl) ?_)))
    refine DO.quiet rfl (q_ix (i := s9) Tryd.underlying22 inf41 rfl rfl (Sl.o ha.outer) hs9 (hvl ▸ hs9)) (DO.quiet rfl (q_ld Tryd.underlying41 rfl rfl (Sl.o ha.outer) g1) (DO.quiet rfl (q_move rfl) (DO.quiet rfl (q_ix (i := x) Tryd.underlying41 inf3 rfl rfl (Sl.o s1) hxk1 (by rw [List.length_map]; exact hxk1)) ?_)))
    refine DO.quiet rfl (q_ld Tryd.underlying3 rfl rfl (Sl.o s1) hx1) (DO.quiet rfl (q_ix (i := (toN a s9 x)) Tryd.underlying41 inf3 rfl rfl (rowO (List.mem_of_getElem? (i := 1) rfl)) hto (by rw [List.length_map, lenL_len]; omega)) (DO.quiet rfl (q_ld Tryd.underlying3 rfl rfl (rowO (List.mem_of_getElem? (i := 1) rfl)) (lenL_at hto)) (DO.quiet rfl (q_move rfl) ?_)))
    refine DO.quiet rfl (q_move rfl) (DO.quiet rfl (q_ix (i := s9) Tryd.underlying41 inf3 rfl rfl (rowO (List.mem_of_getElem? (i := 1) rfl)) hs9 (by rw [List.length_map, lenL_len]; omega)) (DO.quiet rfl (q_ld Tryd.underlying3 rfl rfl (rowO (List.mem_of_getElem? (i := 1) rfl)) (by rw [lenL_at hs9, hln])) (DO.quiet rfl (q_subN (a := (K - u.length)) (b := 1) rfl rfl (by omega) (by omega)) ?_)))
    refine DO.quiet rfl (q_neq rfl rfl) ?_
    refine DO.done ?_
    refine T.condP rfl (fun hc => ?_) (fun hc => ?_)
    · have hc9 := hc
      refine T.skip (T.block (T.region ?_))
      refine TO.quiet (q_move rfl) (TO.quiet (q_addN (a := x) (b := 1) rfl rfl (by omega)) (TO.quiet (q_assign rfl) ?_))
      refine TO.nil ?_
      have hxn : ¬ Ds a (toN a s9 x) (K - u.length - 1) := fun h9 => hc9 ((lnD_iff hv.toVal hto).2 h9)
      have hxx : x ≠ x0 := fun e9 => hxn (e9 ▸ hD9)
      exact ⟨x + 1, by omega, rfl, by omega, fun y hy => (by
        by_cases e9 : y = x
        · rw [e9]; exact hxn
        · exact hyy y (by omega)), ⟨rfl, rfl, rfl, rfl, rfl, rfl, rfl, rfl, rfl, rfl, trivial⟩⟩
    have hc9 := hc
    refine T.exit ?_
    refine T.seq (T.region ?_)
    refine TO.quiet (q_move rfl) (TO.quiet (q_move rfl) (TO.quiet (q_conv_id Tryd.underlying3 Tryd.underlying5 rfl (by first | rfl | exact wrap64_id ⟨by omega, by omega⟩ | exact wrap8 (by omega) | exact wrapU64 (by omega))) ?_))
    refine TO.loud rfl (l_build1 (v := .int .u8 ((x : Nat) : Int)) Tryd.underlying29 inf5 rfl rfl rfl (fun z2 => ?_))
    refine TO.loud rfl (l_append 1 Tryd.underlying29 Tryd.underlying29 inf5 rfl rfl rfl rfl (by simp) (by decide) (Src.row (j := 0) rfl (by simp)) (by simp [oneB]) (by omega) (by decide) (by decide) (fun z3 zc4 => ?_))
    refine TO.quiet (q_assign rfl) ?_
    refine TO.nil (T.region ?_)
    refine TO.quiet (q_fieldAddr Tryd.underlying25 rfl inf22 rfl rfl) (TO.quiet (q_load_box 3 Tryd.underlying22 rfl rfl rfl rfl) (TO.quiet (q_move rfl) (TO.quiet (q_ix (i := s9) Tryd.underlying22 inf41 rfl rfl (Sl.o ha.outer) hs9 (hvl ▸ hs9)) ?_)))
    refine TO.quiet (q_ld Tryd.underlying41 rfl rfl (Sl.o ha.outer) g1) (TO.quiet (q_move rfl) (TO.quiet (q_ix (i := x) Tryd.underlying41 inf3 rfl rfl (Sl.o s1) hxk1 (by rw [List.length_map]; exact hxk1)) (TO.quiet (q_ld Tryd.underlying3 rfl rfl (Sl.o s1) hx1) ?_)))
    refine TO.quiet (q_assign rfl) ?_
    refine TO.nil ?_
    have hst : byts (u ++ [x]) = byts u ++ [.int .u8 ((x : Nat) : Int)] := List.map_append
    have hDx := (lnD_iff hv.toVal hto).1 (Classical.not_not.1 hc9)
    exact ⟨u ++ [x], by rw [List.length_append]; simp; omega, [rowI z3 zc4 5 1 ((byts u) ++ [.int .u8 ((x : Nat) : Int)]), rowI (some ⟨lb, 0, none⟩) a.next.length 3 1 (ints (lenL a)), oI z1 25 (dC a k)], (by exact Sub.d (.k (.k (.k .z)))), toN a s9 x, z3, zc4, by rw [hst], hg.step hv.toVal (by omega) hxl hDx (fun y hy => hyy y hy), ⟨rfl, rfl, rfl, rfl, rfl, rfl, rfl, rfl, (congrArg (fun n9 => Value.slice _ n9 _) (by simp : u.length + 1 = (u ++ [x]).length)), trivial⟩⟩
  have hge28 : ¬ K - u.length > 0 := by omega
  refine T.exit ?_
  refine T.seq (T.region ?_)
  refine TO.quiet (q_move rfl) (TO.quiet (q_assign rfl) (TO.quiet (q_assign rfl) (TO.quiet (q_assign rfl) ?_)))
  refine TO.nil (T.ret (Res.drop ?_))
  refine Res.three (.slice wb u.length wc) (.bool true) (.int .i64 0) Tryd.results26 rfl rfl rfl ?_
  have hKe : u.length = K := by omega
  subst hKe
  exact ⟨[rowI wb wc 5 1 (byts u)], (by exact Sub.k .z), some u, wb, wc, GI.least hv.toVal hg hD0, rfl, .inl ⟨by simp, rfl⟩⟩
theorem rShoK (w : World) [Tab Tryd.prog w] (a : DFA) (k : DK) (ha : At w a k) (hv : Valid a) :
    PureT Tryd.prog 26 [dV a k] w fun v N => ∃ res wb wc, LeastA a res ∧ v = .tuple #[.slice wb (res.getD []).length wc, .bool res.isSome, .int .i64 0] ∧ N = [rowI wb wc 5 1 (byts (res.getD []))] := by
  refine (CallT.nilOr 5 1 (rShoN w a k ha hv)).mono ?_
  rintro v N ⟨O2, hN, res, wb, wc, hL, hV, h⟩
  rcases h with ⟨hr, rfl⟩ | ⟨rfl, rfl, rfl, rfl⟩
  · exact ⟨res, wb, wc, hL, hV, hN.1 (by simp)⟩
  · exact ⟨none, none, 0, hL, hV, hN.2 rfl⟩
end Go.Proofs.YtnmfefmhfkhihaaDoor

