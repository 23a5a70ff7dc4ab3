/- Contracts of functions of the program (Lv, BDel, BChk, BChk2, BScc, BComp): what each call answers and that it leaves memory as it was. Conditions: those each theorem names. -/
import Derived.Test.YtnamoapbienooaaTarL
set_option linter.unusedSectionVars false
set_option linter.unusedSimpArgs false
set_option linter.unusedVariables false
set_option linter.unnecessarySimpa false
namespace Go.Lx
open Go.RowKit
set_option linter.unusedVariables false
def mkM (nx : List (List Int)) (ms : List Nat) (k v : Nat) : Prop := v < nx.length ∧ (ms.getD v 0).testBit k = true
def okRows (nx : List (List Int)) : Prop := ∀ r ∈ nx, ∀ x ∈ r, 0 ≤ x ∧ x < (nx.length : Int)
theorem adjE_lt {nx : List (List Int)} (h : okRows nx) {u v : Nat} (he : adjE nx u v) : u < nx.length ∧ v < nx.length := by
  obtain ⟨r, h1, h2⟩ := he
  obtain ⟨hl, e⟩ := List.getElem?_eq_some_iff.1 h1
  have := h r (by rw [← e]; exact List.getElem_mem hl) _ h2
  exact ⟨hl, by omega⟩
section
variable {nx : List (List Int)} {ms : List Nat} {m cnt : Nat} {cn : List Nat}
abbrev CompN (nx : List (List Int)) (cn : List Nat) (cnt : Nat) : Prop := CompOk nx.length (adjE nx) (fun v => ((fn cn v : Nat) : Int)) cnt
def seen (nx : List (List Int)) (k j v u : Nat) : Prop := (v < k ∧ adjE nx v u) ∨ (v = k ∧ (u : Int) ∈ (nx.getD k []).take j)
structure CyP (nx : List (List Int)) (cn : List Nat) (cnt k j : Nat) (cy : List Bool) : Prop where
  l : cy.length = cnt
  h : ∀ c, cy.getD c false = true ↔ ∃ v u, seen nx k j v u ∧ fn cn v = c ∧ fn cn u = c
theorem CyP.start : CyP nx cn cnt 0 0 (List.replicate cnt false) := by
  refine ⟨by simp, fun c => ⟨fun h => ?_, ?_⟩⟩
  · rw [List.getD_eq_getElem?_getD, List.getElem?_replicate] at h
    split at h <;> simp at h
  · rintro ⟨v, u, h, _⟩
    rcases h with h | h
    · omega
    · simp at h
theorem seen_row {k v u : Nat} (hk : k < nx.length) : seen nx k nx[k].length v u ↔ seen nx (k + 1) 0 v u := by
  unfold seen
  have hd : nx.getD k [] = nx[k] := getD_at hk
  rw [hd, List.take_of_length_le (Nat.le_refl _)]
  constructor
  · rintro (h | ⟨rfl, h⟩)
    · exact .inl ⟨by omega, h.2⟩
    · exact .inl ⟨by omega, adjE_of hk h⟩
  · rintro (h | h)
    · by_cases e : v = k
      · subst e
        obtain ⟨r, h1, h2⟩ := h.2
        rw [List.getElem?_eq_getElem hk] at h1
        cases h1
        exact .inr ⟨rfl, h2⟩
      · exact .inl ⟨by omega, h.2⟩
    · simp at h
theorem seen_snoc {k j v u : Nat} (hk : k < nx.length) (hj : j < nx[k].length) {x : Nat} (hx : nx[k][j] = (x : Int)) : seen nx k (j + 1) v u ↔ seen nx k j v u ∨ (v = k ∧ u = x) := by
  unfold seen
  have hd : nx.getD k [] = nx[k] := getD_at hk
  rw [hd, List.take_succ_eq_append_getElem hj, List.mem_append, List.mem_singleton, hx]
  constructor
  · rintro (h | ⟨h1, h2 | h2⟩)
    · exact .inl (.inl h)
    · exact .inl (.inr ⟨h1, h2⟩)
    · exact .inr ⟨h1, by omega⟩
  · rintro ((h | h) | h)
    · exact .inl h
    · exact .inr ⟨h.1, .inl h.2⟩
    · exact .inr ⟨h.1, .inr (by omega)⟩
theorem CyP.row {cy : List Bool} {k j : Nat} (h : CyP nx cn cnt k j cy) (hk : k < nx.length) (hj : ¬ j < nx[k].length) (hj2 : j ≤ nx[k].length) : CyP nx cn cnt (k + 1) 0 cy := by
  have : j = nx[k].length := by omega
  subst this
  exact ⟨h.l, fun c => by rw [h.h]; simp only [seen_row hk]⟩
theorem CyP.step {cy : List Bool} {k j x : Nat} (h : CyP nx cn cnt k j cy) (hk : k < nx.length) (hj : j < nx[k].length) (hx : nx[k][j] = (x : Int)) (hc : fn cn k < cnt) {b : Bool} (hb : b = true ↔ cy.getD (fn cn k) false = true ∨ fn cn x = fn cn k) : CyP nx cn cnt k (j + 1) (cy.set (fn cn k) b) := by
  refine ⟨by simp [h.l], fun c => ?_⟩
  have hs := fb_set (a := b) (l := cy) (v := fn cn k) (by rw [h.l]; exact hc) c
  rw [show (cy.set (fn cn k) b).getD c false = fb (cy.set (fn cn k) b) c from rfl, hs]
  simp only [seen_snoc hk hj hx]
  by_cases e : c = fn cn k
  · subst e
    rw [if_pos rfl, hb, h.h]
    constructor
    · rintro (⟨v, u, h1, h2, h3⟩ | h1)
      · exact ⟨v, u, .inl h1, h2, h3⟩
      · exact ⟨k, x, .inr ⟨rfl, rfl⟩, rfl, h1⟩
    · rintro ⟨v, u, h1 | ⟨rfl, rfl⟩, h2, h3⟩
      · exact .inl ⟨v, u, h1, h2, h3⟩
      · exact .inr h3
  · rw [if_neg e, show fb cy c = cy.getD c false from rfl, h.h]
    constructor
    · rintro ⟨v, u, h1, h2, h3⟩
      exact ⟨v, u, .inl h1, h2, h3⟩
    · rintro ⟨v, u, h1 | ⟨rfl, rfl⟩, h2, h3⟩
      · exact ⟨v, u, h1, h2, h3⟩
      · exact absurd h2.symm e
structure HaP (nx : List (List Int)) (ms cn : List Nat) (m cnt k : Nat) (ha : List Nat) : Prop where
  l : ha.length = cnt
  b : ∀ c, ha.getD c 0 < 2 ^ m
  h : ∀ c i, (ha.getD c 0).testBit i = true ↔ ∃ v, v < k ∧ fn cn v = c ∧ (ms.getD v 0).testBit i = true
theorem HaP.start : HaP nx ms cn m cnt 0 (List.replicate cnt 0) := by
  have h0 : ∀ c, (List.replicate cnt 0).getD c 0 = 0 := fun c => by
    rw [List.getD_eq_getElem?_getD, List.getElem?_replicate]; split <;> rfl
  refine ⟨by simp, fun c => by rw [h0]; exact Nat.two_pow_pos m, fun c i => ⟨fun h => ?_, ?_⟩⟩
  · rw [h0] at h; simp at h
  · rintro ⟨v, h, _⟩; omega
theorem HaP.step {ha : List Nat} {k : Nat} (h : HaP nx ms cn m cnt k ha) (hc : fn cn k < cnt) (hm : ms.getD k 0 < 2 ^ m) {a : Nat} (hab : a = ha.getD (fn cn k) 0 ||| ms.getD k 0) : HaP nx ms cn m cnt (k + 1) (ha.set (fn cn k) a) := by
  have hs := fun c => fn_set (a := a) (l := ha) (v := fn cn k) (by rw [h.l]; exact hc) c
  have hs' : ∀ c, (ha.set (fn cn k) a).getD c 0 = if c = fn cn k then a else ha.getD c 0 := hs
  refine ⟨by simp [h.l], fun c => ?_, fun c i => ?_⟩
  · rw [hs']; split
    · subst hab; exact Nat.or_lt_two_pow (h.b _) hm
    · exact h.b c
  · rw [hs']
    by_cases e : c = fn cn k
    · subst e
      rw [if_pos rfl, hab, Nat.testBit_or, Bool.or_eq_true, h.h]
      constructor
      · rintro (⟨v, h1, h2, h3⟩ | h1)
        · exact ⟨v, by omega, h2, h3⟩
        · exact ⟨k, by omega, rfl, h1⟩
      · rintro ⟨v, h1, h2, h3⟩
        by_cases e : v = k
        · subst e; exact .inr h3
        · exact .inl ⟨v, by omega, h2, h3⟩
    · rw [if_neg e, h.h]
      constructor
      · rintro ⟨v, h1, h2, h3⟩; exact ⟨v, by omega, h2, h3⟩
      · rintro ⟨v, h1, h2, h3⟩
        by_cases e' : v = k
        · subst e'; exact absurd h2.symm e
        · exact ⟨v, by omega, h2, h3⟩
theorem full_iff {a m : Nat} (h : a < 2 ^ m) : a = 2 ^ m - 1 ↔ ∀ i, i < m → a.testBit i = true := by
  constructor
  · rintro rfl i hi; rw [Nat.testBit_two_pow_sub_one]; simpa using hi
  · intro hb
    apply Nat.eq_of_testBit_eq
    intro i
    rw [Nat.testBit_two_pow_sub_one]
    by_cases hi : i < m
    · rw [hb i hi]; simp [hi]
    · rw [Nat.testBit_lt_two_pow (Nat.lt_of_lt_of_le h (Nat.pow_le_pow_right (by omega) (by omega)))]; simp [hi]
theorem core_iff (hC : CompN nx cn cnt) (hok : okRows nx) {cy : List Bool} {ha : List Nat} (hy : CyP nx cn cnt nx.length 0 cy) (hh : HaP nx ms cn m cnt nx.length ha) {v c : Nat} (hv : v < nx.length) (hc : fn cn v = c) :
    (cy.getD c false = true ∧ ha.getD c 0 = 2 ^ m - 1) ↔ Core (adjE nx) m (mkM nx ms) v := by
  rw [core_comp hC (fun u v h => adjE_lt hok h) (fun k v h => h.1) hv, hy.h, full_iff (hh.b c)]
  constructor
  · rintro ⟨⟨a, b, h1, h2, h3⟩, h4⟩
    refine ⟨⟨a, b, ?_, by show ((fn cn a : Nat) : Int) = fn cn v; omega, by show ((fn cn b : Nat) : Int) = fn cn v; omega⟩, fun k hk => ?_⟩
    · rcases h1 with h1 | ⟨rfl, h1⟩
      · exact h1.2
      · simp at h1
    · obtain ⟨u, h5, h6, h7⟩ := (hh.h c k).1 (h4 k hk)
      exact ⟨u, ⟨h5, h7⟩, by show ((fn cn u : Nat) : Int) = fn cn v; omega⟩
  · rintro ⟨⟨a, b, h1, h2, h3⟩, h4⟩
    refine ⟨⟨a, b, .inl ⟨(adjE_lt hok h1).1, h1⟩, by have : ((fn cn a : Nat) : Int) = fn cn v := h2; omega, by have : ((fn cn b : Nat) : Int) = fn cn v := h3; omega⟩, fun k hk => ?_⟩
    obtain ⟨u, h5, h6⟩ := h4 k hk
    exact (hh.h c k).2 ⟨u, h5.1, by have : ((fn cn u : Nat) : Int) = fn cn v := h6; omega, h5.2⟩
structure OrP (nx : List (List Int)) (cn : List Nat) (cnt k : Nat) (os : List (List Int)) : Prop where
  l : os.length = cnt
  n : ∀ c, (os.getD c []).length ≤ k
  h : ∀ c x, c < cnt → (x ∈ os.getD c [] ↔ ∃ v : Nat, x = (v : Int) ∧ v < k ∧ fn cn v = c)
theorem OrP.start : OrP nx cn cnt 0 (List.replicate cnt []) := by
  have h0 : ∀ c, (List.replicate cnt ([] : List Int)).getD c [] = [] := fun c => by
    rw [List.getD_eq_getElem?_getD, List.getElem?_replicate]; split <;> rfl
  refine ⟨by simp, fun c => by rw [h0]; exact Nat.le_refl _, fun c x hc => ?_⟩
  rw [h0]
  constructor
  · intro h; cases h
  · rintro ⟨v, _, h, _⟩; omega
theorem OrP.step {os : List (List Int)} {k : Nat} (h : OrP nx cn cnt k os) (hc : fn cn k < cnt) : OrP nx cn cnt (k + 1) (os.set (fn cn k) (os.getD (fn cn k) [] ++ [(k : Int)])) := by
  have hs : ∀ c, (os.set (fn cn k) (os.getD (fn cn k) [] ++ [(k : Int)])).getD c [] = if c = fn cn k then os.getD (fn cn k) [] ++ [(k : Int)] else os.getD c [] := fun c => by
    rw [List.getD_eq_getElem?_getD, List.getElem?_set]
    by_cases e : fn cn k = c
    · subst e; rw [if_pos rfl, if_pos (by rw [h.l]; exact hc), if_pos rfl]; rfl
    · rw [if_neg e, if_neg (fun h => e h.symm)]; simp
  refine ⟨by simp [h.l], fun c => ?_, fun c x hcc => ?_⟩
  · rw [hs]; split
    · have := h.n (fn cn k); simp; exact this
    · have := h.n c; omega
  · rw [hs]
    by_cases e : c = fn cn k
    · subst e
      rw [if_pos rfl, List.mem_append, List.mem_singleton, h.h _ _ hc]
      constructor
      · rintro (⟨v, h1, h2, h3⟩ | rfl)
        · exact ⟨v, h1, by omega, h3⟩
        · exact ⟨k, rfl, by omega, rfl⟩
      · rintro ⟨v, h1, h2, h3⟩
        by_cases e : v = k
        · subst e; exact .inr h1
        · exact .inl ⟨v, h1, by omega, h3⟩
    · rw [if_neg e, h.h c x hcc]
      constructor
      · rintro ⟨v, h1, h2, h3⟩; exact ⟨v, h1, by omega, h3⟩
      · rintro ⟨v, h1, h2, h3⟩
        by_cases e' : v = k
        · subst e'; exact absurd h3.symm e
        · exact ⟨v, h1, by omega, h3⟩
def Cor (nx : List (List Int)) (ms : List Nat) (m v : Nat) : Prop := Core (adjE nx) m (mkM nx ms) v
def Liv (nx : List (List Int)) (ms : List Nat) (m v : Nat) : Prop := LiveG (adjE nx) m (mkM nx ms) v
theorem Liv.edge {u v : Nat} (h : Liv nx ms m u) (he : adjE nx v u) : Liv nx ms m v := LiveG.back h (.one he)
theorem Liv.same (hC : CompN nx cn cnt) {u v : Nat} (h : Liv nx ms m u) (hv : v < nx.length) (hu : u < nx.length) (e : fn cn v = fn cn u) : Liv nx ms m v := LiveG.back h (hC.cls v u hv hu (by show ((fn cn v : Nat) : Int) = fn cn u; omega))
theorem Cor.live {v : Nat} (h : Cor nx ms m v) : Liv nx ms m v := ⟨v, .refl _, h⟩
structure LvP (nx : List (List Int)) (ms : List Nat) (m : Nat) (cn : List Nat) (cnt c : Nat) (gs ls cs : List Bool) : Prop where
  lg : gs.length = cnt
  ll : ls.length = nx.length
  lc : cs.length = nx.length
  g : ∀ v, v < nx.length → fn cn v < c → (gs.getD (fn cn v) false = true ↔ Liv nx ms m v)
  li : ∀ v, v < nx.length → fn cn v < c → (ls.getD v false = true ↔ Liv nx ms m v)
  co : ∀ v, v < nx.length → fn cn v < c → (cs.getD v false = true ↔ Cor nx ms m v)
structure LvC (nx : List (List Int)) (ms : List Nat) (m : Nat) (cn : List Nat) (cnt c : Nat) (row : List Int) (j : Nat) (gs ls cs : List Bool) : Prop where
  lg : gs.length = cnt
  ll : ls.length = nx.length
  lc : cs.length = nx.length
  g : ∀ v, v < nx.length → fn cn v < c → (gs.getD (fn cn v) false = true ↔ Liv nx ms m v)
  li : ∀ v, v < nx.length → fn cn v < c → (ls.getD v false = true ↔ Liv nx ms m v)
  co : ∀ v, v < nx.length → (fn cn v < c ∨ (v : Int) ∈ row.take j) → (cs.getD v false = true ↔ Cor nx ms m v)
  b0 : ∀ v, v < nx.length → fn cn v = c → (gs.getD c false = true ↔ Cor nx ms m v)
theorem getB_set {l : List Bool} {v : Nat} {a : Bool} (h : v < l.length) (x : Nat) : (l.set v a).getD x false = if x = v then a else l.getD x false := fb_set h x
theorem LvP.begin {c : Nat} {gs ls cs : List Bool} (h : LvP nx ms m cn cnt c gs ls cs) (hc : c < cnt) {row : List Int} {b : Bool} (hb : ∀ v, v < nx.length → fn cn v = c → (b = true ↔ Cor nx ms m v)) : LvC nx ms m cn cnt c row 0 (gs.set c b) ls cs := by
  have hs := fun x => getB_set (a := b) (l := gs) (v := c) (by rw [h.lg]; exact hc) x
  refine ⟨by simp [h.lg], h.ll, h.lc, fun v hv hlt => ?_, h.li, fun v hv hor => ?_, fun v hv e => ?_⟩
  · rw [hs, if_neg (by omega)]; exact h.g v hv hlt
  · rcases hor with hor | hor
    · exact h.co v hv hor
    · simp at hor
  · rw [hs, if_pos rfl]; exact hb v hv e
theorem LvC.coreStep {c j : Nat} {gs ls cs : List Bool} {row : List Int} (h : LvC nx ms m cn cnt c row j gs ls cs) (hj : j < row.length) {x : Nat} (hx : row[j] = (x : Int)) (hxl : x < nx.length) (hxc : fn cn x = c) {b : Bool} (hb : b = gs.getD c false) : LvC nx ms m cn cnt c row (j + 1) gs ls (cs.set x b) := by
  have hs := fun y => getB_set (a := b) (l := cs) (v := x) (by rw [h.lc]; exact hxl) y
  refine ⟨h.lg, h.ll, by simp [h.lc], h.g, h.li, fun v hv hor => ?_, h.b0⟩
  rw [hs]
  by_cases e : v = x
  · subst e; rw [if_pos rfl, hb]; exact h.b0 v hxl hxc
  · rw [if_neg e]
    refine h.co v hv ?_
    rcases hor with hor | hor
    · exact .inl hor
    · rw [List.take_succ_eq_append_getElem hj, List.mem_append, List.mem_singleton, hx] at hor
      rcases hor with hor | hor
      · exact .inr hor
      · exact absurd (by omega) e
structure LvD (nx : List (List Int)) (ms : List Nat) (m : Nat) (cn : List Nat) (cnt c : Nat) (row : List Int) (j i : Nat) (gs ls cs : List Bool) : Prop where
  lg : gs.length = cnt
  ll : ls.length = nx.length
  lc : cs.length = nx.length
  g : ∀ v, v < nx.length → fn cn v < c → (gs.getD (fn cn v) false = true ↔ Liv nx ms m v)
  li : ∀ v, v < nx.length → fn cn v < c → (ls.getD v false = true ↔ Liv nx ms m v)
  co : ∀ v, v < nx.length → fn cn v ≤ c → (cs.getD v false = true ↔ Cor nx ms m v)
  b0 : ∀ v, v < nx.length → fn cn v = c → Cor nx ms m v → gs.getD c false = true
  sd : gs.getD c false = true → ∀ v, v < nx.length → fn cn v = c → Liv nx ms m v
  pr : ∀ v u : Nat, (((v : Int) ∈ row.take j ∧ adjE nx v u) ∨ (row[j]? = some (v : Int) ∧ (u : Int) ∈ (nx.getD v []).take i)) → fn cn u < c → Liv nx ms m u → gs.getD c false = true
theorem LvC.toD {c j : Nat} {gs ls cs : List Bool} {row : List Int} (h : LvC nx ms m cn cnt c row j gs ls cs) (hj : ¬ j < row.length) (hrow : ∀ v : Nat, v < nx.length → fn cn v = c → (v : Int) ∈ row) : LvD nx ms m cn cnt c row 0 0 gs ls cs := by
  refine ⟨h.lg, h.ll, h.lc, h.g, h.li, fun v hv hle => ?_, fun v hv e hc => (h.b0 v hv e).2 hc, fun hg v hv e => Cor.live ((h.b0 v hv e).1 hg), fun v u hor => ?_⟩
  · refine h.co v hv ?_
    by_cases e : fn cn v = c
    · right; rw [List.take_of_length_le (by omega)]; exact hrow v hv e
    · left; omega
  · rcases hor with hor | hor
    · simp at hor
    · simp at hor
theorem LvD.step {c j i : Nat} {gs ls cs : List Bool} {row : List Int} (hC : CompN nx cn cnt) (hok : okRows nx) (h : LvD nx ms m cn cnt c row j i gs ls cs) (hc : c < cnt) (hj : j < row.length) {x u : Nat} (hx : row[j] = (x : Int)) (hxl : x < nx.length) (hxc : fn cn x = c) (hi : i < nx[x].length) (hu : nx[x][i] = (u : Int)) {b : Bool} (hb : b = true ↔ gs.getD c false = true ∨ gs.getD (fn cn u) false = true) :
    LvD nx ms m cn cnt c row j (i + 1) (gs.set c b) ls cs := by
  have hs := fun y => getB_set (a := b) (l := gs) (v := c) (by rw [h.lg]; exact hc) y
  have hE : adjE nx x u := adjE_of hxl (by rw [← hu]; exact List.getElem_mem hi)
  have hul := (adjE_lt hok hE).2
  have hle : fn cn u ≤ c := by
    have := hC.clo x u hxl hE
    have : ((fn cn u : Nat) : Int) ≤ fn cn x := this
    omega
  refine ⟨by simp [h.lg], h.ll, h.lc, fun v hv hlt => ?_, h.li, h.co, fun v hv e hcv => ?_, fun hg v hv e => ?_, fun v w hor hlt hL => ?_⟩
  · rw [hs, if_neg (by omega)]; exact h.g v hv hlt
  · rw [hs, if_pos rfl, hb]; exact .inl (h.b0 v hv e hcv)
  · rw [hs, if_pos rfl, hb] at hg
    rcases hg with hg | hg
    · exact h.sd hg v hv e
    · by_cases e2 : fn cn u = c
      · rw [e2] at hg; exact h.sd hg v hv e
      · have hLu := (h.g u hul (by omega)).1 hg
        exact Liv.same hC (hLu.edge hE) hv hxl (by omega)
  · rw [hs, if_pos rfl, hb]
    rcases hor with hor | ⟨h1, h2⟩
    · exact .inl (h.pr v w (.inl hor) hlt hL)
    · rw [List.getElem?_eq_getElem hj, hx] at h1
      have hvx : v = x := by have := Option.some.inj h1; omega
      subst hvx
      rw [getD_at hxl, List.take_succ_eq_append_getElem hi, List.mem_append, List.mem_singleton, hu] at h2
      rcases h2 with h2 | h2
      · exact .inl (h.pr v w (.inr ⟨by rw [List.getElem?_eq_getElem hj, hx], by rw [getD_at hxl]; exact h2⟩) hlt hL)
      · have : w = u := by omega
        subst this
        exact .inr ((h.g w hul hlt).2 hL)
theorem LvD.next {c j i : Nat} {gs ls cs : List Bool} {row : List Int} (h : LvD nx ms m cn cnt c row j i gs ls cs) (hj : j < row.length) {x : Nat} (hx : row[j] = (x : Int)) (hxl : x < nx.length) (hi : ¬ i < nx[x].length) : LvD nx ms m cn cnt c row (j + 1) 0 gs ls cs := by
  refine { h with pr := fun v u hor hlt hL => ?_ }
  rcases hor with ⟨h1, h2⟩ | ⟨_, h2⟩
  · rw [List.take_succ_eq_append_getElem hj, List.mem_append, List.mem_singleton, hx] at h1
    rcases h1 with h1 | h1
    · exact h.pr v u (.inl ⟨h1, h2⟩) hlt hL
    · have : v = x := by omega
      subst this
      refine h.pr v u (.inr ⟨by rw [List.getElem?_eq_getElem hj, hx], ?_⟩) hlt hL
      rw [getD_at hxl, List.take_of_length_le (by omega)]
      obtain ⟨r, h3, h4⟩ := h2
      rw [List.getElem?_eq_getElem hxl] at h3; cases h3; exact h4
  · simp at h2
theorem leaves (hC : CompN nx cn cnt) (hok : okRows nx) {v w : Nat} (h : Rch (adjE nx) v w) (hv : v < nx.length) : fn cn w = fn cn v ∨ ∃ a b, fn cn a = fn cn v ∧ a < nx.length ∧ adjE nx a b ∧ fn cn b < fn cn v ∧ Rch (adjE nx) b w := by
  induction h with
  | refl => exact .inl rfl
  | @step a b w e hr ih =>
    have hb := (adjE_lt hok e).2
    have hle : fn cn b ≤ fn cn a := by
      have : ((fn cn b : Nat) : Int) ≤ fn cn a := hC.clo a b hv e
      omega
    by_cases e2 : fn cn b = fn cn a
    · rcases ih hb with h1 | ⟨p, q, h1, h2, h3, h4, h5⟩
      · exact .inl (by omega)
      · exact .inr ⟨p, q, by omega, h2, h3, by omega, h5⟩
    · exact .inr ⟨a, b, rfl, hv, e, by omega, hr⟩
theorem LvD.flag {c j i : Nat} {gs ls cs : List Bool} {row : List Int} (hC : CompN nx cn cnt) (hok : okRows nx) (h : LvD nx ms m cn cnt c row j i gs ls cs) (hj : ¬ j < row.length) (hrow : ∀ v : Nat, v < nx.length → fn cn v = c → (v : Int) ∈ row) {v : Nat} (hv : v < nx.length) (e : fn cn v = c) : gs.getD c false = true ↔ Liv nx ms m v := by
  refine ⟨fun hg => h.sd hg v hv e, ?_⟩
  rintro ⟨w, h1, h2⟩
  have hw : w < nx.length := (CompOk.rch hC (fun u v h => adjE_lt hok h) hv h1).2
  rcases leaves hC hok h1 hv with h3 | ⟨a, b, h3, h4, h5, h6, h7⟩
  · exact h.b0 w hw (by omega) h2
  · refine h.pr a b (.inl ⟨?_, h5⟩) (by omega) ⟨w, h7, h2⟩
    rw [List.take_of_length_le (by omega)]
    exact hrow a h4 (by omega)
structure LvE (nx : List (List Int)) (ms : List Nat) (m : Nat) (cn : List Nat) (cnt c : Nat) (row : List Int) (j : Nat) (gs ls cs : List Bool) : Prop where
  lg : gs.length = cnt
  ll : ls.length = nx.length
  lc : cs.length = nx.length
  g : ∀ v, v < nx.length → fn cn v ≤ c → (gs.getD (fn cn v) false = true ↔ Liv nx ms m v)
  li : ∀ v, v < nx.length → (fn cn v < c ∨ (v : Int) ∈ row.take j) → (ls.getD v false = true ↔ Liv nx ms m v)
  co : ∀ v, v < nx.length → fn cn v ≤ c → (cs.getD v false = true ↔ Cor nx ms m v)
theorem LvD.toE {c j i : Nat} {gs ls cs : List Bool} {row : List Int} (hC : CompN nx cn cnt) (hok : okRows nx) (h : LvD nx ms m cn cnt c row j i gs ls cs) (hj : ¬ j < row.length) (hrow : ∀ v : Nat, v < nx.length → fn cn v = c → (v : Int) ∈ row) : LvE nx ms m cn cnt c row 0 gs ls cs := by
  refine ⟨h.lg, h.ll, h.lc, fun v hv hle => ?_, fun v hv hor => ?_, h.co⟩
  · by_cases e : fn cn v = c
    · rw [e]; exact h.flag hC hok hj hrow hv e
    · exact h.g v hv (by omega)
  · rcases hor with hor | hor
    · exact h.li v hv hor
    · simp at hor
theorem LvE.step {c j : Nat} {gs ls cs : List Bool} {row : List Int} (h : LvE nx ms m cn cnt c row j gs ls cs) (hj : j < row.length) {x : Nat} (hx : row[j] = (x : Int)) (hxl : x < nx.length) (hxc : fn cn x = c) {b : Bool} (hb : b = gs.getD c false) : LvE nx ms m cn cnt c row (j + 1) gs (ls.set x b) cs := by
  have hs := fun y => getB_set (a := b) (l := ls) (v := x) (by rw [h.ll]; exact hxl) y
  refine ⟨h.lg, by simp [h.ll], h.lc, h.g, fun v hv hor => ?_, h.co⟩
  rw [hs]
  by_cases e : v = x
  · subst e; rw [if_pos rfl, hb, ← hxc]; exact h.g v hxl (by omega)
  · rw [if_neg e]
    refine h.li v hv ?_
    rcases hor with hor | hor
    · exact .inl hor
    · rw [List.take_succ_eq_append_getElem hj, List.mem_append, List.mem_singleton, hx] at hor
      rcases hor with hor | hor
      · exact .inr hor
      · exact absurd (by omega) e
theorem LvE.done {c j : Nat} {gs ls cs : List Bool} {row : List Int} (h : LvE nx ms m cn cnt c row j gs ls cs) (hj : ¬ j < row.length) (hrow : ∀ v : Nat, v < nx.length → fn cn v = c → (v : Int) ∈ row) : LvP nx ms m cn cnt (c + 1) gs ls cs := by
  refine ⟨h.lg, h.ll, h.lc, fun v hv hlt => h.g v hv (by omega), fun v hv hlt => ?_, fun v hv hlt => h.co v hv (by omega)⟩
  refine h.li v hv ?_
  by_cases e : fn cn v = c
  · right; rw [List.take_of_length_le (by omega)]; exact hrow v hv e
  · left; omega
theorem LvP.start {gs ls cs : List Bool} (h1 : gs.length = cnt) (h2 : ls.length = nx.length) (h3 : cs.length = nx.length) : LvP nx ms m cn cnt 0 gs ls cs :=
  ⟨h1, h2, h3, fun v _ h => by omega, fun v _ h => by omega, fun v _ h => by omega⟩
theorem ints_nats {cp : List Int} (h : ∀ v, v < cp.length → 0 ≤ fz cp v) : ints cp = nats (cp.map Int.toNat) := by
  apply List.ext_getElem
  · simp
  · intro i h1 h2
    have hi : i < cp.length := by simpa using h1
    have := h i hi
    rw [fz_get hi] at this
    simp [Int.toNat_of_nonneg this]
theorem comp_nats {cp : List Int} {cnt : Nat} (hl : cp.length = nx.length) (h : CompOk nx.length (adjE nx) (fz cp) cnt) (hok : okRows nx) : CompN nx (cp.map Int.toNat) cnt := by
  have key : ∀ v, v < nx.length → ((fn (cp.map Int.toNat) v : Nat) : Int) = fz cp v := fun v hv => by
    have h0 := (h.pos v hv).1
    rw [fn_get (by rw [List.length_map, hl]; exact hv), List.getElem_map]
    rw [fz_get (by rw [hl]; exact hv)] at h0 ⊢
    exact Int.toNat_of_nonneg h0
  refine ⟨fun v hv => by rw [key v hv]; exact h.pos v hv, fun u v hu he => ?_, fun u v hu hv e => ?_⟩
  · have h1 := adjE_lt hok he
    rw [key u h1.1, key v h1.2]; exact h.clo u v hu he
  · change ((fn (cp.map Int.toNat) u : Nat) : Int) = ((fn (cp.map Int.toNat) v : Nat) : Int) at e
    rw [key u hu, key v hv] at e; exact h.cls u v hu hv e
theorem OrP.at {qs : List Rec} (h : OrP nx cn cnt nx.length (nums qs)) {c j : Nat} (hc : c < qs.length) (hj : j < qs[c].xs.length) : ∃ x : Nat, qs[c].xs[j] = (x : Int) ∧ x < nx.length ∧ fn cn x = c := by
  have hl := h.l
  have hq : (nums qs).getD c [] = qs[c].xs := by simp [hc]
  have := (h.h c qs[c].xs[j] (by rw [← hl]; simpa using hc)).1 (by rw [hq]; exact List.getElem_mem hj)
  exact this
theorem OrP.all {qs : List Rec} (h : OrP nx cn cnt nx.length (nums qs)) {c : Nat} (hc : c < qs.length) : ∀ v : Nat, v < nx.length → fn cn v = c → (v : Int) ∈ qs[c].xs := fun v hv e => by
  have hl := h.l
  have hq : (nums qs).getD c [] = qs[c].xs := by simp [hc]
  rw [← hq]
  exact (h.h c v (by rw [← hl]; simpa using hc)).2 ⟨v, rfl, hv, e⟩
theorem OrP.ql {qs : List Rec} {k : Nat} (h : OrP nx cn cnt k (nums qs)) : qs.length = cnt := by simpa using h.l
theorem OrP.rl {qs : List Rec} {k : Nat} (h : OrP nx cn cnt k (nums qs)) {c : Nat} (hc : c < qs.length) : qs[c].xs.length ≤ k := by
  have := h.n c
  rwa [show (nums qs).getD c [] = qs[c].xs by simp [hc]] at this
theorem OrP.push {qs : List Rec} {k : Nat} (h : OrP nx cn cnt k (nums qs)) (hk : k < cn.length) (hc : cn[k] < cnt) (b : Option Addr) (c : Nat) : OrP nx cn cnt (k + 1) (nums (qs.set cn[k] ⟨b, c, (qs[cn[k]]'(by rw [h.ql]; exact hc)).xs ++ [(k : Int)]⟩)) := by
  have hf : fn cn k = cn[k] := fn_get hk
  have := h.step (by rw [hf]; exact hc)
  rw [hf] at this
  rw [nums_set]
  have hq : (nums qs).getD cn[k] [] = (qs[cn[k]]'(by rw [h.ql]; exact hc)).xs := by simp [h.ql, hc]
  rwa [hq] at this
theorem gb {l : List Bool} {v : Nat} (h : v < l.length) : l.getD v false = l[v] := by simp [h]
theorem lt64 {x m : Nat} (h : x < 2 ^ m) (hm : m ≤ 8) : x < 256 := Nat.lt_of_lt_of_le h (Nat.pow_le_pow_right (n := 2) (by omega) hm)
end
end Go.Lx


namespace Go.Proofs.Ytnamoapbienooaa
open Go.Lx Go.RowKit
set_option linter.unusedVariables false
set_option linter.unusedSimpArgs false
theorem filter_any {α : Type} {l : List α} {p : α → Bool} (h : l.any p = false) : l.filter (fun x => !p x) = l := by
  rw [List.filter_eq_self]; intro x hx
  rw [List.any_eq_false] at h
  have := h x hx
  simpa using this
set_option maxHeartbeats 1000000 in
set_option maxRecDepth 20000 in
theorem deleteI (base : World) (b : Option Addr) (c : Nat) (xs : List Int) (hb : xs.length ≤ 1000000000) (OO : List Lx.Item) (fv : Value) (p : Int → Bool) (hy : ∀ x ∈ xs, CallV Try.prog base fv [.int .i64 x] OO (fun v O' => v = .bool (p x) ∧ O' = OO)) :
    CallT Try.prog base 69 [.slice b xs.length c, fv] ([rowI b c 3 1 (ints xs)] ++ OO) (fun v O' => v = .slice b (xs.filter fun x => !p x).length c ∧ O' = [rowI b c 3 1 (ints (xs.filter fun x => !p x))] ++ OO) := by
  refine CallT.enter Try.func69 rfl Try.ntmps69 rfl ?_
  refine T.seq (T.region ?_)
  refine TO.quiet (q_assign rfl) ?_
  refine TO.nil (T.seq (T.region ?_))
  refine TO.quiet (q_move rfl) (TO.quiet (q_move rfl) ?_)
  have hk10 := indexFuncI base b c xs ([rowI b c 3 1 (ints xs)] ++ OO) (rowO List.mem_cons_self) (by omega) fv p (fun x hx => ((CallV.atR [rowI b c 3 1 (ints xs)] (hy x (hx))).mono (fun v O' ⟨A', e1, e2, e3⟩ => ⟨e2, by rw [e1, e3]⟩)))
  refine TO.loud rfl (l_call ent101 hk10 rfl ?_)
  clear hk10
  rintro vr O' ⟨i0, rfl, hi0, rfl⟩
  refine TO.quiet (q_assign rfl) ?_
  refine TO.nil (T.seq (T.seq (T.region ?_)))
  refine TO.quiet (q_move rfl) (TO.quiet (q_eql rfl rfl) ?_)
  refine TO.nil ?_
  refine T.condP rfl (fun hc => ?_) (fun hc => ?_)
  · have hany : xs.any p = false := by
      rcases hi0 with ⟨_, h⟩ | ⟨k, hk, h, _⟩
      · exact h
      · omega
    refine T.seq (T.region ?_)
    refine TO.quiet (q_move rfl) (TO.quiet (q_assign rfl) ?_)
    refine TO.nil (T.ret ?_)
    refine Res.one (.slice b xs.length c) Try.results69 rfl ?_
    have hfl : (xs.filter fun x => !p x) = xs := filter_any hany
    exact ⟨by rw [hfl], by rw [hfl]⟩
  obtain ⟨k0, hk0, hik, hpk, hpre⟩ : ∃ (k : Nat) (hk : k < xs.length), i0 = (k : Int) ∧ p xs[k] = true ∧ (xs.take k).any p = false := by
    rcases hi0 with ⟨h, _⟩ | h
    · omega
    · exact h
  refine T.skip (T.seq (T.seq (T.region ?_)))
  refine TO.quiet (QT.cast (q_move rfl) (v' := .int .i64 ((k0 : Nat) : Int)) (by show Value.int _ _ = _; rw [hik])) (TO.quiet (q_addN (a := k0) (b := 1) rfl rfl (by omega)) (TO.quiet (q_assign rfl) ?_))
  refine TO.nil (T.block ?_)
  refine T.loop (fun (j : Nat) ρ O => ∃ (ys : List Int) (i : Nat), O = ([rowI b c 3 1 (ints ys)] ++ OO) ∧ j ≤ xs.length ∧ i < j ∧ ys.length = xs.length ∧ ys.take i = (xs.take j).filter (fun x => !p x) ∧ (∀ q, j ≤ q → ys[q]? = xs[q]?) ∧ Heads [(0, (.slice b xs.length c)), (1, fv), (4, (.slice none 0 0)), (5, .int .i64 (i : Int)), (6, .int .i64 (j : Int))] ρ) (fun j => xs.length - j) (k0 + 1) ?_ ?_
  · refine ⟨xs, k0, rfl, by omega, by omega, rfl, ?_, fun q hq => rfl, ⟨rfl, rfl, rfl, by rw [← hik]; rfl, rfl, trivial⟩⟩
    rw [List.take_succ_eq_append_getElem hk0, List.filter_append, filter_any hpre]; simp [hpk]
  rintro j ρ O ⟨ys, i, rfl, hj, hij, hyl, hyt, hyr, hH⟩
  obtain ⟨ρ0, rfl⟩ := hH.elim
  clear hH
  have hgo := trivial
  refine T.have (φ := xs.length ≤ c) (fun w hI => by have := rowP.cap (hI.row (i := 0) rfl); rw [List.length_map, hyl] at this; exact this) (fun hcap => ?_)
  refine T.seq (T.seq (T.region ?_))
  refine TO.quiet (q_move rfl) (TO.quiet (q_move rfl) (TO.quiet (q_len Try.underlying22 rfl) (TO.quiet (q_lss rfl rfl) ?_)))
  refine TO.nil ?_
  refine T.condP rfl (fun hc => ?_) (fun hc => ?_)
  · have hlt19 : j < xs.length := by omega
    have hyg : ys[j]'(by omega) = xs[j] := by have h9 := hyr j (Nat.le_refl _); rw [List.getElem?_eq_getElem (by omega), List.getElem?_eq_getElem hlt19] at h9; exact Option.some.inj h9
    refine T.skip (T.seq (T.block (T.seq (T.region ?_))))
    refine TO.quiet (q_move rfl) (TO.quiet (q_move rfl) (TO.quiet (q_ix (i := j) Try.underlying22 inf3 rfl rfl (rowO (List.mem_of_getElem? (i := 0) rfl))) (TO.quiet (q_ld Try.underlying3 rfl rfl (rowO (List.mem_of_getElem? (i := 0) rfl)) (show (ints ys)[j]? = _ by rw [ints_get (by omega), hyg])) ?_)))
    refine TO.quiet (q_assign rfl) ?_
    refine TO.nil (T.seq (T.region ?_))
    refine TO.quiet (q_move rfl) (TO.quiet (q_move rfl) ?_)
    have hk28 := (show CallV Try.prog base fv [.int .i64 xs[j]] ([rowI b c 3 1 (ints ys)] ++ OO) (fun v O' => v = .bool (p xs[j]) ∧ O' = [rowI b c 3 1 (ints ys)] ++ OO) from (CallV.atR [rowI b c 3 1 (ints ys)] (hy xs[j] (List.getElem_mem hlt19))).mono (fun v O' ⟨A', e1, e2, e3⟩ => ⟨e2, by rw [e1, e3]⟩))
    refine TO.loud rfl (l_callG hk28 rfl rfl ?_)
    clear hk28
    rintro vr O' ⟨rfl, rfl⟩
    refine TO.quiet (q_not rfl) ?_
    refine TO.nil ?_
    refine T.cond rfl (fun hc => ?_) (fun hc => ?_)
    · refine T.seq ?_
      refine T.region ?_
      refine TO.quiet (q_move rfl) (TO.quiet (q_move rfl) (TO.quiet (q_move rfl) (TO.quiet (q_ix (i := i) Try.underlying22 inf3 rfl rfl (rowO (List.mem_of_getElem? (i := 0) rfl))) ?_)))
      refine TO.loud rfl (l_st (j := i) (v := .int .i64 xs[j]) (vs := [(.int .i64 xs[j])]) (cs := ints ys) 0 inf3 rfl rfl rfl rfl rfl (by simp) rfl (by first | (simp; omega) | (simp_all; omega)) ?_)
      refine TO.sub (O' := ([rowI b c 3 1 (ints (ys.set i xs[j]))] ++ OO)) (by rw [show putL (ints ys) i [(.int .i64 xs[j])] = ints (ys.set i xs[j]) from (by simp [putL])]; exact Sub.of (List.Sublist.refl _)) ?_
      refine TO.nil (T.region ?_)
      refine TO.quiet (q_move rfl) (TO.quiet (q_addN (a := i) (b := 1) rfl rfl (by omega)) (TO.quiet (q_assign rfl) ?_))
      refine TO.nil (T.region ?_)
      refine TO.quiet (q_move rfl) (TO.quiet (q_addN (a := j) (b := 1) rfl rfl (by omega)) (TO.quiet (q_assign rfl) ?_))
      refine TO.nil ?_
      refine ⟨j + 1, by omega, ys.set i xs[j], i + 1, rfl, by omega, by omega, by simp [hyl], ?_, fun q hq => by rw [List.getElem?_set_ne (by omega)]; exact hyr q (by omega), ⟨rfl, rfl, rfl, rfl, rfl, trivial⟩⟩
      rw [List.take_succ_eq_append_getElem hlt19, List.filter_append, ← hyt, List.take_succ_eq_append_getElem (by simp; omega), List.getElem_set_self, List.take_set_of_le (Nat.le_refl _)]
      have hpj : p xs[j] = false := by simpa using hc
      simp [hpj]
    refine T.skip (T.region ?_)
    refine TO.quiet (q_move rfl) (TO.quiet (q_addN (a := j) (b := 1) rfl rfl (by omega)) (TO.quiet (q_assign rfl) ?_))
    refine TO.nil ?_
    refine ⟨j + 1, by omega, ys, i, rfl, by omega, by omega, hyl, ?_, fun q hq => hyr q (by omega), ⟨rfl, rfl, rfl, rfl, rfl, trivial⟩⟩
    rw [List.take_succ_eq_append_getElem hlt19, List.filter_append, ← hyt]
    have hpj : p xs[j] = true := by simpa using hc
    simp [hpj]
  have hge19 : ¬ j < xs.length := by omega
  refine T.exit ?_
  refine T.seq ?_
  have hje : j = xs.length := by omega
  rw [hje, List.take_length] at hyt
  have hil : (xs.filter fun x => !p x).length = i := by rw [← hyt, List.length_take]; omega
  refine T.region ?_
  refine TO.quiet (q_move rfl) (TO.quiet (q_move rfl) (TO.quiet (q_sliceFrom (lo := i) Try.underlying22 inf3 rfl rfl (by omega) (by omega)) ?_))
  refine TO.loud rfl (l_clear (cs := ints ys) (lo := i) 0 Try.underlying22 inf3 rfl rfl (by rw [List.length_map, hyl]; rfl) rfl (by rw [List.length_map]; omega) ?_)
  refine TO.nil (T.seq (T.region ?_))
  refine TO.quiet (q_move rfl) (TO.quiet (q_move rfl) (TO.quiet (q_sliceTo (hi := i) Try.underlying22 inf3 rfl rfl (by omega)) (TO.quiet (q_assign rfl) ?_)))
  refine TO.nil (T.ret ?_)
  refine Res.one (.slice b i c) Try.results69 rfl ?_
  exact ⟨by rw [hil], by rw [← hyt, show ints (ys.take i) = (ints ys).take i from List.map_take]; rfl⟩
end Go.Proofs.Ytnamoapbienooaa


namespace Go.Proofs.Ytnamoapbienooaa
open Go.Lx Go.RowKit
set_option linter.unusedVariables false
set_option linter.unusedSimpArgs false
set_option maxHeartbeats 1000000 in
set_option maxRecDepth 20000 in
theorem longF (w : World) (b : Option Addr) (c : Nat) (qs : List BuRef) (hS : Sl w b (busC qs)) (hq : ∀ q ∈ qs, BuAt w q.b q.sb q.eb q.tb q.vs) (hb : qs.length < 9223372036854775807) (hb2 : ∀ q ∈ qs, q.b.sets.length < 9223372036854775807) :
    PureT Try.prog 11 [.slice b qs.length c] w fun v N => v = .bool (qs.any fun q => longB q.b) ∧ N = [] := by
  refine CallT.enter Try.func11 rfl Try.ntmps11 rfl ?_
  refine T.seq (T.region ?_)
  refine TO.quiet (q_assign rfl) ?_
  refine TO.nil (T.seq (T.seq (T.region ?_)))
  refine TO.quiet (q_assign rfl) ?_
  refine TO.nil (T.block ?_)
  refine T.loop (fun (k : Nat) ρ O => O = [] ∧ k ≤ qs.length ∧ (qs.take k).any (fun q => longB q.b) = false ∧ Heads [(0, (.slice b qs.length c)), (3, .int .i64 (k : Int))] ρ) (fun k => qs.length - k) 0 ?_ ?_
  · exact ⟨rfl, Nat.zero_le _, rfl, ⟨rfl, rfl, trivial⟩⟩
  rintro k ρ O ⟨rfl, hk, hany, hH⟩
  obtain ⟨ρ0, rfl⟩ := hH.elim
  clear hH
  refine T.seq (T.seq (T.region ?_))
  refine TO.quiet (q_move rfl) (TO.quiet (q_move rfl) (TO.quiet (q_len Try.underlying71 rfl) (TO.quiet (q_lss rfl rfl) ?_)))
  refine TO.nil ?_
  refine T.condP rfl (fun hc => ?_) (fun hc => ?_)
  · have hlt8 : k < qs.length := by omega
    have hbb := hb2 _ (List.getElem_mem hlt8)
    have hvl := (hq _ (List.getElem_mem hlt8)).rows.1
    refine T.skip (T.seq (T.block (T.seq (T.seq (T.region ?_)))))
    refine TO.quiet (q_move rfl) (TO.quiet (q_move rfl) (TO.quiet (q_ixK (i := k) Try.underlying71 inf26 rfl rfl (Sl.o hS) (by first | assumption | omega | (simp; omega) | simp_all) (by first | (rw [bus_len]; omega) | (simp [bus_len]; omega) | (simp_all [bus_len]; omega))) (TO.quiet (q_fieldEl Try.underlying26 rfl inf22 rfl rfl (Sl.o hS) (by first | (rw [bus_len]; omega) | (simp [bus_len]; omega) | (simp_all [bus_len]; omega))) ?_)))
    refine TO.quiet (q_ld Try.underlying22 rfl rfl (Sl.o hS) (bus_get (by first | assumption | omega | (simp; omega) | simp_all) 2 (by decide))) (TO.quiet (q_len Try.underlying22 rfl) (TO.quiet (q_gtr rfl rfl) ?_))
    by_cases hs18 : (qs[k].b.start.length : Int) > 40
    · refine TO.quiet (QT.toB (q_move rfl) (decide_eq_true hs18)) ?_
      refine TO.passed rfl rfl ?_
      refine TO.passed rfl rfl ?_
      refine TO.passed rfl rfl ?_
      refine TO.passed rfl rfl ?_
      refine TO.passed rfl rfl ?_
      refine TO.passed rfl rfl ?_
      refine TO.passed rfl rfl ?_
      refine TO.quiet (q_pick1 rfl rfl) (TO.quiet (q_move rfl) ?_)
      refine TO.passed rfl rfl ?_
      refine TO.passed rfl rfl ?_
      refine TO.passed rfl rfl ?_
      refine TO.passed rfl rfl ?_
      refine TO.passed rfl rfl ?_
      refine TO.passed rfl rfl ?_
      refine TO.passed rfl rfl ?_
      refine TO.quiet (q_pick1 rfl rfl) (TO.quiet (q_move rfl) ?_)
      refine TO.passed rfl rfl ?_
      refine TO.passed rfl rfl ?_
      refine TO.passed rfl rfl ?_
      refine TO.passed rfl rfl ?_
      refine TO.passed rfl rfl ?_
      refine TO.passed rfl rfl ?_
      refine TO.passed rfl rfl ?_
      refine TO.passed rfl rfl ?_
      refine TO.passed rfl rfl ?_
      refine TO.passed rfl rfl ?_
      refine TO.passed rfl rfl ?_
      refine TO.passed rfl rfl ?_
      refine TO.passed rfl rfl ?_
      refine TO.passed rfl rfl ?_
      refine TO.quiet (q_pick1 rfl rfl) ?_
      refine TO.nil ?_
      refine T.cond1 rfl ?_
      refine T.seq (T.region ?_)
      refine TO.quiet (q_assign rfl) ?_
      refine TO.nil (T.ret ?_)
      refine Res.one (.bool true) Try.results11 rfl ?_
      exact ⟨congrArg Value.bool ((any_hit hlt8 (show longB _ = true by unfold longB; rw [show longN qs[k].b = true from decide_eq_true (by omega)]; rfl)).symm), rfl⟩
    refine TO.quiet (QT.toB (q_move rfl) (decide_eq_false hs18)) ?_
    refine TO.guarded rfl rfl rfl (LT.of_quiet rfl rfl (q_move rfl) ?_)
    refine TO.guarded rfl rfl rfl (LT.of_quiet rfl rfl (q_move rfl) ?_)
    refine TO.guarded rfl rfl rfl (LT.of_quiet rfl rfl (q_ixK (i := k) Try.underlying71 inf26 rfl rfl (Sl.o hS) (by first | assumption | omega | (simp; omega) | simp_all) (by first | (rw [bus_len]; omega) | (simp [bus_len]; omega) | (simp_all [bus_len]; omega))) ?_)
    refine TO.guarded rfl rfl rfl (LT.of_quiet rfl rfl (q_fieldEl Try.underlying26 rfl inf23 rfl rfl (Sl.o hS) (by first | (rw [bus_len]; omega) | (simp [bus_len]; omega) | (simp_all [bus_len]; omega))) ?_)
    refine TO.guarded rfl rfl rfl (LT.of_quiet rfl rfl (q_ld Try.underlying23 rfl rfl (Sl.o hS) (bus_get (by first | assumption | omega | (simp; omega) | simp_all) 3 (by decide))) ?_)
    refine TO.guarded rfl rfl rfl (LT.of_quiet rfl rfl (q_len Try.underlying23 rfl) ?_)
    refine TO.guarded rfl rfl rfl (LT.of_quiet rfl rfl (q_gtr rfl rfl) ?_)
    refine TO.quiet (q_pick0 rfl rfl) ?_
    by_cases hs27 : (qs[k].b.edges.length : Int) > 60
    · refine TO.quiet (QT.toB (q_move rfl) (decide_eq_true hs27)) ?_
      refine TO.passed rfl rfl ?_
      refine TO.passed rfl rfl ?_
      refine TO.passed rfl rfl ?_
      refine TO.passed rfl rfl ?_
      refine TO.passed rfl rfl ?_
      refine TO.passed rfl rfl ?_
      refine TO.passed rfl rfl ?_
      refine TO.quiet (q_pick1 rfl rfl) (TO.quiet (q_move rfl) ?_)
      refine TO.passed rfl rfl ?_
      refine TO.passed rfl rfl ?_
      refine TO.passed rfl rfl ?_
      refine TO.passed rfl rfl ?_
      refine TO.passed rfl rfl ?_
      refine TO.passed rfl rfl ?_
      refine TO.passed rfl rfl ?_
      refine TO.passed rfl rfl ?_
      refine TO.passed rfl rfl ?_
      refine TO.passed rfl rfl ?_
      refine TO.passed rfl rfl ?_
      refine TO.passed rfl rfl ?_
      refine TO.passed rfl rfl ?_
      refine TO.passed rfl rfl ?_
      refine TO.quiet (q_pick1 rfl rfl) ?_
      refine TO.nil ?_
      refine T.cond1 rfl ?_
      refine T.seq (T.region ?_)
      refine TO.quiet (q_assign rfl) ?_
      refine TO.nil (T.ret ?_)
      refine Res.one (.bool true) Try.results11 rfl ?_
      exact ⟨congrArg Value.bool ((any_hit hlt8 (show longB _ = true by unfold longB; rw [show longN qs[k].b = true from decide_eq_true (by omega)]; rfl)).symm), rfl⟩
    refine TO.quiet (QT.toB (q_move rfl) (decide_eq_false hs27)) ?_
    refine TO.guarded rfl rfl rfl (LT.of_quiet rfl rfl (q_move rfl) ?_)
    refine TO.guarded rfl rfl rfl (LT.of_quiet rfl rfl (q_move rfl) ?_)
    refine TO.guarded rfl rfl rfl (LT.of_quiet rfl rfl (q_ixK (i := k) Try.underlying71 inf26 rfl rfl (Sl.o hS) (by first | assumption | omega | (simp; omega) | simp_all) (by first | (rw [bus_len]; omega) | (simp [bus_len]; omega) | (simp_all [bus_len]; omega))) ?_)
    refine TO.guarded rfl rfl rfl (LT.of_quiet rfl rfl (q_fieldEl Try.underlying26 rfl inf24 rfl rfl (Sl.o hS) (by first | (rw [bus_len]; omega) | (simp [bus_len]; omega) | (simp_all [bus_len]; omega))) ?_)
    refine TO.guarded rfl rfl rfl (LT.of_quiet rfl rfl (q_ld Try.underlying24 rfl rfl (Sl.o hS) (bus_get (by first | assumption | omega | (simp; omega) | simp_all) 4 (by decide))) ?_)
    refine TO.guarded rfl rfl rfl (LT.of_quiet rfl rfl (q_len Try.underlying24 rfl) ?_)
    refine TO.guarded rfl rfl rfl (LT.of_quiet rfl rfl (q_gtr rfl rfl) ?_)
    refine TO.quiet (q_pick0 rfl rfl) ?_
    by_cases hs36 : (qs[k].b.sets.length : Int) > 12
    · refine TO.quiet (QT.toB (q_move rfl) (decide_eq_true hs36)) ?_
      refine TO.passed rfl rfl ?_
      refine TO.passed rfl rfl ?_
      refine TO.passed rfl rfl ?_
      refine TO.passed rfl rfl ?_
      refine TO.passed rfl rfl ?_
      refine TO.passed rfl rfl ?_
      refine TO.passed rfl rfl ?_
      refine TO.passed rfl rfl ?_
      refine TO.passed rfl rfl ?_
      refine TO.passed rfl rfl ?_
      refine TO.passed rfl rfl ?_
      refine TO.passed rfl rfl ?_
      refine TO.passed rfl rfl ?_
      refine TO.passed rfl rfl ?_
      refine TO.quiet (q_pick1 rfl rfl) ?_
      refine TO.nil ?_
      refine T.cond1 rfl ?_
      refine T.seq (T.region ?_)
      refine TO.quiet (q_assign rfl) ?_
      refine TO.nil (T.ret ?_)
      refine Res.one (.bool true) Try.results11 rfl ?_
      exact ⟨congrArg Value.bool ((any_hit hlt8 (show longB _ = true by unfold longB; rw [show longN qs[k].b = true from decide_eq_true (by omega)]; rfl)).symm), rfl⟩
    refine TO.quiet (QT.toB (q_move rfl) (decide_eq_false hs36)) ?_
    refine TO.guarded rfl rfl rfl (LT.of_quiet rfl rfl (q_move rfl) ?_)
    refine TO.guarded rfl rfl rfl (LT.of_quiet rfl rfl (q_move rfl) ?_)
    refine TO.guarded rfl rfl rfl (LT.of_quiet rfl rfl (q_ixK (i := k) Try.underlying71 inf26 rfl rfl (Sl.o hS) (by first | assumption | omega | (simp; omega) | simp_all) (by first | (rw [bus_len]; omega) | (simp [bus_len]; omega) | (simp_all [bus_len]; omega))) ?_)
    refine TO.guarded rfl rfl rfl (LT.of_quiet rfl rfl (q_fieldEl Try.underlying26 rfl inf3 rfl rfl (Sl.o hS) (by first | (rw [bus_len]; omega) | (simp [bus_len]; omega) | (simp_all [bus_len]; omega))) ?_)
    refine TO.guarded rfl rfl rfl (LT.of_quiet rfl rfl (q_ld Try.underlying3 rfl rfl (Sl.o hS) (bus_get (by first | assumption | omega | (simp; omega) | simp_all) 1 (by decide))) ?_)
    refine TO.guarded rfl rfl rfl (LT.of_quiet rfl rfl (q_gtr rfl rfl) ?_)
    by_cases hs43 : qs[k].b.states > 20
    · refine TO.guarded rfl rfl rfl (LT.of_quiet rfl rfl (QT.toB (q_move rfl) (decide_eq_true hs43)) ?_)
      refine TO.guarded rfl rfl rfl (LT.of_quiet rfl rfl (q_move rfl) ?_)
      refine TO.guarded rfl rfl rfl (LT.of_quiet rfl rfl (q_move rfl) ?_)
      refine TO.guarded rfl rfl rfl (LT.of_quiet rfl rfl (q_ixK (i := k) Try.underlying71 inf26 rfl rfl (Sl.o hS) (by first | assumption | omega | (simp; omega) | simp_all) (by first | (rw [bus_len]; omega) | (simp [bus_len]; omega) | (simp_all [bus_len]; omega))) ?_)
      refine TO.guarded rfl rfl rfl (LT.of_quiet rfl rfl (q_fieldEl Try.underlying26 rfl inf3 rfl rfl (Sl.o hS) (by first | (rw [bus_len]; omega) | (simp [bus_len]; omega) | (simp_all [bus_len]; omega))) ?_)
      refine TO.guarded rfl rfl rfl (LT.of_quiet rfl rfl (q_ld Try.underlying3 rfl rfl (Sl.o hS) (bus_get (by first | assumption | omega | (simp; omega) | simp_all) 1 (by decide))) ?_)
      refine TO.guarded rfl rfl rfl (LT.of_quiet rfl rfl (q_leq rfl rfl) ?_)
      refine TO.guarded rfl rfl rfl (LT.of_quiet rfl rfl (q_pick1 rfl rfl) ?_)
      refine TO.quiet (q_pick0 rfl rfl) ?_
      refine TO.nil ?_
      refine T.condP rfl (fun hc => ?_) (fun hc => ?_)
      · refine T.seq ?_
        refine T.region ?_
        refine TO.quiet (q_assign rfl) ?_
        refine TO.nil (T.ret ?_)
        refine Res.one (.bool true) Try.results11 rfl ?_
        exact ⟨congrArg Value.bool ((any_hit hlt8 (show longB _ = true by unfold longB; rw [show longN qs[k].b = true from decide_eq_true (by omega)]; rfl)).symm), rfl⟩
      refine T.skip (T.seq (T.region ?_))
      refine TO.quiet (q_assign rfl) ?_
      refine TO.nil (T.block ?_)
      refine T.loop (fun (j : Nat) ρ O => O = [] ∧ j ≤ qs[k].b.sets.length ∧ longN qs[k].b = false ∧ (qs[k].b.sets.take j).any (fun r => decide (40 < r.length)) = false ∧ Heads [(0, (.slice b qs.length c)), (3, .int .i64 (k : Int)), (4, .int .i64 (j : Int))] ρ) (fun j => qs[k].b.sets.length - j) 0 ?_ ?_
      · refine ⟨rfl, Nat.zero_le _, decide_eq_false (by omega), rfl, ⟨rfl, rfl, rfl, trivial⟩⟩
      rintro j ρ O ⟨rfl, hj, hnl, hj2, hH⟩
      obtain ⟨ρ0, rfl⟩ := hH.elim
      clear hH
      refine T.seq (T.seq (T.region ?_))
      refine TO.quiet (q_move rfl) (TO.quiet (q_move rfl) (TO.quiet (q_move rfl) (TO.quiet (q_ixK (i := k) Try.underlying71 inf26 rfl rfl (Sl.o hS) (by first | assumption | omega | (simp; omega) | simp_all) (by first | (rw [bus_len]; omega) | (simp [bus_len]; omega) | (simp_all [bus_len]; omega))) ?_)))
      refine TO.quiet (q_fieldEl Try.underlying26 rfl inf24 rfl rfl (Sl.o hS) (by first | (rw [bus_len]; omega) | (simp [bus_len]; omega) | (simp_all [bus_len]; omega))) (TO.quiet (q_ld Try.underlying24 rfl rfl (Sl.o hS) (bus_get (by first | assumption | omega | (simp; omega) | simp_all) 4 (by decide))) (TO.quiet (q_len Try.underlying24 rfl) (TO.quiet (q_lss rfl rfl) ?_)))
      refine TO.nil ?_
      refine T.condP rfl (fun hc => ?_) (fun hc => ?_)
      · have hlt59 : j < qs[k].b.sets.length := by omega
        obtain ⟨vb, vc, g1, s1⟩ := (hq _ (List.getElem_mem hlt8)).rows.get hlt59
        refine T.skip (T.seq (T.block (T.seq (T.region ?_))))
        refine TO.quiet (q_move rfl) (TO.quiet (q_move rfl) (TO.quiet (q_ixK (i := k) Try.underlying71 inf26 rfl rfl (Sl.o hS) (by first | assumption | omega | (simp; omega) | simp_all) (by first | (rw [bus_len]; omega) | (simp [bus_len]; omega) | (simp_all [bus_len]; omega))) (TO.quiet (q_fieldEl Try.underlying26 rfl inf24 rfl rfl (Sl.o hS) (by first | (rw [bus_len]; omega) | (simp [bus_len]; omega) | (simp_all [bus_len]; omega))) ?_)))
        refine TO.quiet (q_ld Try.underlying24 rfl rfl (Sl.o hS) (bus_get (by first | assumption | omega | (simp; omega) | simp_all) 4 (by decide))) (TO.quiet (q_move rfl) (TO.quiet (q_ix (i := j) Try.underlying24 inf22 rfl rfl (Sl.o (hq _ (List.getElem_mem hlt8)).out) (by first | assumption | omega | (simp; omega) | simp_all) (by rw [hvl]; exact hlt59)) (TO.quiet (q_ld Try.underlying22 rfl rfl (Sl.o (hq _ (List.getElem_mem hlt8)).out) g1) ?_)))
        refine TO.quiet (q_len Try.underlying22 rfl) (TO.quiet (q_gtr rfl rfl) ?_)
        refine TO.nil ?_
        refine T.condP rfl (fun hc => ?_) (fun hc => ?_)
        · have hlt71 : qs[k].b.sets[j].length > 40 := by omega
          refine T.seq (T.region ?_)
          refine TO.quiet (q_assign rfl) ?_
          refine TO.nil (T.ret ?_)
          refine Res.one (.bool true) Try.results11 rfl ?_
          exact ⟨congrArg Value.bool ((any_hit hlt8 (show longB _ = true by unfold longB; rw [any_hit hlt59 (decide_eq_true (by omega))]; simp)).symm), rfl⟩
        have hge71 : ¬ qs[k].b.sets[j].length > 40 := by omega
        refine T.skip (T.region ?_)
        refine TO.quiet (q_move rfl) (TO.quiet (q_addN (a := j) (b := 1) rfl rfl (by omega)) (TO.quiet (q_assign rfl) ?_))
        refine TO.nil ?_
        exact ⟨j + 1, by omega, rfl, by omega, hnl, any_snoc hlt59 hj2 (decide_eq_false (by omega)), ⟨rfl, rfl, rfl, trivial⟩⟩
      have hge59 : ¬ j < qs[k].b.sets.length := by omega
      refine T.exit ?_
      refine T.region ?_
      refine TO.quiet (q_move rfl) (TO.quiet (q_addN (a := k) (b := 1) rfl rfl (by omega)) (TO.quiet (q_assign rfl) ?_))
      refine TO.nil ?_
      refine ⟨k + 1, by omega, rfl, by omega, any_snoc hlt8 hany ?_, ⟨rfl, rfl, trivial⟩⟩
      show longB _ = false
      unfold longB; rw [hnl, any_done (by omega) hj2]; rfl
    refine TO.guarded rfl rfl rfl (LT.of_quiet rfl rfl (QT.toB (q_move rfl) (decide_eq_false hs43)) ?_)
    refine TO.passed rfl rfl ?_
    refine TO.passed rfl rfl ?_
    refine TO.passed rfl rfl ?_
    refine TO.passed rfl rfl ?_
    refine TO.passed rfl rfl ?_
    refine TO.passed rfl rfl ?_
    refine TO.guarded rfl rfl rfl (LT.of_quiet rfl rfl (q_pick0 rfl rfl) ?_)
    refine TO.quiet (q_pick0 rfl rfl) ?_
    refine TO.nil ?_
    refine T.cond0 rfl ?_
    refine T.skip (T.seq (T.region ?_))
    refine TO.quiet (q_assign rfl) ?_
    refine TO.nil (T.block ?_)
    refine T.loop (fun (j : Nat) ρ O => O = [] ∧ j ≤ qs[k].b.sets.length ∧ longN qs[k].b = false ∧ (qs[k].b.sets.take j).any (fun r => decide (40 < r.length)) = false ∧ Heads [(0, (.slice b qs.length c)), (3, .int .i64 (k : Int)), (4, .int .i64 (j : Int))] ρ) (fun j => qs[k].b.sets.length - j) 0 ?_ ?_
    · refine ⟨rfl, Nat.zero_le _, decide_eq_false (by omega), rfl, ⟨rfl, rfl, rfl, trivial⟩⟩
    rintro j ρ O ⟨rfl, hj, hnl, hj2, hH⟩
    obtain ⟨ρ0, rfl⟩ := hH.elim
    clear hH
    refine T.seq (T.seq (T.region ?_))
    refine TO.quiet (q_move rfl) (TO.quiet (q_move rfl) (TO.quiet (q_move rfl) (TO.quiet (q_ixK (i := k) Try.underlying71 inf26 rfl rfl (Sl.o hS) (by first | assumption | omega | (simp; omega) | simp_all) (by first | (rw [bus_len]; omega) | (simp [bus_len]; omega) | (simp_all [bus_len]; omega))) ?_)))
    refine TO.quiet (q_fieldEl Try.underlying26 rfl inf24 rfl rfl (Sl.o hS) (by first | (rw [bus_len]; omega) | (simp [bus_len]; omega) | (simp_all [bus_len]; omega))) (TO.quiet (q_ld Try.underlying24 rfl rfl (Sl.o hS) (bus_get (by first | assumption | omega | (simp; omega) | simp_all) 4 (by decide))) (TO.quiet (q_len Try.underlying24 rfl) (TO.quiet (q_lss rfl rfl) ?_)))
    refine TO.nil ?_
    refine T.condP rfl (fun hc => ?_) (fun hc => ?_)
    · have hlt59 : j < qs[k].b.sets.length := by omega
      obtain ⟨vb, vc, g1, s1⟩ := (hq _ (List.getElem_mem hlt8)).rows.get hlt59
      refine T.skip (T.seq (T.block (T.seq (T.region ?_))))
      refine TO.quiet (q_move rfl) (TO.quiet (q_move rfl) (TO.quiet (q_ixK (i := k) Try.underlying71 inf26 rfl rfl (Sl.o hS) (by first | assumption | omega | (simp; omega) | simp_all) (by first | (rw [bus_len]; omega) | (simp [bus_len]; omega) | (simp_all [bus_len]; omega))) (TO.quiet (q_fieldEl Try.underlying26 rfl inf24 rfl rfl (Sl.o hS) (by first | (rw [bus_len]; omega) | (simp [bus_len]; omega) | (simp_all [bus_len]; omega))) ?_)))
      refine TO.quiet (q_ld Try.underlying24 rfl rfl (Sl.o hS) (bus_get (by first | assumption | omega | (simp; omega) | simp_all) 4 (by decide))) (TO.quiet (q_move rfl) (TO.quiet (q_ix (i := j) Try.underlying24 inf22 rfl rfl (Sl.o (hq _ (List.getElem_mem hlt8)).out) (by first | assumption | omega | (simp; omega) | simp_all) (by rw [hvl]; exact hlt59)) (TO.quiet (q_ld Try.underlying22 rfl rfl (Sl.o (hq _ (List.getElem_mem hlt8)).out) g1) ?_)))
      refine TO.quiet (q_len Try.underlying22 rfl) (TO.quiet (q_gtr rfl rfl) ?_)
      refine TO.nil ?_
      refine T.condP rfl (fun hc => ?_) (fun hc => ?_)
      · have hlt71 : qs[k].b.sets[j].length > 40 := by omega
        refine T.seq (T.region ?_)
        refine TO.quiet (q_assign rfl) ?_
        refine TO.nil (T.ret ?_)
        refine Res.one (.bool true) Try.results11 rfl ?_
        exact ⟨congrArg Value.bool ((any_hit hlt8 (show longB _ = true by unfold longB; rw [any_hit hlt59 (decide_eq_true (by omega))]; simp)).symm), rfl⟩
      have hge71 : ¬ qs[k].b.sets[j].length > 40 := by omega
      refine T.skip (T.region ?_)
      refine TO.quiet (q_move rfl) (TO.quiet (q_addN (a := j) (b := 1) rfl rfl (by omega)) (TO.quiet (q_assign rfl) ?_))
      refine TO.nil ?_
      exact ⟨j + 1, by omega, rfl, by omega, hnl, any_snoc hlt59 hj2 (decide_eq_false (by omega)), ⟨rfl, rfl, rfl, trivial⟩⟩
    have hge59 : ¬ j < qs[k].b.sets.length := by omega
    refine T.exit ?_
    refine T.region ?_
    refine TO.quiet (q_move rfl) (TO.quiet (q_addN (a := k) (b := 1) rfl rfl (by omega)) (TO.quiet (q_assign rfl) ?_))
    refine TO.nil ?_
    refine ⟨k + 1, by omega, rfl, by omega, any_snoc hlt8 hany ?_, ⟨rfl, rfl, trivial⟩⟩
    show longB _ = false
    unfold longB; rw [hnl, any_done (by omega) hj2]; rfl
  have hge8 : ¬ k < qs.length := by omega
  refine T.exit ?_
  refine T.seq (T.region ?_)
  refine TO.quiet (q_assign rfl) ?_
  refine TO.nil (T.ret ?_)
  refine Res.one (.bool false) Try.results11 rfl ?_
  exact ⟨congrArg Value.bool ((any_done (by omega) hany).symm), rfl⟩
set_option maxHeartbeats 1000000 in
set_option maxRecDepth 20000 in
theorem copyBuchi (w : World) (b : Bu) (sb eb tb : Option Addr) (sc ec tc : Nat) (vs : List Value) (h : BuAt w b sb eb tb vs) (hB : BuB b) :
    PureT Try.prog 15 [.agg (buCells b sb sc eb ec tb tc).toArray] w fun v N => ∃ sb2 eb2 tb2 sc2 ec2 tc2 qs, v = .agg (buCells b sb2 sc2 eb2 ec2 tb2 tc2).toArray ∧ N = [rowI sb2 sc2 3 1 (ints b.start), rowI eb2 ec2 54 4 (edsC b.edges), rowI tb2 tc2 22 1 (vals qs)] ++ itms 3 qs ∧ nums qs = b.sets := by
  refine CallT.enter Try.func15 rfl Try.ntmps15 rfl ?_
  refine T.seq (T.region ?_)
  refine TO.loud rfl (l_box (v := (.agg (buCells b sb sc eb ec tb tc).toArray)) (cs := (buCells b sb sc eb ec tb tc)) rfl rfl (fun bx1 => ?_))
  refine TO.loud rfl (l_alloc inf26 rfl (fun bx2 => ?_))
  refine TO.nil (T.seq ?_)
  refine T.draws _ [(0, 0), (1, 0), (2, 0), (3, 0), (4, 0), (5, 0), (7, 0), (8, 0), (10, 0), (11, 0), (6, 1), (9, 1), (12, 1), (13, 0), (14, 2)] mixed (by kernel_rfl) (Sub.of (List.Sublist.refl _)) (fun _ _ _ h => h) ?_
  refine DO.quiet rfl (q_fieldAddr Try.underlying26 rfl inf3 rfl rfl) (DO.quiet rfl (q_load_box 1 Try.underlying3 rfl rfl rfl rfl) (DO.quiet rfl (q_fieldAddr Try.underlying26 rfl inf3 rfl rfl) (DO.quiet rfl (q_load_box 1 Try.underlying3 rfl rfl rfl rfl) ?_)))
  refine DO.quiet rfl (q_fieldAddr Try.underlying26 rfl inf22 rfl rfl) (DO.quiet rfl (q_load_box 1 Try.underlying22 rfl rfl rfl rfl) (DO.quiet rfl (q_fieldAddr Try.underlying26 rfl inf23 rfl rfl) (DO.quiet rfl (q_load_box 1 Try.underlying23 rfl rfl rfl rfl) ?_)))
  refine DO.quiet rfl (q_fieldAddr Try.underlying26 rfl inf24 rfl rfl) (DO.quiet rfl (q_load_box 1 Try.underlying24 rfl rfl rfl rfl) ?_)
  have hk9 := fun (w1 : World) (hI : Inv w [oI bx2 26 [(.int .i64 0), (.int .i64 0), (.slice none 0 0), (.slice none 0 0), (.slice none 0 0)], oI bx1 26 (buCells b sb sc eb ec tb tc)] w1) => copyInts w1 sb sc b.start (hI.sl h.st) (by have := hB.st; omega)
  refine DO.loud rfl rfl (l_call ent48 (CallT.of_pure hk9) rfl ?_)
  clear hk9
  rintro vr O' ⟨N, rfl, sb2, sc2, rfl, rfl⟩
  refine ⟨Sub.pick [1, 1] rfl, ?_⟩
  have hk12 := fun (w1 : World) (hI : Inv w [rowI sb2 sc2 3 1 (ints b.start), oI bx2 26 [(.int .i64 0), (.int .i64 0), (.slice none 0 0), (.slice none 0 0), (.slice none 0 0)], oI bx1 26 (buCells b sb sc eb ec tb tc)] w1) => copyEdges w1 eb ec b.edges (hI.sl h.ed) hB.ed
  refine DO.loud rfl rfl (l_call ent49 (CallT.of_pure hk12) rfl ?_)
  clear hk12
  rintro vr O' ⟨N, rfl, eb2, ec2, rfl, rfl⟩
  refine ⟨Sub.pick [2, 2] rfl, ?_⟩
  have hk15 := fun (w1 : World) (hI : Inv w [rowI eb2 ec2 54 4 (edsC b.edges), rowI sb2 sc2 3 1 (ints b.start), oI bx2 26 [(.int .i64 0), (.int .i64 0), (.slice none 0 0), (.slice none 0 0), (.slice none 0 0)], oI bx1 26 (buCells b sb sc eb ec tb tc)] w1) => copyRows w1 tb tc vs b.sets (hI.sl h.out) (hI.rows h.rows) (by have := hB.se; omega) (fun r hr => by have := hB.sr r hr; omega)
  refine DO.loud rfl rfl (l_call ent50 (CallT.of_pure hk15) rfl ?_)
  clear hk15
  rintro vr O' ⟨N, rfl, tb2, tc2, qs, rfl, rfl, hqs⟩
  refine ⟨Sub.appL _ (Sub.pick [2, 2] rfl), ?_⟩
  refine DO.sub (O' := ([rowI tb2 tc2 22 1 (vals qs), rowI eb2 ec2 54 4 (edsC b.edges), rowI sb2 sc2 3 1 (ints b.start), oI bx2 26 [(.int .i64 0), (.int .i64 0), (.slice none 0 0), (.slice none 0 0), (.slice none 0 0)], oI bx1 26 (buCells b sb sc eb ec tb tc)] ++ (itms 3 qs))) (Sub.cnt [] (by intro a; simp only [itms, oI, List.set_cons_zero, List.set_cons_succ, putL, List.cons_append, List.nil_append, List.append_nil, List.append_assoc, List.map_append, List.map_cons, List.map_nil, cnt_append, cnt_cons, cnt_nil, buCells, laCells] <;> omega)) ?_
  refine DO.quiet rfl (q_build (cs := (buCells b sb2 sc2 eb2 ec2 tb2 tc2)) plan26 inf26 (by kernel_rfl)) ?_
  refine DO.last rfl rfl (l_store_box (v := (.agg (buCells b sb2 sc2 eb2 ec2 tb2 tc2).toArray)) (vs := (buCells b sb2 sc2 eb2 ec2 tb2 tc2)) 3 inf26 rfl rfl rfl rfl rfl rfl (by simp [putL]) ?_)
  refine DO.done ?_
  refine T.ret (Res.drop ?_)
  refine Res.cell1 (i := 3) Try.results15 Try.underlying26 rfl inf26 rfl rfl rfl ?_
  exact ⟨[rowI sb2 sc2 3 1 (ints b.start), rowI eb2 ec2 54 4 (edsC b.edges), rowI tb2 tc2 22 1 (vals qs)] ++ itms 3 qs, Sub.cnt [oI bx2 26 (buCells b sb2 sc2 eb2 ec2 tb2 tc2), oI bx1 26 (buCells b sb sc eb ec tb tc)] (by intro a; simp only [itms, oI, List.set_cons_zero, List.set_cons_succ, putL, List.cons_append, List.nil_append, List.append_nil, List.append_assoc, List.map_append, List.map_cons, List.map_nil, cnt_append, cnt_cons, cnt_nil, buCells, laCells] <;> omega), sb2, eb2, tb2, sc2, ec2, tc2, qs, rfl, rfl, hqs⟩
set_option maxHeartbeats 1000000 in
set_option maxRecDepth 20000 in
theorem equalBuchi (w : World) (b : Bu) (sb eb tb : Option Addr) (sc ec tc : Nat) (vs : List Value) (h : BuAt w b sb eb tb vs) (hB : BuB b) (b2 : Bu) (sb2 eb2 tb2 : Option Addr) (sc2 ec2 tc2 : Nat) (vs2 : List Value) (h2 : BuAt w b2 sb2 eb2 tb2 vs2) :
    PureT Try.prog 25 [.agg (buCells b sb sc eb ec tb tc).toArray, .agg (buCells b2 sb2 sc2 eb2 ec2 tb2 tc2).toArray] w fun v N => v = .bool (decide (b = b2)) ∧ N = [] := by
  refine CallT.enter Try.func25 rfl Try.ntmps25 rfl ?_
  refine T.seq (T.region ?_)
  refine TO.loud rfl (l_box (v := (.agg (buCells b sb sc eb ec tb tc).toArray)) (cs := (buCells b sb sc eb ec tb tc)) rfl rfl (fun bx1 => ?_))
  refine TO.loud rfl (l_box (v := (.agg (buCells b2 sb2 sc2 eb2 ec2 tb2 tc2).toArray)) (cs := (buCells b2 sb2 sc2 eb2 ec2 tb2 tc2)) rfl rfl (fun bx2 => ?_))
  refine TO.quiet (q_assign rfl) ?_
  refine TO.nil (T.seq (T.region ?_))
  refine TO.quiet (q_fieldAddr Try.underlying26 rfl inf3 rfl rfl) (TO.quiet (q_load_box 1 Try.underlying3 rfl rfl rfl rfl) (TO.quiet (q_fieldAddr Try.underlying26 rfl inf3 rfl rfl) (TO.quiet (q_load_box 0 Try.underlying3 rfl rfl rfl rfl) ?_)))
  refine TO.quiet (q_eql rfl rfl) ?_
  by_cases hs10 : b.vars = b2.vars
  · refine TO.quiet (QT.toB (q_move rfl) (decide_eq_true hs10)) ?_
    refine TO.guarded rfl rfl rfl (LT.of_quiet rfl rfl (q_fieldAddr Try.underlying26 rfl inf3 rfl rfl) ?_)
    refine TO.guarded rfl rfl rfl (LT.of_quiet rfl rfl (q_load_box 1 Try.underlying3 rfl rfl rfl rfl) ?_)
    refine TO.guarded rfl rfl rfl (LT.of_quiet rfl rfl (q_fieldAddr Try.underlying26 rfl inf3 rfl rfl) ?_)
    refine TO.guarded rfl rfl rfl (LT.of_quiet rfl rfl (q_load_box 0 Try.underlying3 rfl rfl rfl rfl) ?_)
    refine TO.guarded rfl rfl rfl (LT.of_quiet rfl rfl (q_eql rfl rfl) ?_)
    refine TO.quiet (q_pick1 rfl rfl) ?_
    by_cases hs17 : b.states = b2.states
    · refine TO.quiet (QT.toB (q_move rfl) (decide_eq_true hs17)) ?_
      refine TO.guarded rfl rfl rfl (LT.of_quiet rfl rfl (q_fieldAddr Try.underlying26 rfl inf22 rfl rfl) ?_)
      refine TO.guarded rfl rfl rfl (LT.of_quiet rfl rfl (q_load_box 1 Try.underlying22 rfl rfl rfl rfl) ?_)
      refine TO.guarded rfl rfl rfl (LT.of_quiet rfl rfl (q_fieldAddr Try.underlying26 rfl inf22 rfl rfl) ?_)
      refine TO.guarded rfl rfl rfl (LT.of_quiet rfl rfl (q_load_box 0 Try.underlying22 rfl rfl rfl rfl) ?_)
      by_cases e3 : b.start = b2.start
      · have hk22 := fun (w1 : World) (hI : Inv w [oI bx2 26 (buCells b2 sb2 sc2 eb2 ec2 tb2 tc2), oI bx1 26 (buCells b sb sc eb ec tb tc)] w1) => equalInts w1 sb sb2 sc sc2 b.start b2.start (hI.sl h.st) (hI.sl h2.st) (by have := hB.st; omega)
        refine TO.guarded rfl rfl rfl (l_call ent47 (CallT.of_pure hk22) rfl ?_)
        clear hk22
        rintro vr O' ⟨N, rfl, rfl, rfl⟩
        rw [decide_eq_true e3]
        refine TO.quiet (q_pick1 rfl rfl) (TO.quiet (q_move rfl) ?_)
        refine TO.guarded rfl rfl rfl (LT.of_quiet rfl rfl (q_fieldAddr Try.underlying26 rfl inf23 rfl rfl) ?_)
        refine TO.guarded rfl rfl rfl (LT.of_quiet rfl rfl (q_load_box 1 Try.underlying23 rfl rfl rfl rfl) ?_)
        refine TO.guarded rfl rfl rfl (LT.of_quiet rfl rfl (q_fieldAddr Try.underlying26 rfl inf23 rfl rfl) ?_)
        refine TO.guarded rfl rfl rfl (LT.of_quiet rfl rfl (q_load_box 0 Try.underlying23 rfl rfl rfl rfl) ?_)
        by_cases e4 : b.edges = b2.edges
        · have hk29 := fun (w1 : World) (hI : Inv w [oI bx2 26 (buCells b2 sb2 sc2 eb2 ec2 tb2 tc2), oI bx1 26 (buCells b sb sc eb ec tb tc)] w1) => equalEdges w1 eb eb2 ec ec2 b.edges b2.edges (hI.sl h.ed) (hI.sl h2.ed) hB.ed
          refine TO.guarded rfl rfl rfl (l_call ent66 (CallT.of_pure hk29) rfl ?_)
          clear hk29
          rintro vr O' ⟨N, rfl, rfl, rfl⟩
          rw [decide_eq_true e4]
          refine TO.quiet (q_pick1 rfl rfl) (TO.quiet (q_move rfl) ?_)
          refine TO.guarded rfl rfl rfl (LT.of_quiet rfl rfl (q_fieldAddr Try.underlying26 rfl inf24 rfl rfl) ?_)
          refine TO.guarded rfl rfl rfl (LT.of_quiet rfl rfl (q_load_box 1 Try.underlying24 rfl rfl rfl rfl) ?_)
          refine TO.guarded rfl rfl rfl (LT.of_quiet rfl rfl (q_fieldAddr Try.underlying26 rfl inf24 rfl rfl) ?_)
          refine TO.guarded rfl rfl rfl (LT.of_quiet rfl rfl (q_load_box 0 Try.underlying24 rfl rfl rfl rfl) ?_)
          by_cases e5 : b.sets = b2.sets
          · have hk36 := fun (w1 : World) (hI : Inv w [oI bx2 26 (buCells b2 sb2 sc2 eb2 ec2 tb2 tc2), oI bx1 26 (buCells b sb sc eb ec tb tc)] w1) => equalRows w1 tb tb2 tc tc2 vs vs2 b.sets b2.sets (hI.sl h.out) (hI.rows h.rows) (hI.sl h2.out) (hI.rows h2.rows) (by have := hB.se; omega) (fun r hr => by have := hB.sr r hr; omega)
            refine TO.guarded rfl rfl rfl (l_call ent67 (CallT.of_pure hk36) rfl ?_)
            clear hk36
            rintro vr O' ⟨N, rfl, rfl, rfl⟩
            rw [decide_eq_true e5]
            refine TO.quiet (q_pick1 rfl rfl) (TO.quiet (q_assign rfl) ?_)
            refine TO.nil (T.ret (Res.drop ?_))
            refine Res.one (.bool true) Try.results25 rfl ?_
            refine ⟨[], Sub.of (List.nil_sublist _), congrArg Value.bool (decide_eq_true ?_).symm, rfl⟩
            cases b; cases b2; simp only at hs10 hs17 e3 e4 e5; rw [hs10, hs17, e3, e4, e5]
          have hk36 := fun (w1 : World) (hI : Inv w [oI bx2 26 (buCells b2 sb2 sc2 eb2 ec2 tb2 tc2), oI bx1 26 (buCells b sb sc eb ec tb tc)] w1) => equalRows w1 tb tb2 tc tc2 vs vs2 b.sets b2.sets (hI.sl h.out) (hI.rows h.rows) (hI.sl h2.out) (hI.rows h2.rows) (by have := hB.se; omega) (fun r hr => by have := hB.sr r hr; omega)
          refine TO.guarded rfl rfl rfl (l_call ent67 (CallT.of_pure hk36) rfl ?_)
          clear hk36
          rintro vr O' ⟨N, rfl, rfl, rfl⟩
          rw [decide_eq_false e5]
          refine TO.quiet (q_pick1 rfl rfl) (TO.quiet (q_assign rfl) ?_)
          refine TO.nil (T.ret (Res.drop ?_))
          refine Res.one (.bool false) Try.results25 rfl ?_
          refine ⟨[], Sub.of (List.nil_sublist _), congrArg Value.bool (decide_eq_false (fun e => ?_)).symm, rfl⟩
          subst e; first | exact hs10 rfl | exact hs17 rfl | exact e3 rfl | exact e4 rfl | exact e5 rfl
        have hk29 := fun (w1 : World) (hI : Inv w [oI bx2 26 (buCells b2 sb2 sc2 eb2 ec2 tb2 tc2), oI bx1 26 (buCells b sb sc eb ec tb tc)] w1) => equalEdges w1 eb eb2 ec ec2 b.edges b2.edges (hI.sl h.ed) (hI.sl h2.ed) hB.ed
        refine TO.guarded rfl rfl rfl (l_call ent66 (CallT.of_pure hk29) rfl ?_)
        clear hk29
        rintro vr O' ⟨N, rfl, rfl, rfl⟩
        rw [decide_eq_false e4]
        refine TO.quiet (q_pick1 rfl rfl) (TO.quiet (q_move rfl) ?_)
        refine TO.passed rfl rfl ?_
        refine TO.passed rfl rfl ?_
        refine TO.passed rfl rfl ?_
        refine TO.passed rfl rfl ?_
        refine TO.passed rfl rfl ?_
        refine TO.quiet (q_pick0 rfl rfl) (TO.quiet (q_assign rfl) ?_)
        refine TO.nil (T.ret (Res.drop ?_))
        refine Res.one (.bool false) Try.results25 rfl ?_
        refine ⟨[], Sub.of (List.nil_sublist _), congrArg Value.bool (decide_eq_false (fun e => ?_)).symm, rfl⟩
        subst e; first | exact hs10 rfl | exact hs17 rfl | exact e3 rfl | exact e4 rfl | exact e5 rfl
      have hk22 := fun (w1 : World) (hI : Inv w [oI bx2 26 (buCells b2 sb2 sc2 eb2 ec2 tb2 tc2), oI bx1 26 (buCells b sb sc eb ec tb tc)] w1) => equalInts w1 sb sb2 sc sc2 b.start b2.start (hI.sl h.st) (hI.sl h2.st) (by have := hB.st; omega)
      refine TO.guarded rfl rfl rfl (l_call ent47 (CallT.of_pure hk22) rfl ?_)
      clear hk22
      rintro vr O' ⟨N, rfl, rfl, rfl⟩
      rw [decide_eq_false e3]
      refine TO.quiet (q_pick1 rfl rfl) (TO.quiet (q_move rfl) ?_)
      refine TO.passed rfl rfl ?_
      refine TO.passed rfl rfl ?_
      refine TO.passed rfl rfl ?_
      refine TO.passed rfl rfl ?_
      refine TO.passed rfl rfl ?_
      refine TO.quiet (q_pick0 rfl rfl) (TO.quiet (q_move rfl) ?_)
      refine TO.passed rfl rfl ?_
      refine TO.passed rfl rfl ?_
      refine TO.passed rfl rfl ?_
      refine TO.passed rfl rfl ?_
      refine TO.passed rfl rfl ?_
      refine TO.quiet (q_pick0 rfl rfl) (TO.quiet (q_assign rfl) ?_)
      refine TO.nil (T.ret (Res.drop ?_))
      refine Res.one (.bool false) Try.results25 rfl ?_
      refine ⟨[], Sub.of (List.nil_sublist _), congrArg Value.bool (decide_eq_false (fun e => ?_)).symm, rfl⟩
      subst e; first | exact hs10 rfl | exact hs17 rfl | exact e3 rfl | exact e4 rfl | exact e5 rfl
    refine TO.quiet (QT.toB (q_move rfl) (decide_eq_false hs17)) ?_
    refine TO.passed rfl rfl ?_
    refine TO.passed rfl rfl ?_
    refine TO.passed rfl rfl ?_
    refine TO.passed rfl rfl ?_
    refine TO.passed rfl rfl ?_
    refine TO.quiet (q_pick0 rfl rfl) (TO.quiet (q_move rfl) ?_)
    refine TO.passed rfl rfl ?_
    refine TO.passed rfl rfl ?_
    refine TO.passed rfl rfl ?_
    refine TO.passed rfl rfl ?_
    refine TO.passed rfl rfl ?_
    refine TO.quiet (q_pick0 rfl rfl) (TO.quiet (q_move rfl) ?_)
    refine TO.passed rfl rfl ?_
    refine TO.passed rfl rfl ?_
    refine TO.passed rfl rfl ?_
    refine TO.passed rfl rfl ?_
    refine TO.passed rfl rfl ?_
    refine TO.quiet (q_pick0 rfl rfl) (TO.quiet (q_assign rfl) ?_)
    refine TO.nil (T.ret (Res.drop ?_))
    refine Res.one (.bool false) Try.results25 rfl ?_
    refine ⟨[], Sub.of (List.nil_sublist _), congrArg Value.bool (decide_eq_false (fun e => ?_)).symm, rfl⟩
    subst e; first | exact hs10 rfl | exact hs17 rfl | exact e3 rfl | exact e4 rfl | exact e5 rfl
  refine TO.quiet (QT.toB (q_move rfl) (decide_eq_false hs10)) ?_
  refine TO.passed rfl rfl ?_
  refine TO.passed rfl rfl ?_
  refine TO.passed rfl rfl ?_
  refine TO.passed rfl rfl ?_
  refine TO.passed rfl rfl ?_
  refine TO.quiet (q_pick0 rfl rfl) (TO.quiet (q_move rfl) ?_)
  refine TO.passed rfl rfl ?_
  refine TO.passed rfl rfl ?_
  refine TO.passed rfl rfl ?_
  refine TO.passed rfl rfl ?_
  refine TO.passed rfl rfl ?_
  refine TO.quiet (q_pick0 rfl rfl) (TO.quiet (q_move rfl) ?_)
  refine TO.passed rfl rfl ?_
  refine TO.passed rfl rfl ?_
  refine TO.passed rfl rfl ?_
  refine TO.passed rfl rfl ?_
  refine TO.passed rfl rfl ?_
  refine TO.quiet (q_pick0 rfl rfl) (TO.quiet (q_move rfl) ?_)
  refine TO.passed rfl rfl ?_
  refine TO.passed rfl rfl ?_
  refine TO.passed rfl rfl ?_
  refine TO.passed rfl rfl ?_
  refine TO.passed rfl rfl ?_
  refine TO.quiet (q_pick0 rfl rfl) (TO.quiet (q_assign rfl) ?_)
  refine TO.nil (T.ret (Res.drop ?_))
  refine Res.one (.bool false) Try.results25 rfl ?_
  refine ⟨[], Sub.of (List.nil_sublist _), congrArg Value.bool (decide_eq_false (fun e => ?_)).symm, rfl⟩
  subst e; first | exact hs10 rfl | exact hs17 rfl | exact e3 rfl | exact e4 rfl | exact e5 rfl
set_option maxHeartbeats 1000000 in
set_option maxRecDepth 20000 in
theorem statesF (w : World) (b : Option Addr) (c : Nat) (xs : List Int) (n : Int) (h : Sl w b (ints xs)) (hb : xs.length ≤ 1000000) :
    PureT Try.prog 64 [.slice b xs.length c, .int .i64 n] w fun v N => v = .bool (rises n (-1) xs) ∧ N = [] := by
  refine CallT.enter Try.func64 rfl Try.ntmps64 rfl ?_
  refine T.seq (T.region ?_)
  refine TO.quiet (q_assign rfl) ?_
  refine TO.nil (T.seq (T.region ?_))
  refine TO.quiet (q_assign rfl) ?_
  refine TO.nil (T.seq (T.seq (T.region ?_)))
  refine TO.quiet (q_move rfl) (TO.quiet (q_len Try.underlying22 rfl) (TO.quiet (q_move rfl) ?_))
  refine TO.nil (T.block ?_)
  refine T.loop (fun (k : Nat) ρ O => ∃ (a : Int), O = [] ∧ k ≤ xs.length ∧ rises n a (xs.drop k) = rises n (-1) xs ∧ Heads [(0, (.slice b xs.length c)), (1, .int .i64 n), (5, .int .i64 a), (8, (.slice b xs.length c)), (9, .int .i64 (xs.length : Int)), (10, .int .i64 (k : Int))] ρ) (fun k => xs.length - k) 0 ?_ ?_
  · exact ⟨-1, rfl, Nat.zero_le _, rfl, ⟨rfl, rfl, rfl, rfl, rfl, rfl, trivial⟩⟩
  rintro k ρ O ⟨a, rfl, hk, hr, hH⟩
  obtain ⟨ρ0, rfl⟩ := hH.elim
  clear hH
  refine T.seq (T.region ?_)
  refine TO.quiet (q_lss rfl rfl) ?_
  refine TO.nil (T.seq ?_)
  refine T.condP rfl (fun hc => ?_) (fun hc => ?_)
  · have hlt11 : k < xs.length := by omega
    refine T.skip (T.seq (T.block (T.seq (T.region ?_))))
    refine TO.quiet (q_ix (i := k) Try.underlying22 inf3 rfl rfl (Sl.o h)) (TO.quiet (q_ld Try.underlying3 rfl rfl (Sl.o h) ints_get) (TO.quiet (q_assign rfl) ?_))
    refine TO.nil (T.seq (T.seq (T.region ?_)))
    refine TO.quiet (q_move rfl) (TO.quiet (q_move rfl) (TO.quiet (q_leq rfl rfl) ?_))
    by_cases hs17 : xs[k] ≤ a
    · refine TO.quiet (QT.toB (q_move rfl) (decide_eq_true hs17)) ?_
      refine TO.passed rfl rfl ?_
      refine TO.passed rfl rfl ?_
      refine TO.passed rfl rfl ?_
      refine TO.quiet (q_pick1 rfl rfl) ?_
      refine TO.nil ?_
      refine T.cond1 rfl ?_
      refine T.seq (T.region ?_)
      refine TO.quiet (q_assign rfl) ?_
      refine TO.nil (T.ret ?_)
      refine Res.one (.bool false) Try.results64 rfl ?_
      exact ⟨congrArg Value.bool (by rw [← hr, rises_no hlt11 (by omega)]), rfl⟩
    refine TO.quiet (QT.toB (q_move rfl) (decide_eq_false hs17)) ?_
    refine TO.guarded rfl rfl rfl (LT.of_quiet rfl rfl (q_move rfl) ?_)
    refine TO.guarded rfl rfl rfl (LT.of_quiet rfl rfl (q_move rfl) ?_)
    refine TO.guarded rfl rfl rfl (LT.of_quiet rfl rfl (q_geq rfl rfl) ?_)
    refine TO.quiet (q_pick0 rfl rfl) ?_
    refine TO.nil ?_
    refine T.condP rfl (fun hc => ?_) (fun hc => ?_)
    · refine T.seq ?_
      refine T.region ?_
      refine TO.quiet (q_assign rfl) ?_
      refine TO.nil (T.ret ?_)
      refine Res.one (.bool false) Try.results64 rfl ?_
      exact ⟨congrArg Value.bool (by rw [← hr, rises_no hlt11 (by omega)]), rfl⟩
    refine T.skip (T.region ?_)
    refine TO.quiet (q_move rfl) (TO.quiet (q_assign rfl) ?_)
    refine TO.nil (T.region ?_)
    refine TO.quiet (q_addN (a := k) (b := 1) rfl rfl (by omega)) (TO.quiet (q_move rfl) ?_)
    refine TO.nil ?_
    exact ⟨k + 1, by omega, xs[k], rfl, by omega, by rw [← hr, rises_yes hlt11 (by omega) (by omega)], ⟨rfl, rfl, rfl, rfl, rfl, rfl, trivial⟩⟩
  have hge11 : ¬ k < xs.length := by omega
  refine T.exit ?_
  refine T.seq (T.region ?_)
  refine TO.quiet (q_assign rfl) ?_
  refine TO.nil (T.ret ?_)
  refine Res.one (.bool true) Try.results64 rfl ?_
  exact ⟨congrArg Value.bool (by rw [← hr, rises_end (by omega)]), rfl⟩
set_option maxHeartbeats 1000000 in
set_option maxRecDepth 20000 in
theorem risesF (w : World) (b : Option Addr) (c : Nat) (xs : List Int) (n : Int) (h : Sl w b (ints xs)) (hb : xs.length ≤ 1000000) :
    PureT Try.prog 65 [.slice b xs.length c, .int .i64 n] w fun v N => v = .bool (rises n (-1) xs) ∧ N = [] := by
  refine CallT.enter Try.func65 rfl Try.ntmps65 rfl ?_
  refine T.seq (T.region ?_)
  refine TO.quiet (q_assign rfl) ?_
  refine TO.nil (T.seq (T.seq (T.region ?_)))
  refine TO.quiet (q_assign rfl) ?_
  refine TO.nil (T.block ?_)
  refine T.loop (fun (k : Nat) ρ O => ∃ (a : Int), O = [] ∧ k ≤ xs.length ∧ rises n a (xs.drop k) = rises n (-1) xs ∧ (k = 0 → a = -1) ∧ (0 < k → 0 ≤ a ∧ xs[k - 1]? = some a) ∧ Heads [(0, (.slice b xs.length c)), (1, .int .i64 n), (5, .int .i64 (k : Int))] ρ) (fun k => xs.length - k) 0 ?_ ?_
  · exact ⟨-1, rfl, Nat.zero_le _, rfl, fun _ => rfl, fun h => absurd h (by omega), ⟨rfl, rfl, rfl, trivial⟩⟩
  rintro k ρ O ⟨a, rfl, hk, hr, h0, h1, hH⟩
  obtain ⟨ρ0, rfl⟩ := hH.elim
  clear hH
  refine T.seq (T.seq (T.region ?_))
  refine TO.quiet (q_move rfl) (TO.quiet (q_move rfl) (TO.quiet (q_len Try.underlying22 rfl) (TO.quiet (q_lss rfl rfl) ?_)))
  refine TO.nil ?_
  refine T.condP rfl (fun hc => ?_) (fun hc => ?_)
  · have hlt9 : k < xs.length := by omega
    refine T.skip (T.seq (T.block (T.seq ?_)))
    refine T.draws _ [(0, 0), (1, 0), (2, 0), (3, 0), (4, 0), (5, 0), (6, 0), (7, 0), (8, 0), (9, 0), (10, 0), (11, 0), (12, 0), (13, 0), (14, 0), (15, 0), (16, 0), (17, 0), (18, 0), (19, 0), (20, 0), (21, 0), (22, 0), (23, 0), (24, 0), (25, 0), (26, 0), (27, 0), (28, 0)] mixed (by kernel_rfl) (Sub.of (List.Sublist.refl _)) (fun _ _ _ h => h) ?_
    refine DO.quiet rfl (q_move rfl) (DO.quiet rfl (q_move rfl) (DO.quiet rfl (q_ix (i := k) Try.underlying22 inf3 rfl rfl (Sl.o h)) (DO.quiet rfl (q_ld Try.underlying3 rfl rfl (Sl.o h) ints_get) ?_)))
    refine DO.quiet rfl (q_lss rfl rfl) ?_
    by_cases hs17 : xs[k] < 0
    · refine DO.quiet rfl (QT.toB (q_move rfl) (decide_eq_true hs17)) ?_
      refine DO.passed rfl rfl rfl ?_
      refine DO.passed rfl rfl rfl ?_
      refine DO.passed rfl rfl rfl ?_
      refine DO.passed rfl rfl rfl ?_
      refine DO.passed rfl rfl rfl ?_
      refine DO.passed rfl rfl rfl ?_
      refine DO.quiet rfl (q_pick1 rfl rfl) (DO.quiet rfl (q_move rfl) ?_)
      refine DO.passed rfl rfl rfl ?_
      refine DO.passed rfl rfl rfl ?_
      refine DO.passed rfl rfl rfl ?_
      refine DO.passed rfl rfl rfl ?_
      refine DO.passed rfl rfl rfl ?_
      refine DO.passed rfl rfl rfl ?_
      refine DO.passed rfl rfl rfl ?_
      refine DO.passed rfl rfl rfl ?_
      refine DO.passed rfl rfl rfl ?_
      refine DO.passed rfl rfl rfl ?_
      refine DO.passed rfl rfl rfl ?_
      refine DO.passed rfl rfl rfl ?_
      refine DO.passed rfl rfl rfl ?_
      refine DO.passed rfl rfl rfl ?_
      refine DO.quiet rfl (q_pick1 rfl rfl) ?_
      refine DO.done ?_
      refine T.cond1 rfl ?_
      refine T.seq (T.region ?_)
      refine TO.quiet (q_assign rfl) ?_
      refine TO.nil (T.ret ?_)
      refine Res.one (.bool false) Try.results65 rfl ?_
      have hno : xs[k] ≤ a ∨ n ≤ xs[k] := by
        by_cases e : k = 0
        · have := h0 e; omega
        · have h2 := (h1 (by omega)).2
          rw [List.getElem?_eq_getElem (by omega)] at h2
          have h3 := Option.some.inj h2
          have := (h1 (by omega)).1; omega
      exact ⟨congrArg Value.bool (by rw [← hr, rises_no hlt9 hno]), rfl⟩
    refine DO.quiet rfl (QT.toB (q_move rfl) (decide_eq_false hs17)) ?_
    refine DO.guarded rfl rfl rfl (q_move rfl) ?_
    refine DO.guarded rfl rfl rfl (q_move rfl) ?_
    refine DO.guarded rfl rfl rfl (q_ix (i := k) Try.underlying22 inf3 rfl rfl (Sl.o h)) ?_
    refine DO.guarded rfl rfl rfl (q_ld Try.underlying3 rfl rfl (Sl.o h) ints_get) ?_
    refine DO.guarded rfl rfl rfl (q_move rfl) ?_
    refine DO.guarded rfl rfl rfl (q_geq rfl rfl) ?_
    refine DO.quiet rfl (q_pick0 rfl rfl) ?_
    by_cases hs25 : xs[k] ≥ n
    · refine DO.quiet rfl (QT.toB (q_move rfl) (decide_eq_true hs25)) ?_
      refine DO.passed rfl rfl rfl ?_
      refine DO.passed rfl rfl rfl ?_
      refine DO.passed rfl rfl rfl ?_
      refine DO.passed rfl rfl rfl ?_
      refine DO.passed rfl rfl rfl ?_
      refine DO.passed rfl rfl rfl ?_
      refine DO.passed rfl rfl rfl ?_
      refine DO.passed rfl rfl rfl ?_
      refine DO.passed rfl rfl rfl ?_
      refine DO.passed rfl rfl rfl ?_
      refine DO.passed rfl rfl rfl ?_
      refine DO.passed rfl rfl rfl ?_
      refine DO.passed rfl rfl rfl ?_
      refine DO.passed rfl rfl rfl ?_
      refine DO.quiet rfl (q_pick1 rfl rfl) ?_
      refine DO.done ?_
      refine T.cond1 rfl ?_
      refine T.seq (T.region ?_)
      refine TO.quiet (q_assign rfl) ?_
      refine TO.nil (T.ret ?_)
      refine Res.one (.bool false) Try.results65 rfl ?_
      have hno : xs[k] ≤ a ∨ n ≤ xs[k] := by
        by_cases e : k = 0
        · have := h0 e; omega
        · have h2 := (h1 (by omega)).2
          rw [List.getElem?_eq_getElem (by omega)] at h2
          have h3 := Option.some.inj h2
          have := (h1 (by omega)).1; omega
      exact ⟨congrArg Value.bool (by rw [← hr, rises_no hlt9 hno]), rfl⟩
    refine DO.quiet rfl (QT.toB (q_move rfl) (decide_eq_false hs25)) ?_
    refine DO.guarded rfl rfl rfl (q_move rfl) ?_
    refine DO.guarded rfl rfl rfl (q_gtr rfl rfl) ?_
    by_cases hs28 : (k : Int) > 0
    · refine DO.guarded rfl rfl rfl (QT.toB (q_move rfl) (decide_eq_true hs28)) ?_
      refine DO.guarded rfl rfl rfl (q_move rfl) ?_
      refine DO.guarded rfl rfl rfl (q_move rfl) ?_
      refine DO.guarded rfl rfl rfl (q_ix (i := k) Try.underlying22 inf3 rfl rfl (Sl.o h)) ?_
      refine DO.guarded rfl rfl rfl (q_ld Try.underlying3 rfl rfl (Sl.o h) ints_get) ?_
      refine DO.guarded rfl rfl rfl (q_move rfl) ?_
      refine DO.guarded rfl rfl rfl (q_move rfl) ?_
      refine DO.guarded rfl rfl rfl (q_subN (a := k) (b := 1) rfl rfl (by omega) (by omega)) ?_
      refine DO.guarded rfl rfl rfl (q_ix (i := (k - 1)) Try.underlying22 inf3 rfl rfl (Sl.o h)) ?_
      refine DO.guarded rfl rfl rfl (q_ld Try.underlying3 rfl rfl (Sl.o h) ints_get) ?_
      refine DO.guarded rfl rfl rfl (q_leq rfl rfl) ?_
      refine DO.guarded rfl rfl rfl (q_pick1 rfl rfl) ?_
      refine DO.quiet rfl (q_pick0 rfl rfl) ?_
      refine DO.done ?_
      refine T.condP rfl (fun hc => ?_) (fun hc => ?_)
      · refine T.seq ?_
        refine T.region ?_
        refine TO.quiet (q_assign rfl) ?_
        refine TO.nil (T.ret ?_)
        refine Res.one (.bool false) Try.results65 rfl ?_
        have hno : xs[k] ≤ a ∨ n ≤ xs[k] := by
          by_cases e : k = 0
          · have := h0 e; omega
          · have h2 := (h1 (by omega)).2
            rw [List.getElem?_eq_getElem (by omega)] at h2
            have h3 := Option.some.inj h2
            have := (h1 (by omega)).1; omega
        exact ⟨congrArg Value.bool (by rw [← hr, rises_no hlt9 hno]), rfl⟩
      refine T.skip (T.region ?_)
      refine TO.quiet (q_move rfl) (TO.quiet (q_addN (a := k) (b := 1) rfl rfl (by omega)) (TO.quiet (q_assign rfl) ?_))
      refine TO.nil ?_
      have hxk : xs[k] < n := by omega
      have hak : a < xs[k] := by
        by_cases e : k = 0
        · have := h0 e; omega
        · have h2 := (h1 (by omega)).2
          rw [List.getElem?_eq_getElem (by omega)] at h2
          have h3 := Option.some.inj h2; omega
      exact ⟨k + 1, by omega, xs[k], rfl, by omega, by rw [← hr, rises_yes hlt9 hak hxk], fun h => absurd h (by omega), fun _ => ⟨by omega, by rw [Nat.add_sub_cancel, List.getElem?_eq_getElem hlt9]⟩, ⟨rfl, rfl, rfl, trivial⟩⟩
    refine DO.guarded rfl rfl rfl (QT.toB (q_move rfl) (decide_eq_false hs28)) ?_
    refine DO.passed rfl rfl rfl ?_
    refine DO.passed rfl rfl rfl ?_
    refine DO.passed rfl rfl rfl ?_
    refine DO.passed rfl rfl rfl ?_
    refine DO.passed rfl rfl rfl ?_
    refine DO.passed rfl rfl rfl ?_
    refine DO.passed rfl rfl rfl ?_
    refine DO.passed rfl rfl rfl ?_
    refine DO.passed rfl rfl rfl ?_
    refine DO.passed rfl rfl rfl ?_
    refine DO.guarded rfl rfl rfl (q_pick0 rfl rfl) ?_
    refine DO.quiet rfl (q_pick0 rfl rfl) ?_
    refine DO.done ?_
    refine T.cond0 rfl ?_
    refine T.skip (T.region ?_)
    refine TO.quiet (q_move rfl) (TO.quiet (q_addN (a := k) (b := 1) rfl rfl (by omega)) (TO.quiet (q_assign rfl) ?_))
    refine TO.nil ?_
    have hxk : xs[k] < n := by omega
    have hak : a < xs[k] := by
      by_cases e : k = 0
      · have := h0 e; omega
      · have h2 := (h1 (by omega)).2
        rw [List.getElem?_eq_getElem (by omega)] at h2
        have h3 := Option.some.inj h2; omega
    exact ⟨k + 1, by omega, xs[k], rfl, by omega, by rw [← hr, rises_yes hlt9 hak hxk], fun h => absurd h (by omega), fun _ => ⟨by omega, by rw [Nat.add_sub_cancel, List.getElem?_eq_getElem hlt9]⟩, ⟨rfl, rfl, rfl, trivial⟩⟩
  have hge9 : ¬ k < xs.length := by omega
  refine T.exit ?_
  refine T.seq (T.region ?_)
  refine TO.quiet (q_assign rfl) ?_
  refine TO.nil (T.ret ?_)
  refine Res.one (.bool true) Try.results65 rfl ?_
  exact ⟨congrArg Value.bool (by rw [← hr, rises_end (by omega)]), rfl⟩
end Go.Proofs.Ytnamoapbienooaa


namespace Go.Proofs.Ytnamoapbienooaa
open Go.Lx Go.RowKit
set_option linter.unusedVariables false
set_option linter.unusedSimpArgs false
set_option maxHeartbeats 1000000 in
set_option maxRecDepth 20000 in
theorem checkF (w : World) (b : Bu) (sb eb tb : Option Addr) (sc ec tc : Nat) (vs : List Value) (h : BuAt w b sb eb tb vs) (hB : BuB b) :
    PureT Try.prog 21 [.agg (buCells b sb sc eb ec tb tc).toArray] w fun v N => v = .int .i64 (checkB b : Int) ∧ N = [] := by
  refine CallT.enter Try.func21 rfl Try.ntmps21 rfl ?_
  have hst := hB.st; have hed := hB.ed; have hse := hB.se
  have hR : RowsR w (.slice sb b.start.length sc :: vs) (b.start :: b.sets) := h.rows.cons h.st
  have hvl := h.rows.1
  refine T.seq (T.region ?_)
  refine TO.loud rfl (l_box (v := (.agg (buCells b sb sc eb ec tb tc).toArray)) (cs := (buCells b sb sc eb ec tb tc)) rfl rfl (fun bx1 => ?_))
  refine TO.quiet (q_assign rfl) ?_
  refine TO.nil (T.seq (T.block (T.seq (T.region ?_))))
  refine TO.quiet (q_fieldAddr Try.underlying26 rfl inf3 rfl rfl) (TO.quiet (q_load_box 0 Try.underlying3 rfl rfl rfl rfl) (TO.quiet (q_lss rfl rfl) ?_))
  by_cases hs11 : b.vars < 0
  · refine TO.quiet (QT.toB (q_move rfl) (decide_eq_true hs11)) ?_
    refine TO.passed rfl rfl ?_
    refine TO.passed rfl rfl ?_
    refine TO.passed rfl rfl ?_
    refine TO.quiet (q_pick1 rfl rfl) (TO.quiet (q_assign rfl) ?_)
    refine TO.nil ?_
    refine T.cond1 rfl ?_
    refine T.seq (T.region ?_)
    refine TO.quiet (q_assign rfl) ?_
    refine TO.nil (T.ret (Res.drop ?_))
    refine Res.one (.int .i64 7) Try.results21 rfl ?_
    refine ⟨[], Sub.of (List.nil_sublist _), congrArg (fun z : Nat => Value.int .i64 (z : Int)) (Eq.symm (a := checkB b) (b := 7) ?_), rfl⟩
    exact checkB_7 (by omega)
  refine TO.quiet (QT.toB (q_move rfl) (decide_eq_false hs11)) ?_
  refine TO.guarded rfl rfl rfl (LT.of_quiet rfl rfl (q_fieldAddr Try.underlying26 rfl inf3 rfl rfl) ?_)
  refine TO.guarded rfl rfl rfl (LT.of_quiet rfl rfl (q_load_box 0 Try.underlying3 rfl rfl rfl rfl) ?_)
  refine TO.guarded rfl rfl rfl (LT.of_quiet rfl rfl (q_gtr rfl rfl) ?_)
  refine TO.quiet (q_pick0 rfl rfl) (TO.quiet (q_assign rfl) ?_)
  refine TO.nil ?_
  refine T.condP rfl (fun hc => ?_) (fun hc => ?_)
  · refine T.seq ?_
    refine T.region ?_
    refine TO.quiet (q_assign rfl) ?_
    refine TO.nil (T.ret (Res.drop ?_))
    refine Res.one (.int .i64 7) Try.results21 rfl ?_
    refine ⟨[], Sub.of (List.nil_sublist _), congrArg (fun z : Nat => Value.int .i64 (z : Int)) (Eq.symm (a := checkB b) (b := 7) ?_), rfl⟩
    exact checkB_7 (by omega)
  refine T.seq (T.region ?_)
  refine TO.quiet (q_fieldAddr Try.underlying26 rfl inf3 rfl rfl) (TO.quiet (q_load_box 0 Try.underlying3 rfl rfl rfl rfl) (TO.quiet (q_lss rfl rfl) (TO.quiet (q_assign rfl) ?_)))
  refine TO.nil ?_
  refine T.condP rfl (fun hc => ?_) (fun hc => ?_)
  · refine T.seq ?_
    refine T.region ?_
    refine TO.quiet (q_assign rfl) ?_
    refine TO.nil (T.ret (Res.drop ?_))
    refine Res.one (.int .i64 1) Try.results21 rfl ?_
    refine ⟨[], Sub.of (List.nil_sublist _), congrArg (fun z : Nat => Value.int .i64 (z : Int)) (Eq.symm (a := checkB b) (b := 1) ?_), rfl⟩
    exact checkB_1 (by omega) (by omega)
  refine T.seq (T.region ?_)
  refine TO.quiet (q_fieldAddr Try.underlying26 rfl inf3 rfl rfl) (TO.quiet (q_load_box 0 Try.underlying3 rfl rfl rfl rfl) (TO.quiet (q_gtr rfl rfl) (TO.quiet (q_assign rfl) ?_)))
  refine TO.nil ?_
  refine T.condP rfl (fun hc => ?_) (fun hc => ?_)
  · refine T.seq ?_
    refine T.region ?_
    refine TO.quiet (q_assign rfl) ?_
    refine TO.nil (T.ret (Res.drop ?_))
    refine Res.one (.int .i64 10) Try.results21 rfl ?_
    refine ⟨[], Sub.of (List.nil_sublist _), congrArg (fun z : Nat => Value.int .i64 (z : Int)) (Eq.symm (a := checkB b) (b := 10) ?_), rfl⟩
    exact checkB_10 (by omega) (by omega) (by omega)
  refine T.seq (T.region ?_)
  refine TO.quiet (q_fieldAddr Try.underlying26 rfl inf24 rfl rfl) (TO.quiet (q_load_box 0 Try.underlying24 rfl rfl rfl rfl) (TO.quiet (q_len Try.underlying24 rfl) (TO.quiet (q_gtr rfl rfl) ?_)))
  refine TO.quiet (q_assign rfl) ?_
  refine TO.nil ?_
  refine T.condP rfl (fun hc => ?_) (fun hc => ?_)
  · have hlt24 : b.sets.length > 8 := by omega
    refine T.seq (T.region ?_)
    refine TO.quiet (q_assign rfl) ?_
    refine TO.nil (T.ret (Res.drop ?_))
    refine Res.one (.int .i64 4) Try.results21 rfl ?_
    refine ⟨[], Sub.of (List.nil_sublist _), congrArg (fun z : Nat => Value.int .i64 (z : Int)) (Eq.symm (a := checkB b) (b := 4) ?_), rfl⟩
    exact checkB_4 (by omega) (by omega) (by omega) (by omega)
  have hge24 : ¬ b.sets.length > 8 := by omega
  refine T.skip (T.seq (T.seq (T.region ?_)))
  refine TO.quiet (q_fieldAddr Try.underlying26 rfl inf22 rfl rfl) (TO.quiet (q_load_box 0 Try.underlying22 rfl rfl rfl rfl) ?_)
  refine TO.loud rfl (l_build1 (v := (.slice sb b.start.length sc)) Try.underlying24 inf22 rfl rfl rfl (fun bx2 => ?_))
  refine TO.quiet (q_fieldAddr Try.underlying26 rfl inf24 rfl rfl) (TO.quiet (q_load_box 1 Try.underlying24 rfl rfl rfl rfl) ?_)
  refine TO.loud rfl (l_append 0 Try.underlying24 Try.underlying24 inf22 rfl rfl rfl rfl (by simp) (by decide) (Src.sl h.out (by rw [hvl]; simp)) (RowsR.one h.rows) (by omega) (by decide) (by decide) (fun bx3 c4 => ?_))
  refine TO.quiet (q_len Try.underlying24 rfl) (TO.quiet (q_move rfl) ?_)
  refine TO.nil (T.block ?_)
  have hR1 : ∀ r ∈ b.start :: b.sets, r.length ≤ 1000000 := fun r hr => by
    rcases List.mem_cons.1 hr with rfl | hr
    · exact hst
    · exact hB.sr r hr
  refine T.loop (fun (k : Nat) ρ O => O = [rowI bx3 c4 22 1 ([(.slice sb b.start.length sc)] ++ vs), oI bx1 26 (buCells b sb sc eb ec tb tc)] ∧ k ≤ 1 + b.sets.length ∧ ((b.start :: b.sets).take k).all (rises b.states (-1)) = true ∧ Heads [(0, (.agg (buCells b sb sc eb ec tb tc).toArray)), (1, (.pointer (some ⟨bx1, 0, none⟩))), (7, .bool (decide (b.vars > 6))), (16, .bool (decide (b.states < 0))), (20, .bool (decide (b.states > 4096))), (24, .bool (decide ((b.sets.length : Int) > 8))), (34, (.slice bx3 (1 + b.sets.length) c4)), (35, .int .i64 (1 + b.sets.length : Int)), (36, .int .i64 (k : Int))] ρ) (fun k => (1 + b.sets.length) - k) 0 ?_ ?_
  · exact ⟨rfl, Nat.zero_le _, rfl, ⟨rfl, rfl, rfl, rfl, rfl, rfl, rfl, rfl, rfl, trivial⟩⟩
  rintro k ρ O ⟨rfl, hk, hall, hH⟩
  obtain ⟨ρ0, rfl⟩ := hH.elim
  clear hH
  refine T.seq (T.region ?_)
  refine TO.quiet (q_lss rfl rfl) ?_
  refine TO.nil (T.seq ?_)
  refine T.condP rfl (fun hc => ?_) (fun hc => ?_)
  · have hlt37 : k < 1 + b.sets.length := by omega
    have hkl : k < (b.start :: b.sets).length := by simp; omega
    obtain ⟨rb, rc, g1, s1⟩ := hR.get hkl
    refine T.skip (T.seq (T.block (T.seq (T.region ?_))))
    refine TO.quiet (q_ix (i := k) Try.underlying24 inf22 rfl rfl (rowO (List.mem_of_getElem? (i := 0) rfl)) (by first | assumption | omega | (simp; omega) | simp_all) (by show k < (Value.slice sb b.start.length sc :: vs).length; rw [hR.1]; exact hkl)) (TO.quiet (q_ld Try.underlying22 rfl rfl (rowO (List.mem_of_getElem? (i := 0) rfl)) g1) (TO.quiet (q_assign rfl) ?_))
    refine TO.nil (T.seq (T.region ?_))
    refine TO.quiet (q_move rfl) (TO.quiet (q_fieldAddr Try.underlying26 rfl inf3 rfl rfl) (TO.quiet (q_load_box 1 Try.underlying3 rfl rfl rfl rfl) ?_))
    have hk43 := fun (w1 : World) (hI : Inv w [rowI bx3 c4 22 1 ([(.slice sb b.start.length sc)] ++ vs), oI bx1 26 (buCells b sb sc eb ec tb tc)] w1) => statesF w1 rb rc (b.start :: b.sets)[k] b.states (hI.sl s1) (hR1 _ (List.getElem_mem hkl))
    refine TO.loud rfl (l_call ent64 (CallT.of_pure hk43) rfl ?_)
    clear hk43
    rintro vr O' ⟨N, rfl, rfl, rfl⟩
    refine TO.quiet (q_not rfl) ?_
    refine TO.nil ?_
    refine T.cond rfl (fun hc => ?_) (fun hc => ?_)
    · refine T.seq ?_
      refine T.region ?_
      refine TO.quiet (q_assign rfl) ?_
      refine TO.nil (T.ret (Res.drop ?_))
      refine Res.one (.int .i64 8) Try.results21 rfl ?_
      refine ⟨[], Sub.of (List.nil_sublist _), congrArg (fun z : Nat => Value.int .i64 (z : Int)) (Eq.symm (a := checkB b) (b := 8) ?_), rfl⟩
      exact checkB_8 (by omega) (by omega) (by omega) (by omega) (all_no hkl (by simpa using hc))
    refine T.skip (T.region ?_)
    refine TO.quiet (q_addN (a := k) (b := 1) rfl rfl (by omega)) (TO.quiet (q_move rfl) ?_)
    refine TO.nil ?_
    exact ⟨k + 1, by omega, rfl, by omega, all_snoc hkl hall (by simpa using hc), ⟨rfl, rfl, rfl, rfl, rfl, rfl, rfl, rfl, rfl, trivial⟩⟩
  have hge37 : ¬ k < 1 + b.sets.length := by omega
  refine T.exit ?_
  refine T.seq (T.seq (T.region ?_))
  refine TO.quiet (q_fieldAddr Try.underlying26 rfl inf23 rfl rfl) (TO.quiet (q_load_box 1 Try.underlying23 rfl rfl rfl rfl) (TO.quiet (q_len Try.underlying23 rfl) (TO.quiet (q_move rfl) ?_)))
  refine TO.nil (T.block ?_)
  refine T.sub (O' := [oI bx1 26 (buCells b sb sc eb ec tb tc)]) (Sub.pick [1] rfl) ?_
  refine T.loopS (fun (j : Nat) ρ O => O = [oI bx1 26 (buCells b sb sc eb ec tb tc)] ∧ j ≤ b.edges.length ∧ edgesE b.states b.vars.toNat (b.edges.drop j) = checkB b ∧ Heads [(0, (.agg (buCells b sb sc eb ec tb tc).toArray)), (1, (.pointer (some ⟨bx1, 0, none⟩))), (7, .bool (decide (b.vars > 6))), (16, .bool (decide (b.states < 0))), (20, .bool (decide (b.states > 4096))), (24, .bool (decide ((b.sets.length : Int) > 8))), (47, (.slice eb b.edges.length ec)), (48, .int .i64 (b.edges.length : Int)), (49, .int .i64 (j : Int))] ρ) (fun j => b.edges.length - j) 0 ?_ ?_
  · exact ⟨rfl, Nat.zero_le _, (checkB_e (by omega) (by omega) (by omega) (by omega) (all_done (by simp; omega) hall)).symm, ⟨rfl, rfl, rfl, rfl, rfl, rfl, rfl, rfl, rfl, trivial⟩⟩
  rintro j ρ O ⟨rfl, hj, he, hH⟩
  obtain ⟨ρ0, rfl⟩ := hH.elim
  clear hH
  refine T.seq (T.region ?_)
  refine TO.quiet (q_lss rfl rfl) ?_
  refine TO.nil (T.seq ?_)
  refine T.condP rfl (fun hc => ?_) (fun hc => ?_)
  · have hlt50 : j < b.edges.length := by omega
    have hpn := hB.pn _ (List.getElem_mem hlt50)
    refine T.skip (T.seq (T.block (T.seq (T.region ?_))))
    refine TO.quiet (q_ixK (i := j) Try.underlying23 inf54 rfl rfl (Sl.o h.ed) (by first | assumption | omega | (simp; omega) | simp_all) (by first | (rw [eds_len]; omega) | (simp [eds_len]; omega) | (simp_all [eds_len]; omega))) (TO.quiet (q_ldK (vs := [.int .i64 b.edges[j].fr, .int .i64 b.edges[j].to, .int .u8 ((b.edges[j].pos : Nat) : Int), .int .u8 ((b.edges[j].neg : Nat) : Int)]) Try.underlying54 rfl inf54 rfl rfl (Nat.succ_pos _) (Sl.o h.ed) (eds_get (by first | assumption | omega | (simp; omega) | simp_all))) ?_)
    refine TO.loud rfl (l_alloc inf54 rfl (fun bx5 => ?_))
    refine TO.loud rfl (l_store_box (v := (.agg #[.int .i64 b.edges[j].fr, .int .i64 b.edges[j].to, .int .u8 ((b.edges[j].pos : Nat) : Int), .int .u8 ((b.edges[j].neg : Nat) : Int)])) (vs := [.int .i64 b.edges[j].fr, .int .i64 b.edges[j].to, .int .u8 ((b.edges[j].pos : Nat) : Int), .int .u8 ((b.edges[j].neg : Nat) : Int)]) 0 inf54 rfl rfl rfl rfl rfl rfl (by simp [putL]) ?_)
    refine TO.nil (T.block (T.seq (T.region ?_)))
    refine TO.quiet (q_fieldAddr Try.underlying54 rfl inf3 rfl rfl) (TO.quiet (q_load_box 0 Try.underlying3 rfl rfl rfl rfl) (TO.quiet (q_lss rfl rfl) ?_))
    by_cases hs57 : b.edges[j].fr < 0
    · refine TO.quiet (QT.toB (q_move rfl) (decide_eq_true hs57)) ?_
      refine TO.passed rfl rfl ?_
      refine TO.passed rfl rfl ?_
      refine TO.passed rfl rfl ?_
      refine TO.passed rfl rfl ?_
      refine TO.passed rfl rfl ?_
      refine TO.quiet (q_pick1 rfl rfl) (TO.quiet (q_move rfl) ?_)
      refine TO.passed rfl rfl ?_
      refine TO.passed rfl rfl ?_
      refine TO.passed rfl rfl ?_
      refine TO.quiet (q_pick1 rfl rfl) (TO.quiet (q_move rfl) ?_)
      refine TO.passed rfl rfl ?_
      refine TO.passed rfl rfl ?_
      refine TO.passed rfl rfl ?_
      refine TO.passed rfl rfl ?_
      refine TO.passed rfl rfl ?_
      refine TO.quiet (q_pick1 rfl rfl) (TO.quiet (q_assign rfl) ?_)
      refine TO.nil ?_
      refine T.cond1 rfl ?_
      refine T.seq (T.region ?_)
      refine TO.quiet (q_assign rfl) ?_
      refine TO.nil (T.ret (Res.drop ?_))
      refine Res.one (.int .i64 8) Try.results21 rfl ?_
      refine ⟨[], Sub.of (List.nil_sublist _), congrArg (fun z : Nat => Value.int .i64 (z : Int)) (Eq.symm (a := checkB b) (b := 8) ?_), rfl⟩
      rw [← he]; exact edges_8 hlt50 (by omega)
    refine TO.quiet (QT.toB (q_move rfl) (decide_eq_false hs57)) ?_
    refine TO.guarded rfl rfl rfl (LT.of_quiet rfl rfl (q_fieldAddr Try.underlying54 rfl inf3 rfl rfl) ?_)
    refine TO.guarded rfl rfl rfl (LT.of_quiet rfl rfl (q_load_box 0 Try.underlying3 rfl rfl rfl rfl) ?_)
    refine TO.guarded rfl rfl rfl (LT.of_quiet rfl rfl (q_fieldAddr Try.underlying26 rfl inf3 rfl rfl) ?_)
    refine TO.guarded rfl rfl rfl (LT.of_quiet rfl rfl (q_load_box 1 Try.underlying3 rfl rfl rfl rfl) ?_)
    refine TO.guarded rfl rfl rfl (LT.of_quiet rfl rfl (q_geq rfl rfl) ?_)
    refine TO.quiet (q_pick0 rfl rfl) ?_
    by_cases hs64 : b.edges[j].fr ≥ b.states
    · refine TO.quiet (QT.toB (q_move rfl) (decide_eq_true hs64)) ?_
      refine TO.passed rfl rfl ?_
      refine TO.passed rfl rfl ?_
      refine TO.passed rfl rfl ?_
      refine TO.quiet (q_pick1 rfl rfl) (TO.quiet (q_move rfl) ?_)
      refine TO.passed rfl rfl ?_
      refine TO.passed rfl rfl ?_
      refine TO.passed rfl rfl ?_
      refine TO.passed rfl rfl ?_
      refine TO.passed rfl rfl ?_
      refine TO.quiet (q_pick1 rfl rfl) (TO.quiet (q_assign rfl) ?_)
      refine TO.nil ?_
      refine T.cond1 rfl ?_
      refine T.seq (T.region ?_)
      refine TO.quiet (q_assign rfl) ?_
      refine TO.nil (T.ret (Res.drop ?_))
      refine Res.one (.int .i64 8) Try.results21 rfl ?_
      refine ⟨[], Sub.of (List.nil_sublist _), congrArg (fun z : Nat => Value.int .i64 (z : Int)) (Eq.symm (a := checkB b) (b := 8) ?_), rfl⟩
      rw [← he]; exact edges_8 hlt50 (by omega)
    refine TO.quiet (QT.toB (q_move rfl) (decide_eq_false hs64)) ?_
    refine TO.guarded rfl rfl rfl (LT.of_quiet rfl rfl (q_fieldAddr Try.underlying54 rfl inf3 rfl rfl) ?_)
    refine TO.guarded rfl rfl rfl (LT.of_quiet rfl rfl (q_load_box 0 Try.underlying3 rfl rfl rfl rfl) ?_)
    refine TO.guarded rfl rfl rfl (LT.of_quiet rfl rfl (q_lss rfl rfl) ?_)
    refine TO.quiet (q_pick0 rfl rfl) ?_
    by_cases hs69 : b.edges[j].to < 0
    · refine TO.quiet (QT.toB (q_move rfl) (decide_eq_true hs69)) ?_
      refine TO.passed rfl rfl ?_
      refine TO.passed rfl rfl ?_
      refine TO.passed rfl rfl ?_
      refine TO.passed rfl rfl ?_
      refine TO.passed rfl rfl ?_
      refine TO.quiet (q_pick1 rfl rfl) (TO.quiet (q_assign rfl) ?_)
      refine TO.nil ?_
      refine T.cond1 rfl ?_
      refine T.seq (T.region ?_)
      refine TO.quiet (q_assign rfl) ?_
      refine TO.nil (T.ret (Res.drop ?_))
      refine Res.one (.int .i64 8) Try.results21 rfl ?_
      refine ⟨[], Sub.of (List.nil_sublist _), congrArg (fun z : Nat => Value.int .i64 (z : Int)) (Eq.symm (a := checkB b) (b := 8) ?_), rfl⟩
      rw [← he]; exact edges_8 hlt50 (by omega)
    refine TO.quiet (QT.toB (q_move rfl) (decide_eq_false hs69)) ?_
    refine TO.guarded rfl rfl rfl (LT.of_quiet rfl rfl (q_fieldAddr Try.underlying54 rfl inf3 rfl rfl) ?_)
    refine TO.guarded rfl rfl rfl (LT.of_quiet rfl rfl (q_load_box 0 Try.underlying3 rfl rfl rfl rfl) ?_)
    refine TO.guarded rfl rfl rfl (LT.of_quiet rfl rfl (q_fieldAddr Try.underlying26 rfl inf3 rfl rfl) ?_)
    refine TO.guarded rfl rfl rfl (LT.of_quiet rfl rfl (q_load_box 1 Try.underlying3 rfl rfl rfl rfl) ?_)
    refine TO.guarded rfl rfl rfl (LT.of_quiet rfl rfl (q_geq rfl rfl) ?_)
    refine TO.quiet (q_pick0 rfl rfl) (TO.quiet (q_assign rfl) ?_)
    refine TO.nil ?_
    refine T.condP rfl (fun hc => ?_) (fun hc => ?_)
    · refine T.seq ?_
      refine T.region ?_
      refine TO.quiet (q_assign rfl) ?_
      refine TO.nil (T.ret (Res.drop ?_))
      refine Res.one (.int .i64 8) Try.results21 rfl ?_
      refine ⟨[], Sub.of (List.nil_sublist _), congrArg (fun z : Nat => Value.int .i64 (z : Int)) (Eq.symm (a := checkB b) (b := 8) ?_), rfl⟩
      rw [← he]; exact edges_8 hlt50 (by omega)
    refine T.seq ?_
    refine T.draws _ [(0, 0), (1, 0), (2, 0), (3, 0), (4, 0), (5, 0), (6, 0), (7, 0), (8, 0), (9, 0), (10, 0), (11, 0), (12, 0), (13, 0), (14, 0), (15, 0), (16, 0), (17, 0), (18, 0)] mixed (by kernel_rfl) (Sub.of (List.Sublist.refl _)) (fun _ _ _ h => h) ?_
    refine DO.quiet rfl (q_fieldAddr Try.underlying54 rfl inf5 rfl rfl) (DO.quiet rfl (q_load_box 0 Try.underlying5 rfl rfl rfl rfl) (DO.quiet rfl (q_fieldAddr Try.underlying54 rfl inf5 rfl rfl) (DO.quiet rfl (q_load_box 0 Try.underlying5 rfl rfl rfl rfl) ?_)))
    refine DO.quiet rfl (q_or (a := b.edges[j].pos) (b := b.edges[j].neg) .u8 rfl rfl (by show _ < 256; omega) (by show _ < 256; omega)) (DO.quiet rfl (q_conv_id Try.underlying5 Try.underlying3 rfl (wrap64_id ⟨by omega, by have := Nat.or_lt_two_pow (n := 8) hpn.1 hpn.2; omega⟩)) (DO.quiet rfl (q_fieldAddr Try.underlying26 rfl inf3 rfl rfl) (DO.quiet rfl (q_load_box 1 Try.underlying3 rfl rfl rfl rfl) ?_)))
    refine DO.quiet rfl (q_shl1 (v := b.vars.toNat) rfl (by show Value.int _ b.vars = _; rw [Int.toNat_of_nonneg (by omega)]) (by omega)) (DO.quiet rfl (q_geq rfl rfl) ?_)
    by_cases hs87 : ((b.edges[j].pos ||| b.edges[j].neg : Nat) : Int) ≥ ((2 ^ b.vars.toNat : Nat) : Int)
    · refine DO.quiet rfl (QT.toB (q_move rfl) (decide_eq_true hs87)) ?_
      refine DO.passed rfl rfl rfl ?_
      refine DO.passed rfl rfl rfl ?_
      refine DO.passed rfl rfl rfl ?_
      refine DO.passed rfl rfl rfl ?_
      refine DO.passed rfl rfl rfl ?_
      refine DO.passed rfl rfl rfl ?_
      refine DO.quiet rfl (q_pick1 rfl rfl) (DO.quiet rfl (q_assign rfl) ?_)
      refine DO.done ?_
      refine T.cond1 rfl ?_
      refine T.seq (T.region ?_)
      refine TO.quiet (q_assign rfl) ?_
      refine TO.nil (T.ret (Res.drop ?_))
      refine Res.one (.int .i64 1) Try.results21 rfl ?_
      refine ⟨[], Sub.of (List.nil_sublist _), congrArg (fun z : Nat => Value.int .i64 (z : Int)) (Eq.symm (a := checkB b) (b := 1) ?_), rfl⟩
      rw [← he]; exact edges_1 hlt50 (by omega) (fun q => by have := or_lt.2 ⟨q.1, q.2.1⟩; have := q.2.2; omega)
    refine DO.quiet rfl (QT.toB (q_move rfl) (decide_eq_false hs87)) ?_
    refine DO.guarded rfl rfl rfl (q_fieldAddr Try.underlying54 rfl inf5 rfl rfl) ?_
    refine DO.guarded rfl rfl rfl (q_load_box 0 Try.underlying5 rfl rfl rfl rfl) ?_
    refine DO.guarded rfl rfl rfl (q_fieldAddr Try.underlying54 rfl inf5 rfl rfl) ?_
    refine DO.guarded rfl rfl rfl (q_load_box 0 Try.underlying5 rfl rfl rfl rfl) ?_
    refine DO.guarded rfl rfl rfl (q_and (a := b.edges[j].pos) (b := b.edges[j].neg) .u8 rfl rfl (by show _ < 256; omega) (by show _ < 256; omega)) ?_
    refine DO.guarded rfl rfl rfl (q_neq rfl rfl) ?_
    refine DO.quiet rfl (q_pick0 rfl rfl) (DO.quiet rfl (q_assign rfl) ?_)
    refine DO.done ?_
    refine T.condP rfl (fun hc => ?_) (fun hc => ?_)
    · have hlt76 : b.edges[j].pos &&& b.edges[j].neg ≠ 0 := by omega
      refine T.seq (T.region ?_)
      refine TO.quiet (q_assign rfl) ?_
      refine TO.nil (T.ret (Res.drop ?_))
      refine Res.one (.int .i64 1) Try.results21 rfl ?_
      refine ⟨[], Sub.of (List.nil_sublist _), congrArg (fun z : Nat => Value.int .i64 (z : Int)) (Eq.symm (a := checkB b) (b := 1) ?_), rfl⟩
      rw [← he]; exact edges_1 hlt50 (by omega) (fun q => by have := or_lt.2 ⟨q.1, q.2.1⟩; have := q.2.2; omega)
    have hge76 : ¬ b.edges[j].pos &&& b.edges[j].neg ≠ 0 := by omega
    refine T.skip (T.region ?_)
    refine TO.quiet (q_addN (a := j) (b := 1) rfl rfl (by omega)) (TO.quiet (q_move rfl) ?_)
    refine TO.nil ?_
    have hpl : b.edges[j].pos ||| b.edges[j].neg < 2 ^ b.vars.toNat := by omega
    exact ⟨j + 1, by omega, [oI bx1 26 (buCells b sb sc eb ec tb tc)], (Sub.pick [1] rfl), rfl, by omega, by rw [← he, edges_0 hlt50 (by omega) ⟨(or_lt.1 hpl).1, (or_lt.1 hpl).2, by omega⟩], ⟨rfl, rfl, rfl, rfl, rfl, rfl, rfl, rfl, rfl, trivial⟩⟩
  have hge50 : ¬ j < b.edges.length := by omega
  refine T.exit ?_
  refine T.seq (T.region ?_)
  refine TO.quiet (q_assign rfl) ?_
  refine TO.nil (T.ret (Res.drop ?_))
  refine Res.one (.int .i64 0) Try.results21 rfl ?_
  refine ⟨[], Sub.of (List.nil_sublist _), congrArg (fun z : Nat => Value.int .i64 (z : Int)) (Eq.symm (a := checkB b) (b := 0) ?_), rfl⟩
  rw [← he, List.drop_eq_nil_of_le (by omega)]; rfl
end Go.Proofs.Ytnamoapbienooaa


namespace Go.Proofs.Ytnamoapbienooaa
open Go.Lx Go.RowKit
set_option linter.unusedVariables false
set_option linter.unusedSimpArgs false
abbrev tarO (nb mb : Option Addr) (nc mn mc : Nat) (full : Int) (nx : List (List Int)) (xc xi xl xs xg xv xp xn : Nat) (ib lb pb : Option Addr) (ic lc pc : Nat) (s : TL) (sb : Option Addr) (sc : Nat) : List Lx.Item := [objI xc (.cells (List.toArray [(.int .i64 (s.clk : Int))]) 3 (0, 0)), objI xi (.cells (List.toArray [(.slice ib nx.length ic)]) 22 (0, 0)), objI xl (.cells (List.toArray [(.slice lb nx.length lc)]) 22 (0, 0)), objI xs (.cells (List.toArray [(.slice sb s.stk.length sc)]) 22 (0, 0)), objI xg (.cells (List.toArray [(.slice nb nx.length nc), (.slice mb mn mc), .int .u64 full]) 79 (0, 0)), objI xv (.cells (List.toArray [(.func (.func 107) #[] #[(.pointer (some ⟨xc, 0, none⟩)), (.pointer (some ⟨xi, 0, none⟩)), (.pointer (some ⟨xl, 0, none⟩)), (.pointer (some ⟨xs, 0, none⟩)), (.pointer (some ⟨xg, 0, none⟩)), (.pointer (some ⟨xv, 0, none⟩)), (.pointer (some ⟨xp, 0, none⟩)), (.pointer (some ⟨xn, 0, none⟩))])]) 104 (0, 0)), objI xp (.cells (List.toArray [(.slice pb nx.length pc)]) 22 (0, 0)), objI xn (.cells (List.toArray [(.int .i64 (s.cnt : Int))]) 3 (0, 0)), rowI ib ic 3 1 (nats s.idx), rowI lb lc 3 1 (nats s.low), rowI sb sc 3 1 (nats s.stk), rowI pb pc 3 1 (ints s.comp)]
set_option maxHeartbeats 1000000 in
set_option maxRecDepth 20000 in
theorem visitF (base : World) (nb mb : Option Addr) (nc mn mc : Nat) (full : Int) (vs : List Value) (nx : List (List Int)) (hS : Sl base nb vs) (hR : RowsR base vs nx) (hn : nx.length ≤ 1000000) (hrl : ∀ r ∈ nx, r.length ≤ 1000000) (hval : ∀ r ∈ nx, ∀ x ∈ r, 0 ≤ x ∧ x < (nx.length : Int)) (xc xi xl xs xg xv xp xn : Nat) (ib lb pb : Option Addr) (ic lc pc : Nat) :
    ∀ (m : Nat) (s : TL) (sb : Option Addr) (sc : Nat) (gray : List Nat) (v : Nat) (hm : s.idx.count 0 = m) (hok : TLok nx.length s) (h0 : TInv nx.length (adjE nx) gray s.ts) (hv : v < nx.length) (hv0 : s.idx[v]'(by rw [hok.li]; exact hv) = 0) (hg : ∀ g ∈ gray, Rch (adjE nx) g v),
    CallT Try.prog base 107 [.int .i64 (v : Int), (.pointer (some ⟨xc, 0, none⟩)), (.pointer (some ⟨xi, 0, none⟩)), (.pointer (some ⟨xl, 0, none⟩)), (.pointer (some ⟨xs, 0, none⟩)), (.pointer (some ⟨xg, 0, none⟩)), (.pointer (some ⟨xv, 0, none⟩)), (.pointer (some ⟨xp, 0, none⟩)), (.pointer (some ⟨xn, 0, none⟩))] (tarO nb mb nc mn mc full nx xc xi xl xs xg xv xp xn ib lb pb ic lc pc s sb sc) (fun _ O' => ∃ s' sb' sc' t, O' = tarO nb mb nc mn mc full nx xc xi xl xs xg xv xp xn ib lb pb ic lc pc s' sb' sc' ∧ VDone nx.length nx gray s v s' t) := by
  intro m
  induction m using Nat.strongRecOn with
  | _ m ih => ?_
  intro s sb sc gray v hm hok h0 hv hv0 hg
  refine CallT.enter Try.func107 rfl Try.ntmps107 rfl ?_
  have hli := hok.li; have hll := hok.ll; have hlc := hok.lc; have hck := hok.ck; have hsk := hok.sk
  obtain ⟨rb, rc, g1, s1⟩ := hR.get hv
  have hrv := hrl _ (List.getElem_mem hv)
  refine T.seq (T.region ?_)
  refine TO.quiet (q_load_box 0 Try.underlying3 rfl rfl rfl rfl) (TO.quiet (q_addN (a := s.clk) (b := 1) rfl rfl (by omega)) ?_)
  refine TO.loud rfl (l_store_box (v := .int .i64 ((s.clk + 1 : Nat) : Int)) (vs := [(.int .i64 ((s.clk + 1 : Nat) : Int))]) 0 inf3 rfl rfl rfl rfl rfl rfl (by simp [putL]) ?_)
  refine TO.nil (T.seq ?_)
  refine T.draws2 [oI xc 3 [(.int .i64 ((s.clk + 1 : Nat) : Int))], oI xi 22 [(.slice ib nx.length ic)], oI xl 22 [(.slice lb nx.length lc)], oI xs 22 [(.slice sb s.stk.length sc)], oI xg 79 [(.slice nb nx.length nc), (.slice mb mn mc), .int .u64 full], oI xv 104 [(.func (.func 107) #[] #[(.pointer (some ⟨xc, 0, none⟩)), (.pointer (some ⟨xi, 0, none⟩)), (.pointer (some ⟨xl, 0, none⟩)), (.pointer (some ⟨xs, 0, none⟩)), (.pointer (some ⟨xg, 0, none⟩)), (.pointer (some ⟨xv, 0, none⟩)), (.pointer (some ⟨xp, 0, none⟩)), (.pointer (some ⟨xn, 0, none⟩))])], oI xp 22 [(.slice pb nx.length pc)], oI xn 3 [(.int .i64 (s.cnt : Int))], rowI lb lc 3 1 (nats s.low), rowI sb sc 3 1 (nats s.stk), rowI pb pc 3 1 (ints s.comp)] [oI xc 3 [(.int .i64 ((s.clk + 1 : Nat) : Int))], oI xi 22 [(.slice ib nx.length ic)], oI xl 22 [(.slice lb nx.length lc)], oI xs 22 [(.slice sb s.stk.length sc)], oI xg 79 [(.slice nb nx.length nc), (.slice mb mn mc), .int .u64 full], oI xv 104 [(.func (.func 107) #[] #[(.pointer (some ⟨xc, 0, none⟩)), (.pointer (some ⟨xi, 0, none⟩)), (.pointer (some ⟨xl, 0, none⟩)), (.pointer (some ⟨xs, 0, none⟩)), (.pointer (some ⟨xg, 0, none⟩)), (.pointer (some ⟨xv, 0, none⟩)), (.pointer (some ⟨xp, 0, none⟩)), (.pointer (some ⟨xn, 0, none⟩))])], oI xp 22 [(.slice pb nx.length pc)], oI xn 3 [(.int .i64 (s.cnt : Int))], rowI ib ic 3 1 (nats s.idx), rowI lb lc 3 1 (nats s.low), rowI sb sc 3 1 (nats s.stk), rowI pb pc 3 1 (ints s.comp)] [(0, 0), (1, 0), (2, 0), (3, 0), (4, 0), (5, 0), (6, 3), (7, 4), (8, 0), (9, 2)] mixed (by kernel_rfl) (Sub.pick [0, 0, 0, 0, 0, 0, 0, 0, 1, 1, 1] rfl) (Sub.pick [0, 0, 0, 0, 0, 0, 0, 0, 0, 0, 0, 0] rfl) (fun _ _ _ h => h) ?_
  refine DO.quiet rfl (q_load_box 1 Try.underlying22 rfl rfl rfl rfl) (DO.quiet rfl (q_move rfl) (DO.quiet rfl (q_load_box 2 Try.underlying22 rfl rfl rfl rfl) (DO.quiet rfl (q_move rfl) ?_)))
  refine DO.quiet rfl (q_load_box 0 Try.underlying3 rfl rfl rfl rfl) (DO.quiet rfl (q_load_box 0 Try.underlying3 rfl rfl rfl rfl) ?_)
  refine DO.quiet2 rfl (q_ix (i := v) Try.underlying22 inf3 rfl rfl (rowO (List.mem_of_getElem? (i := 8) rfl))) ?_
  refine DO.last2 rfl rfl (l_st (j := v) (v := (.int .i64 ((s.clk + 1 : Nat) : Int))) (vs := [(.int .i64 ((s.clk + 1 : Nat) : Int))]) (cs := nats s.idx) 8 inf3 rfl rfl rfl rfl rfl (by simp) rfl (by first | (simp; omega) | (simp_all; omega)) ⟨Sub.pick [0, 0, 0, 0, 0, 0, 0, 0, 1, 1, 1] rfl, ?_⟩)
  refine DO.sub (O' := [oI xc 3 [(.int .i64 ((s.clk + 1 : Nat) : Int))], oI xi 22 [(.slice ib nx.length ic)], oI xl 22 [(.slice lb nx.length lc)], oI xs 22 [(.slice sb s.stk.length sc)], oI xg 79 [(.slice nb nx.length nc), (.slice mb mn mc), .int .u64 full], oI xv 104 [(.func (.func 107) #[] #[(.pointer (some ⟨xc, 0, none⟩)), (.pointer (some ⟨xi, 0, none⟩)), (.pointer (some ⟨xl, 0, none⟩)), (.pointer (some ⟨xs, 0, none⟩)), (.pointer (some ⟨xg, 0, none⟩)), (.pointer (some ⟨xv, 0, none⟩)), (.pointer (some ⟨xp, 0, none⟩)), (.pointer (some ⟨xn, 0, none⟩))])], oI xp 22 [(.slice pb nx.length pc)], oI xn 3 [(.int .i64 (s.cnt : Int))], rowI ib ic 3 1 (nats (s.idx.set v (s.clk + 1))), rowI lb lc 3 1 (nats s.low), rowI sb sc 3 1 (nats s.stk), rowI pb pc 3 1 (ints s.comp)]) (by rw [show putL (nats s.idx) v [(.int .i64 ((s.clk + 1 : Nat) : Int))] = nats (s.idx.set v (s.clk + 1)) from (by simp [putL])]; exact Sub.of (List.Sublist.refl _)) ?_
  refine DO.quiet rfl (q_ix (i := v) Try.underlying22 inf3 rfl rfl (rowO (List.mem_of_getElem? (i := 8) rfl))) ?_
  refine DO.last rfl rfl (l_st (j := v) (v := (.int .i64 ((s.clk + 1 : Nat) : Int))) (vs := [(.int .i64 ((s.clk + 1 : Nat) : Int))]) (cs := nats s.low) 9 inf3 rfl rfl rfl rfl rfl (by simp) rfl (by first | (simp; omega) | (simp_all; omega)) ?_)
  refine DO.sub (O' := [oI xc 3 [(.int .i64 ((s.clk + 1 : Nat) : Int))], oI xi 22 [(.slice ib nx.length ic)], oI xl 22 [(.slice lb nx.length lc)], oI xs 22 [(.slice sb s.stk.length sc)], oI xg 79 [(.slice nb nx.length nc), (.slice mb mn mc), .int .u64 full], oI xv 104 [(.func (.func 107) #[] #[(.pointer (some ⟨xc, 0, none⟩)), (.pointer (some ⟨xi, 0, none⟩)), (.pointer (some ⟨xl, 0, none⟩)), (.pointer (some ⟨xs, 0, none⟩)), (.pointer (some ⟨xg, 0, none⟩)), (.pointer (some ⟨xv, 0, none⟩)), (.pointer (some ⟨xp, 0, none⟩)), (.pointer (some ⟨xn, 0, none⟩))])], oI xp 22 [(.slice pb nx.length pc)], oI xn 3 [(.int .i64 (s.cnt : Int))], rowI ib ic 3 1 (nats (s.idx.set v (s.clk + 1))), rowI lb lc 3 1 (nats (s.low.set v (s.clk + 1))), rowI sb sc 3 1 (nats s.stk), rowI pb pc 3 1 (ints s.comp)]) (by rw [show putL (nats s.low) v [(.int .i64 ((s.clk + 1 : Nat) : Int))] = nats (s.low.set v (s.clk + 1)) from (by simp [putL])]; exact Sub.of (List.Sublist.refl _)) ?_
  refine DO.done ?_
  refine T.seq (T.region ?_)
  refine TO.quiet (q_load_box 3 Try.underlying22 rfl rfl rfl rfl) (TO.quiet (q_move rfl) ?_)
  refine TO.loud rfl (l_build1 (v := .int .i64 (v : Int)) Try.underlying22 inf3 rfl rfl rfl (fun bx1 => ?_))
  refine TO.loud rfl (l_append 11 Try.underlying22 Try.underlying22 inf3 rfl rfl rfl rfl (by simp) (by decide) (Src.row (j := 0) rfl (by simp)) (by simp [oneB]) (by omega) (by decide) (by decide) (fun bx2 c3 => ?_))
  refine TO.loud rfl (l_store_box (v := (.slice bx2 (s.stk.length + 1) c3)) (vs := [(.slice bx2 (s.stk.length + 1) c3)]) 4 inf22 rfl rfl rfl rfl rfl rfl (by simp [putL]) ?_)
  refine TO.sub (O' := [oI xc 3 [(.int .i64 ((s.clk + 1 : Nat) : Int))], oI xi 22 [(.slice ib nx.length ic)], oI xl 22 [(.slice lb nx.length lc)], oI xs 22 [(.slice bx2 (s.stk.length + 1) c3)], oI xg 79 [(.slice nb nx.length nc), (.slice mb mn mc), .int .u64 full], oI xv 104 [(.func (.func 107) #[] #[(.pointer (some ⟨xc, 0, none⟩)), (.pointer (some ⟨xi, 0, none⟩)), (.pointer (some ⟨xl, 0, none⟩)), (.pointer (some ⟨xs, 0, none⟩)), (.pointer (some ⟨xg, 0, none⟩)), (.pointer (some ⟨xv, 0, none⟩)), (.pointer (some ⟨xp, 0, none⟩)), (.pointer (some ⟨xn, 0, none⟩))])], oI xp 22 [(.slice pb nx.length pc)], oI xn 3 [(.int .i64 (s.cnt : Int))], rowI ib ic 3 1 (nats (s.idx.set v (s.clk + 1))), rowI lb lc 3 1 (nats (s.low.set v (s.clk + 1))), rowI bx2 c3 3 1 ((nats s.stk) ++ [.int .i64 (v : Int)]), rowI pb pc 3 1 (ints s.comp)]) (Sub.pick [1, 1, 1, 1, 1, 1, 1, 1, 1, 1, 1, 1] rfl) ?_
  refine TO.nil (T.seq (T.seq (T.region ?_)))
  refine TO.quiet (q_fieldAddr Try.underlying79 rfl inf24 rfl rfl) (TO.quiet (q_load_box 4 Try.underlying24 rfl rfl rfl rfl) (TO.quiet (q_move rfl) (TO.quiet (q_ix (i := v) Try.underlying24 inf22 rfl rfl (Sl.o hS) (by first | assumption | omega | (simp; omega) | simp_all) (by rw [hR.1]; exact hv)) ?_)))
  refine TO.quiet (q_ld Try.underlying22 rfl rfl (Sl.o hS) g1) (TO.quiet (q_len Try.underlying22 rfl) (TO.quiet (q_move rfl) ?_))
  refine TO.nil (T.block ?_)
  refine T.loop (fun (k : Nat) ρ O => ∃ (z : TL) (zb : Option Addr) (zc : Nat) (t : List Nat), O = [oI xc 3 [(.int .i64 (z.clk : Int))], oI xi 22 [(.slice ib nx.length ic)], oI xl 22 [(.slice lb nx.length lc)], oI xs 22 [(.slice zb z.stk.length zc)], oI xg 79 [(.slice nb nx.length nc), (.slice mb mn mc), .int .u64 full], oI xv 104 [(.func (.func 107) #[] #[(.pointer (some ⟨xc, 0, none⟩)), (.pointer (some ⟨xi, 0, none⟩)), (.pointer (some ⟨xl, 0, none⟩)), (.pointer (some ⟨xs, 0, none⟩)), (.pointer (some ⟨xg, 0, none⟩)), (.pointer (some ⟨xv, 0, none⟩)), (.pointer (some ⟨xp, 0, none⟩)), (.pointer (some ⟨xn, 0, none⟩))])], oI xp 22 [(.slice pb nx.length pc)], oI xn 3 [(.int .i64 (z.cnt : Int))], rowI ib ic 3 1 (nats z.idx), rowI lb lc 3 1 (nats z.low), rowI zb zc 3 1 (nats z.stk), rowI pb pc 3 1 (ints z.comp)] ∧ k ≤ nx[v].length ∧ VRun nx.length nx gray s v k z t ∧ Heads [(0, .int .i64 (v : Int)), (1, (.pointer (some ⟨xc, 0, none⟩))), (2, (.pointer (some ⟨xi, 0, none⟩))), (3, (.pointer (some ⟨xl, 0, none⟩))), (4, (.pointer (some ⟨xs, 0, none⟩))), (5, (.pointer (some ⟨xg, 0, none⟩))), (6, (.pointer (some ⟨xv, 0, none⟩))), (7, (.pointer (some ⟨xp, 0, none⟩))), (8, (.pointer (some ⟨xn, 0, none⟩))), (31, (.slice rb nx[v].length rc)), (32, .int .i64 (nx[v].length : Int)), (33, .int .i64 (k : Int))] ρ) (fun k => nx[v].length - k) 0 ?_ ?_
  · exact ⟨{ s with idx := s.idx.set v (s.clk + 1), low := s.low.set v (s.clk + 1), stk := s.stk ++ [v], clk := s.clk + 1 }, bx2, c3, [], (by simp only [List.length_append, List.length_cons, List.length_nil, List.map_append, List.map_cons, List.map_nil]), Nat.zero_le _, VRun.enter hok h0 hv hv0 hg, ⟨rfl, rfl, rfl, rfl, rfl, rfl, rfl, rfl, rfl, rfl, rfl, rfl, trivial⟩⟩
  rintro k ρ O ⟨z, zb, zc, t, rfl, hk, hr, hH⟩
  obtain ⟨ρ0, rfl⟩ := hH.elim
  clear hH
  have hli := hr.ok.li; have hll := hr.ok.ll; have hlc := hr.ok.lc; have hzc := hr.ok.ct
  refine T.seq (T.region ?_)
  refine TO.quiet (q_lss rfl rfl) ?_
  refine TO.nil (T.seq ?_)
  refine T.condP rfl (fun hc => ?_) (fun hc => ?_)
  · have hlt34 : k < nx[v].length := by omega
    obtain ⟨u, hu, hul⟩ : ∃ u : Nat, nx[v][k] = (u : Int) ∧ u < nx.length := by
      have := hval _ (List.getElem_mem hv) _ (List.getElem_mem hlt34)
      exact ⟨nx[v][k].toNat, by omega, by omega⟩
    refine T.skip (T.seq (T.block (T.seq (T.region ?_))))
    refine TO.quiet (q_ix (i := k) Try.underlying22 inf3 rfl rfl (Sl.o s1)) (TO.quiet (q_ld Try.underlying3 rfl rfl (Sl.o s1) (show (ints nx[v])[k]? = _ by rw [ints_get hlt34, hu])) (TO.quiet (q_assign rfl) ?_))
    refine TO.nil (T.seq (T.region ?_))
    refine TO.quiet (q_load_box 1 Try.underlying22 rfl rfl rfl rfl) (TO.quiet (q_move rfl) (TO.quiet (q_ix (i := u) Try.underlying22 inf3 rfl rfl (rowO (List.mem_of_getElem? (i := 8) rfl))) (TO.quiet (q_ld Try.underlying3 rfl rfl (rowO (List.mem_of_getElem? (i := 8) rfl)) nats_get) ?_)))
    refine TO.quiet (q_eql rfl rfl) ?_
    refine TO.nil ?_
    refine T.condP rfl (fun hc => ?_) (fun hc => ?_)
    · have hlt41 : z.idx[u] = 0 := by omega
      refine T.seq (T.region ?_)
      refine TO.quiet (q_load_box 5 Try.underlying104 rfl rfl rfl rfl) (TO.quiet (q_move rfl) ?_)
      have hk44 := CallV.of_fn (first := []) (args := [.int .i64 (u : Int)]) (caps := [(.pointer (some ⟨xc, 0, none⟩)), (.pointer (some ⟨xi, 0, none⟩)), (.pointer (some ⟨xl, 0, none⟩)), (.pointer (some ⟨xs, 0, none⟩)), (.pointer (some ⟨xg, 0, none⟩)), (.pointer (some ⟨xv, 0, none⟩)), (.pointer (some ⟨xp, 0, none⟩)), (.pointer (some ⟨xn, 0, none⟩))]) ent107 (ih _ (by have := hr.lt; omega) z zb zc (gray ++ [v]) u rfl hr.ok hr.lp.inv hul (by omega) (hr.child hg hv hlt34 hu))
      refine TO.loud rfl (l_callG hk44 rfl rfl ?_)
      clear hk44
      rintro vr O' ⟨z2, zb2, zc2, t2, rfl, hd2⟩
      have hli2 := hd2.ok.li; have hll2 := hd2.ok.ll; have hlc2 := hd2.ok.lc
      refine TO.nil ?_
      refine T.draws _ [(0, 0), (1, 0), (2, 0), (3, 0), (4, 0), (5, 0), (6, 0), (7, 0), (8, 0), (9, 0), (10, 0), (11, 0), (12, 2)] mixed (by kernel_rfl) (Sub.of (List.Sublist.refl _)) (fun _ _ _ h => h) ?_
      refine DO.quiet rfl (q_load_box 2 Try.underlying22 rfl rfl rfl rfl) (DO.quiet rfl (q_move rfl) (DO.quiet rfl (q_load_box 2 Try.underlying22 rfl rfl rfl rfl) (DO.quiet rfl (q_move rfl) ?_)))
      refine DO.quiet rfl (q_ix (i := v) Try.underlying22 inf3 rfl rfl (rowO (List.mem_of_getElem? (i := 9) rfl))) (DO.quiet rfl (q_ld Try.underlying3 rfl rfl (rowO (List.mem_of_getElem? (i := 9) rfl)) nats_get) (DO.quiet rfl (q_load_box 2 Try.underlying22 rfl rfl rfl rfl) (DO.quiet rfl (q_move rfl) ?_)))
      refine DO.quiet rfl (q_ix (i := u) Try.underlying22 inf3 rfl rfl (rowO (List.mem_of_getElem? (i := 9) rfl))) (DO.quiet rfl (q_ld Try.underlying3 rfl rfl (rowO (List.mem_of_getElem? (i := 9) rfl)) nats_get) (DO.quiet rfl (q_minN (a := z2.low[v]) (b := z2.low[u]) rfl rfl) (DO.quiet rfl (q_ix (i := v) Try.underlying22 inf3 rfl rfl (rowO (List.mem_of_getElem? (i := 9) rfl))) ?_)))
      refine DO.last rfl rfl (l_st (j := v) (v := .int .i64 ((min z2.low[v] z2.low[u] : Nat) : Int)) (vs := [(.int .i64 ((min z2.low[v] z2.low[u] : Nat) : Int))]) (cs := nats z2.low) 9 inf3 rfl rfl rfl rfl rfl (by simp) rfl (by first | (simp; omega) | (simp_all; omega)) ?_)
      refine DO.sub (O' := [oI xc 3 [(.int .i64 (z2.clk : Int))], oI xi 22 [(.slice ib nx.length ic)], oI xl 22 [(.slice lb nx.length lc)], oI xs 22 [(.slice zb2 z2.stk.length zc2)], oI xg 79 [(.slice nb nx.length nc), (.slice mb mn mc), .int .u64 full], oI xv 104 [(.func (.func 107) #[] #[(.pointer (some ⟨xc, 0, none⟩)), (.pointer (some ⟨xi, 0, none⟩)), (.pointer (some ⟨xl, 0, none⟩)), (.pointer (some ⟨xs, 0, none⟩)), (.pointer (some ⟨xg, 0, none⟩)), (.pointer (some ⟨xv, 0, none⟩)), (.pointer (some ⟨xp, 0, none⟩)), (.pointer (some ⟨xn, 0, none⟩))])], oI xp 22 [(.slice pb nx.length pc)], oI xn 3 [(.int .i64 (z2.cnt : Int))], rowI ib ic 3 1 (nats z2.idx), rowI lb lc 3 1 (nats (z2.low.set v (min z2.low[v] z2.low[u]))), rowI zb2 zc2 3 1 (nats z2.stk), rowI pb pc 3 1 (ints z2.comp)]) (by rw [show putL (nats z2.low) v [(.int .i64 ((min z2.low[v] z2.low[u] : Nat) : Int))] = nats (z2.low.set v (min z2.low[v] z2.low[u])) from (by simp [putL])]; exact Sub.of (List.Sublist.refl _)) ?_
      refine DO.done ?_
      refine T.region ?_
      refine TO.quiet (q_addN (a := k) (b := 1) rfl rfl (by omega)) (TO.quiet (q_move rfl) ?_)
      refine TO.nil ?_
      exact ⟨k + 1, by omega, { z2 with low := z2.low.set v (min z2.low[v] z2.low[u]) }, zb2, zc2, t ++ t2, rfl, by omega, hr.tree h0 hv hv hlt34 hu (by rw [gd (by omega)]; omega) hd2 (by rw [gd (by omega), gd (by omega)]), ⟨rfl, rfl, rfl, rfl, rfl, rfl, rfl, rfl, rfl, rfl, rfl, rfl, trivial⟩⟩
    have hge41 : ¬ z.idx[u] = 0 := by omega
    refine T.seq (T.region ?_)
    refine TO.quiet (q_load_box 6 Try.underlying22 rfl rfl rfl rfl) (TO.quiet (q_move rfl) (TO.quiet (q_ix (i := u) Try.underlying22 inf3 rfl rfl (rowO (List.mem_of_getElem? (i := 11) rfl))) (TO.quiet (q_ld Try.underlying3 rfl rfl (rowO (List.mem_of_getElem? (i := 11) rfl)) ints_get) ?_)))
    refine TO.quiet (q_lss rfl rfl) ?_
    refine TO.nil ?_
    refine T.condP rfl (fun hc => ?_) (fun hc => ?_)
    · refine T.draws _ [(0, 0), (1, 0), (2, 0), (3, 0), (4, 0), (5, 0), (6, 0), (7, 0), (8, 0), (9, 0), (10, 0), (11, 0), (12, 2)] mixed (by kernel_rfl) (Sub.of (List.Sublist.refl _)) (fun _ _ _ h => h) ?_
      refine DO.quiet rfl (q_load_box 2 Try.underlying22 rfl rfl rfl rfl) (DO.quiet rfl (q_move rfl) (DO.quiet rfl (q_load_box 2 Try.underlying22 rfl rfl rfl rfl) (DO.quiet rfl (q_move rfl) ?_)))
      refine DO.quiet rfl (q_ix (i := v) Try.underlying22 inf3 rfl rfl (rowO (List.mem_of_getElem? (i := 9) rfl))) (DO.quiet rfl (q_ld Try.underlying3 rfl rfl (rowO (List.mem_of_getElem? (i := 9) rfl)) nats_get) (DO.quiet rfl (q_load_box 1 Try.underlying22 rfl rfl rfl rfl) (DO.quiet rfl (q_move rfl) ?_)))
      refine DO.quiet rfl (q_ix (i := u) Try.underlying22 inf3 rfl rfl (rowO (List.mem_of_getElem? (i := 8) rfl))) (DO.quiet rfl (q_ld Try.underlying3 rfl rfl (rowO (List.mem_of_getElem? (i := 8) rfl)) nats_get) (DO.quiet rfl (q_minN (a := z.low[v]) (b := z.idx[u]) rfl rfl) (DO.quiet rfl (q_ix (i := v) Try.underlying22 inf3 rfl rfl (rowO (List.mem_of_getElem? (i := 9) rfl))) ?_)))
      refine DO.last rfl rfl (l_st (j := v) (v := .int .i64 ((min z.low[v] z.idx[u] : Nat) : Int)) (vs := [(.int .i64 ((min z.low[v] z.idx[u] : Nat) : Int))]) (cs := nats z.low) 9 inf3 rfl rfl rfl rfl rfl (by simp) rfl (by first | (simp; omega) | (simp_all; omega)) ?_)
      refine DO.sub (O' := [oI xc 3 [(.int .i64 (z.clk : Int))], oI xi 22 [(.slice ib nx.length ic)], oI xl 22 [(.slice lb nx.length lc)], oI xs 22 [(.slice zb z.stk.length zc)], oI xg 79 [(.slice nb nx.length nc), (.slice mb mn mc), .int .u64 full], oI xv 104 [(.func (.func 107) #[] #[(.pointer (some ⟨xc, 0, none⟩)), (.pointer (some ⟨xi, 0, none⟩)), (.pointer (some ⟨xl, 0, none⟩)), (.pointer (some ⟨xs, 0, none⟩)), (.pointer (some ⟨xg, 0, none⟩)), (.pointer (some ⟨xv, 0, none⟩)), (.pointer (some ⟨xp, 0, none⟩)), (.pointer (some ⟨xn, 0, none⟩))])], oI xp 22 [(.slice pb nx.length pc)], oI xn 3 [(.int .i64 (z.cnt : Int))], rowI ib ic 3 1 (nats z.idx), rowI lb lc 3 1 (nats (z.low.set v (min z.low[v] z.idx[u]))), rowI zb zc 3 1 (nats z.stk), rowI pb pc 3 1 (ints z.comp)]) (by rw [show putL (nats z.low) v [(.int .i64 ((min z.low[v] z.idx[u] : Nat) : Int))] = nats (z.low.set v (min z.low[v] z.idx[u])) from (by simp [putL])]; exact Sub.of (List.Sublist.refl _)) ?_
      refine DO.done ?_
      refine T.region ?_
      refine TO.quiet (q_addN (a := k) (b := 1) rfl rfl (by omega)) (TO.quiet (q_move rfl) ?_)
      refine TO.nil ?_
      exact ⟨k + 1, by omega, { z with low := z.low.set v (min z.low[v] z.idx[u]) }, zb, zc, t, rfl, by omega, hr.back h0 hv hv hlt34 hu (by rw [gd (by omega)]; omega) (by rw [gz (by omega)]; omega) (by rw [gd (by omega), gd (by omega)]), ⟨rfl, rfl, rfl, rfl, rfl, rfl, rfl, rfl, rfl, rfl, rfl, rfl, trivial⟩⟩
    refine T.skip (T.region ?_)
    refine TO.quiet (q_addN (a := k) (b := 1) rfl rfl (by omega)) (TO.quiet (q_move rfl) ?_)
    refine TO.nil ?_
    exact ⟨k + 1, by omega, z, zb, zc, t, rfl, by omega, hr.skip h0 hv hlt34 hu (by rw [gd (by omega)]; omega) (by rw [gz (by omega)]; omega), ⟨rfl, rfl, rfl, rfl, rfl, rfl, rfl, rfl, rfl, rfl, rfl, rfl, trivial⟩⟩
  have hge34 : ¬ k < nx[v].length := by omega
  refine T.exit ?_
  refine T.seq (T.seq ?_)
  refine T.draws _ [(0, 0), (1, 0), (2, 0), (3, 0), (4, 0), (5, 0), (6, 0), (7, 0), (8, 0)] mixed (by kernel_rfl) (Sub.of (List.Sublist.refl _)) (fun _ _ _ h => h) ?_
  refine DO.quiet rfl (q_load_box 2 Try.underlying22 rfl rfl rfl rfl) (DO.quiet rfl (q_move rfl) (DO.quiet rfl (q_ix (i := v) Try.underlying22 inf3 rfl rfl (rowO (List.mem_of_getElem? (i := 9) rfl))) (DO.quiet rfl (q_ld Try.underlying3 rfl rfl (rowO (List.mem_of_getElem? (i := 9) rfl)) nats_get) ?_)))
  refine DO.quiet rfl (q_load_box 1 Try.underlying22 rfl rfl rfl rfl) (DO.quiet rfl (q_move rfl) (DO.quiet rfl (q_ix (i := v) Try.underlying22 inf3 rfl rfl (rowO (List.mem_of_getElem? (i := 8) rfl))) (DO.quiet rfl (q_ld Try.underlying3 rfl rfl (rowO (List.mem_of_getElem? (i := 8) rfl)) nats_get) ?_)))
  refine DO.quiet rfl (q_neq rfl rfl) ?_
  refine DO.done ?_
  refine T.condP rfl (fun hc => ?_) (fun hc => ?_)
  · have hlt83 : z.low[v] ≠ z.idx[v] := by omega
    refine T.ret ?_
    refine Res.zero Try.results107 ?_
    exact ⟨z, zb, zc, v :: t, rfl, hr.leave h0 hv hge34 (by rw [gd (by omega), gd (by omega)]; omega)⟩
  have hge83 : ¬ z.low[v] ≠ z.idx[v] := by omega
  have hlow : z.low.getD v 0 = z.idx.getD v 0 := by rw [gd (by omega), gd (by omega)]; omega
  refine T.skip (T.seq (T.block ?_))
  refine T.loop (fun (q : List Nat) ρ O => ∃ (t1 pop : List Nat) (cp : List Int), O = [oI xc 3 [(.int .i64 (z.clk : Int))], oI xi 22 [(.slice ib nx.length ic)], oI xl 22 [(.slice lb nx.length lc)], oI xs 22 [(.slice zb q.length zc)], oI xg 79 [(.slice nb nx.length nc), (.slice mb mn mc), .int .u64 full], oI xv 104 [(.func (.func 107) #[] #[(.pointer (some ⟨xc, 0, none⟩)), (.pointer (some ⟨xi, 0, none⟩)), (.pointer (some ⟨xl, 0, none⟩)), (.pointer (some ⟨xs, 0, none⟩)), (.pointer (some ⟨xg, 0, none⟩)), (.pointer (some ⟨xv, 0, none⟩)), (.pointer (some ⟨xp, 0, none⟩)), (.pointer (some ⟨xn, 0, none⟩))])], oI xp 22 [(.slice pb nx.length pc)], oI xn 3 [(.int .i64 (z.cnt : Int))], rowI ib ic 3 1 (nats z.idx), rowI lb lc 3 1 (nats z.low), rowI zb zc 3 1 (nats q), rowI pb pc 3 1 (ints cp)] ∧ q = s.stk ++ v :: t1 ∧ t = t1 ++ pop ∧ cp.length = nx.length ∧ (∀ x, cp.getD x (-1) = if x ∈ pop then (z.cnt : Int) else z.comp.getD x (-1)) ∧ Heads [(0, .int .i64 (v : Int)), (1, (.pointer (some ⟨xc, 0, none⟩))), (2, (.pointer (some ⟨xi, 0, none⟩))), (3, (.pointer (some ⟨xl, 0, none⟩))), (4, (.pointer (some ⟨xs, 0, none⟩))), (5, (.pointer (some ⟨xg, 0, none⟩))), (6, (.pointer (some ⟨xv, 0, none⟩))), (7, (.pointer (some ⟨xp, 0, none⟩))), (8, (.pointer (some ⟨xn, 0, none⟩)))] ρ) (fun q => q.length) z.stk ?_ ?_
  · exact ⟨t, [], z.comp, rfl, hr.lp.stk, by simp, hlc, by simp, ⟨rfl, rfl, rfl, rfl, rfl, rfl, rfl, rfl, rfl, trivial⟩⟩
  rintro q ρ O ⟨t1, pop, cp, rfl, hq, ht, hcl, hcp, hH⟩
  obtain ⟨ρ0, rfl⟩ := hH.elim
  clear hH
  obtain ⟨st2, u, hst⟩ : ∃ st2 u, q = st2 ++ [u] := by
    rcases List.eq_nil_or_concat q with h | ⟨a, b, h⟩
    · rw [hq] at h; simp at h
    · exact ⟨a, b, h.trans (List.concat_eq_append ..)⟩
  have hql : q.length = st2.length + 1 := by rw [hst]; simp
  have hqg : q[st2.length]? = some u := by rw [hst]; simp
  have hqz : q.length ≤ z.stk.length := by
    have e : z.stk = s.stk ++ v :: t := hr.lp.stk
    rw [hq, e, ht]; simp
  have hqb : q.length ≤ 1000000 := by have := hr.ok.sk; have := hr.ok.ck; omega
  have hus : u ∈ z.stk := by
    have e : z.stk = s.stk ++ v :: t := hr.lp.stk
    have : u ∈ s.stk ++ v :: t1 := by rw [← hq, hst]; simp
    rw [e, ht]; simp at this ⊢
    rcases this with h | h | h
    · exact .inl h
    · exact .inr (.inl h)
    · exact .inr (.inr (.inl h))
  have hul : u < nx.length := hr.lp.inv.vis u ((hr.lp.inv.mem u).1 hus).1
  refine T.have (φ := q.length ≤ zc) (fun w hI => by have := rowP.cap (hI.row (i := 10) rfl); simpa using this) (fun hcap => ?_)
  refine T.block (T.seq (T.region ?_))
  refine TO.quiet (q_load_box 3 Try.underlying22 rfl rfl rfl rfl) (TO.quiet (q_load_box 3 Try.underlying22 rfl rfl rfl rfl) (TO.quiet (q_len Try.underlying22 rfl) (TO.quiet (QT.cast (q_subN (a := q.length) (b := 1) rfl rfl (by omega) (by omega)) (v' := .int .i64 ((st2.length : Nat) : Int)) (by rw [show q.length - 1 = st2.length by omega])) ?_)))
  refine TO.quiet (q_ix (i := st2.length) Try.underlying22 inf3 rfl rfl (rowO (List.mem_of_getElem? (i := 10) rfl))) (TO.quiet (q_ld Try.underlying3 rfl rfl (rowO (List.mem_of_getElem? (i := 10) rfl)) (show (nats q)[st2.length]? = some (.int .i64 ((u : Nat) : Int)) by rw [List.getElem?_map, hqg]; rfl)) (TO.quiet (q_assign rfl) ?_))
  refine TO.nil (T.seq (T.region ?_))
  refine TO.quiet (q_load_box 3 Try.underlying22 rfl rfl rfl rfl) (TO.quiet (q_load_box 3 Try.underlying22 rfl rfl rfl rfl) (TO.quiet (q_len Try.underlying22 rfl) (TO.quiet (QT.cast (q_subN (a := q.length) (b := 1) rfl rfl (by omega) (by omega)) (v' := .int .i64 ((st2.length : Nat) : Int)) (by rw [show q.length - 1 = st2.length by omega])) ?_)))
  refine TO.loud rfl (l_head (m := st2.length) 10 Try.underlying22 inf3 rfl rfl rfl (by omega) ?_)
  refine TO.sub (O' := [oI xc 3 [(.int .i64 (z.clk : Int))], oI xi 22 [(.slice ib nx.length ic)], oI xl 22 [(.slice lb nx.length lc)], oI xs 22 [(.slice zb q.length zc)], oI xg 79 [(.slice nb nx.length nc), (.slice mb mn mc), .int .u64 full], oI xv 104 [(.func (.func 107) #[] #[(.pointer (some ⟨xc, 0, none⟩)), (.pointer (some ⟨xi, 0, none⟩)), (.pointer (some ⟨xl, 0, none⟩)), (.pointer (some ⟨xs, 0, none⟩)), (.pointer (some ⟨xg, 0, none⟩)), (.pointer (some ⟨xv, 0, none⟩)), (.pointer (some ⟨xp, 0, none⟩)), (.pointer (some ⟨xn, 0, none⟩))])], oI xp 22 [(.slice pb nx.length pc)], oI xn 3 [(.int .i64 (z.cnt : Int))], rowI ib ic 3 1 (nats z.idx), rowI lb lc 3 1 (nats z.low), rowI zb zc 3 1 (nats st2), rowI pb pc 3 1 (ints cp)]) (by rw [show (nats q).take (st2.length * 1) = nats st2 from (by rw [Nat.mul_one, ← List.map_take, hst, List.take_left])]; exact Sub.of (List.Sublist.refl _)) ?_
  refine TO.loud rfl (l_store_box (v := (.slice zb st2.length zc)) (vs := [(.slice zb st2.length zc)]) 3 inf22 rfl rfl rfl rfl rfl rfl (by simp [putL]) ?_)
  refine TO.nil (T.seq (T.region ?_))
  refine TO.quiet (q_load_box 6 Try.underlying22 rfl rfl rfl rfl) (TO.quiet (q_move rfl) (TO.quiet (q_load_box 7 Try.underlying3 rfl rfl rfl rfl) (TO.quiet (q_ix (i := u) Try.underlying22 inf3 rfl rfl (rowO (List.mem_of_getElem? (i := 11) rfl))) ?_)))
  refine TO.loud rfl (l_st (j := u) (v := (.int .i64 (z.cnt : Int))) (vs := [(.int .i64 (z.cnt : Int))]) (cs := ints cp) 11 inf3 rfl rfl rfl rfl rfl (by simp) rfl (by first | (simp; omega) | (simp_all; omega)) ?_)
  refine TO.sub (O' := [oI xc 3 [(.int .i64 (z.clk : Int))], oI xi 22 [(.slice ib nx.length ic)], oI xl 22 [(.slice lb nx.length lc)], oI xs 22 [(.slice zb st2.length zc)], oI xg 79 [(.slice nb nx.length nc), (.slice mb mn mc), .int .u64 full], oI xv 104 [(.func (.func 107) #[] #[(.pointer (some ⟨xc, 0, none⟩)), (.pointer (some ⟨xi, 0, none⟩)), (.pointer (some ⟨xl, 0, none⟩)), (.pointer (some ⟨xs, 0, none⟩)), (.pointer (some ⟨xg, 0, none⟩)), (.pointer (some ⟨xv, 0, none⟩)), (.pointer (some ⟨xp, 0, none⟩)), (.pointer (some ⟨xn, 0, none⟩))])], oI xp 22 [(.slice pb nx.length pc)], oI xn 3 [(.int .i64 (z.cnt : Int))], rowI ib ic 3 1 (nats z.idx), rowI lb lc 3 1 (nats z.low), rowI zb zc 3 1 (nats st2), rowI pb pc 3 1 (ints (cp.set u (z.cnt : Int)))]) (by rw [show putL (ints cp) u [(.int .i64 (z.cnt : Int))] = ints (cp.set u (z.cnt : Int)) from (by simp [putL])]; exact Sub.of (List.Sublist.refl _)) ?_
  refine TO.nil (T.seq (T.region ?_))
  refine TO.quiet (q_move rfl) (TO.quiet (q_move rfl) (TO.quiet (q_eql rfl rfl) ?_))
  refine TO.nil ?_
  refine T.condP rfl (fun hc => ?_) (fun hc => ?_)
  · have hlt101 : u = v := by omega
    refine T.exit ?_
    refine T.region ?_
    refine TO.quiet (q_load_box 7 Try.underlying3 rfl rfl rfl rfl) (TO.quiet (q_addN (a := z.cnt) (b := 1) rfl rfl (by omega)) ?_)
    refine TO.loud rfl (l_store_box (v := .int .i64 ((z.cnt + 1 : Nat) : Int)) (vs := [(.int .i64 ((z.cnt + 1 : Nat) : Int))]) 7 inf3 rfl rfl rfl rfl rfl rfl (by simp [putL]) ?_)
    refine TO.nil ?_
    refine Res.zero Try.results107 ?_
    have hnt : v ∉ t1 := fun hm => by
      have := hr.lp.tnew (x := v) (by rw [ht]; exact List.mem_append_left _ hm)
      exact Nat.lt_irrefl _ this
    obtain ⟨h5, h6⟩ := pop_last (hq ▸ hst) (by omega) hnt
    have huv : u = v := by omega
    subst h6 h5 huv
    exact ⟨{ z with comp := cp.set u z.cnt, stk := s.stk, cnt := z.cnt + 1 }, zb, zc, [], rfl, hr.pop h0 hok hv hge34 hlow (by simp [hcl]) (fun x => by rw [fz_pop (by omega) hcp x, ht]; rfl)⟩
  have hge101 : ¬ u = v := by omega
  refine T.skip ?_
  obtain ⟨t1b, ht1, hs2⟩ := pop_split (hq ▸ hst) (by omega)
  exact ⟨st2, by omega, t1b, u :: pop, cp.set u z.cnt, rfl, hs2, by rw [ht, ht1]; simp, by simp [hcl], fz_pop (by omega) hcp, ⟨rfl, rfl, rfl, rfl, rfl, rfl, rfl, rfl, rfl, trivial⟩⟩
end Go.Proofs.Ytnamoapbienooaa


namespace Go.Proofs.Ytnamoapbienooaa
open Go.Lx Go.RowKit
set_option linter.unusedVariables false
set_option linter.unusedSimpArgs false
set_option maxHeartbeats 1000000 in
set_option maxRecDepth 20000 in
theorem componentsF (base : World) (nb mb : Option Addr) (nc mn mc : Nat) (full : Int) (vs : List Value) (nx : List (List Int)) (hS : Sl base nb vs) (hR : RowsR base vs nx) (hn : nx.length ≤ 1000000) (hrl : ∀ r ∈ nx, r.length ≤ 1000000) (hval : ∀ r ∈ nx, ∀ x ∈ r, 0 ≤ x ∧ x < (nx.length : Int)) :
    PureT Try.prog 74 [.agg #[.slice nb nx.length nc, .slice mb mn mc, .int .u64 full]] base fun v N => ∃ cb cc cn cnt, v = .tuple #[.slice cb nx.length cc, .int .i64 ((cnt : Nat) : Int)] ∧ N = [rowI cb cc 3 1 (nats cn)] ∧ cn.length = nx.length ∧ CompN nx cn cnt ∧ cnt ≤ nx.length := by
  refine CallT.enter Try.func74 rfl Try.ntmps74 rfl ?_
  refine T.seq (T.region ?_)
  refine TO.loud rfl (l_box (v := (.agg #[(.slice nb nx.length nc), (.slice mb mn mc), .int .u64 full])) (cs := [(.slice nb nx.length nc), (.slice mb mn mc), .int .u64 full]) rfl rfl (fun bx1 => ?_))
  refine TO.loud rfl (l_alloc inf22 rfl (fun bx2 => ?_))
  refine TO.loud rfl (l_alloc inf3 rfl (fun bx3 => ?_))
  refine TO.nil (T.seq (T.region ?_))
  refine TO.quiet (q_fieldAddr Try.underlying79 rfl inf24 rfl rfl) (TO.quiet (q_load_box 2 Try.underlying24 rfl rfl rfl rfl) (TO.quiet (q_len Try.underlying24 rfl) (TO.quiet (q_assign rfl) ?_)))
  refine TO.nil ?_
  refine T.cut (fun ρ O => ∃ (zA zB zC zD : Nat), O = [oI zC 22 [(.slice (some ⟨zA, 0, none⟩) nx.length nx.length)], oI zD 22 [(.slice (some ⟨zB, 0, none⟩) nx.length nx.length)], rowI (some ⟨zA, 0, none⟩) nx.length 3 1 (List.replicate nx.length (.int .i64 0)), rowI (some ⟨zB, 0, none⟩) nx.length 3 1 (List.replicate nx.length (.int .i64 0)), oI bx3 3 [(.int .i64 0)], oI bx2 22 [(.slice none 0 0)], oI bx1 79 [(.slice nb nx.length nc), (.slice mb mn mc), .int .u64 full]] ∧ Heads [(0, (.agg #[(.slice nb nx.length nc), (.slice mb mn mc), .int .u64 full])), (1, (.pointer (some ⟨bx1, 0, none⟩))), (2, (.pointer (some ⟨bx2, 0, none⟩))), (3, (.pointer (some ⟨bx3, 0, none⟩))), (4, .int .i64 (nx.length : Int)), (5, (.pointer (some ⟨zC, 0, none⟩))), (6, (.pointer (some ⟨zD, 0, none⟩)))] ρ) ?_ ?_
  · refine T.tree [] 8 mixed rfl (Sub.pick [] rfl) (fun _ _ _ h => h) ?_
    refine RO.quietT 0 rfl (by kernel_rfl) (q_move rfl) ?_
    refine RO.quietT 2 rfl (by kernel_rfl) (q_move rfl) ?_
    refine RO.fork [1, 3, 4, 5] (by kernel_rfl) rfl ⟨⟨_, rfl, rfl, l_makeSlice (m := nx.length) Try.underlying22 inf3 rfl rfl (by omega) (by omega) (fun zA => ⟨Sub.pick [] rfl, ?_⟩)⟩, ⟨_, rfl, rfl, l_makeSlice (m := nx.length) Try.underlying22 inf3 rfl rfl (by omega) (by omega) (fun zB => ⟨Sub.pick [] rfl, ?_⟩)⟩, ⟨_, rfl, rfl, l_alloc inf22 rfl (fun zC => ⟨Sub.pick [] rfl, ?_⟩)⟩, ⟨_, rfl, rfl, l_alloc inf22 rfl (fun zD => ⟨Sub.pick [] rfl, ?_⟩)⟩, trivial⟩
    · refine RO.fork [3, 4, 5] (by kernel_rfl) rfl ⟨⟨_, rfl, rfl, l_makeSlice (m := nx.length) Try.underlying22 inf3 rfl rfl (by omega) (by omega) (fun zB => ⟨Sub.pick [] rfl, ?_⟩)⟩, ⟨_, rfl, rfl, l_alloc inf22 rfl (fun zC => ⟨Sub.pick [] rfl, ?_⟩)⟩, ⟨_, rfl, rfl, l_alloc inf22 rfl (fun zD => ⟨Sub.pick [] rfl, ?_⟩)⟩, trivial⟩
      · refine RO.fork [4, 5] (by kernel_rfl) rfl ⟨⟨_, rfl, rfl, l_alloc inf22 rfl (fun zC => ⟨Sub.pick [] rfl, ?_⟩)⟩, ⟨_, rfl, rfl, l_alloc inf22 rfl (fun zD => ⟨Sub.pick [] rfl, ?_⟩)⟩, trivial⟩
        · refine RO.fork [5] (by kernel_rfl) rfl ⟨⟨_, rfl, rfl, l_alloc inf22 rfl (fun zD => ⟨Sub.pick [] rfl, ?_⟩)⟩, trivial⟩
          refine RO.fork [6] (by kernel_rfl) rfl ⟨⟨_, rfl, rfl, l_store_box (v := (.slice (some ⟨zA, 0, none⟩) nx.length nx.length)) (vs := [(.slice (some ⟨zA, 0, none⟩) nx.length nx.length)]) 1 inf22 rfl rfl rfl rfl rfl rfl (by simp [putL]) ⟨Sub.pick [] rfl, ?_⟩⟩, trivial⟩
          refine RO.fork [7] (by kernel_rfl) rfl ⟨⟨_, rfl, rfl, l_store_box (v := (.slice (some ⟨zB, 0, none⟩) nx.length nx.length)) (vs := [(.slice (some ⟨zB, 0, none⟩) nx.length nx.length)]) 0 inf22 rfl rfl rfl rfl rfl rfl (by simp [putL]) ⟨Sub.pick [] rfl, ?_⟩⟩, trivial⟩
          exact RO.fin (by kernel_rfl) ⟨zA, zB, zC, zD, rfl, ⟨rfl, rfl, rfl, rfl, rfl, rfl, rfl, trivial⟩⟩ (Sub.pick [1, 0, 1, 0, 0, 0, 0] rfl)
        refine RO.fork [4] (by kernel_rfl) rfl ⟨⟨_, rfl, rfl, l_alloc inf22 rfl (fun zC => ⟨Sub.pick [] rfl, ?_⟩)⟩, trivial⟩
        refine RO.fork [6] (by kernel_rfl) rfl ⟨⟨_, rfl, rfl, l_store_box (v := (.slice (some ⟨zA, 0, none⟩) nx.length nx.length)) (vs := [(.slice (some ⟨zA, 0, none⟩) nx.length nx.length)]) 0 inf22 rfl rfl rfl rfl rfl rfl (by simp [putL]) ⟨Sub.pick [] rfl, ?_⟩⟩, trivial⟩
        refine RO.fork [7] (by kernel_rfl) rfl ⟨⟨_, rfl, rfl, l_store_box (v := (.slice (some ⟨zB, 0, none⟩) nx.length nx.length)) (vs := [(.slice (some ⟨zB, 0, none⟩) nx.length nx.length)]) 1 inf22 rfl rfl rfl rfl rfl rfl (by simp [putL]) ⟨Sub.pick [] rfl, ?_⟩⟩, trivial⟩
        exact RO.fin (by kernel_rfl) ⟨zA, zB, zC, zD, rfl, ⟨rfl, rfl, rfl, rfl, rfl, rfl, rfl, trivial⟩⟩ (Sub.pick [0, 0, 1, 0, 0, 0, 0] rfl)
      · refine RO.fork [3, 5] (by kernel_rfl) rfl ⟨⟨_, rfl, rfl, l_makeSlice (m := nx.length) Try.underlying22 inf3 rfl rfl (by omega) (by omega) (fun zB => ⟨Sub.pick [] rfl, ?_⟩)⟩, ⟨_, rfl, rfl, l_alloc inf22 rfl (fun zD => ⟨Sub.pick [] rfl, ?_⟩)⟩, trivial⟩
        · refine RO.fork [5] (by kernel_rfl) rfl ⟨⟨_, rfl, rfl, l_alloc inf22 rfl (fun zD => ⟨Sub.pick [] rfl, ?_⟩)⟩, trivial⟩
          refine RO.fork [6] (by kernel_rfl) rfl ⟨⟨_, rfl, rfl, l_store_box (v := (.slice (some ⟨zA, 0, none⟩) nx.length nx.length)) (vs := [(.slice (some ⟨zA, 0, none⟩) nx.length nx.length)]) 2 inf22 rfl rfl rfl rfl rfl rfl (by simp [putL]) ⟨Sub.pick [] rfl, ?_⟩⟩, trivial⟩
          refine RO.fork [7] (by kernel_rfl) rfl ⟨⟨_, rfl, rfl, l_store_box (v := (.slice (some ⟨zB, 0, none⟩) nx.length nx.length)) (vs := [(.slice (some ⟨zB, 0, none⟩) nx.length nx.length)]) 0 inf22 rfl rfl rfl rfl rfl rfl (by simp [putL]) ⟨Sub.pick [] rfl, ?_⟩⟩, trivial⟩
          exact RO.fin (by kernel_rfl) ⟨zA, zB, zC, zD, rfl, ⟨rfl, rfl, rfl, rfl, rfl, rfl, rfl, trivial⟩⟩ (Sub.pick [2, 0, 1, 0, 0, 0, 0] rfl)
        refine RO.fork [3, 6] (by kernel_rfl) rfl ⟨⟨_, rfl, rfl, l_makeSlice (m := nx.length) Try.underlying22 inf3 rfl rfl (by omega) (by omega) (fun zB => ⟨Sub.pick [] rfl, ?_⟩)⟩, ⟨_, rfl, rfl, l_store_box (v := (.slice (some ⟨zA, 0, none⟩) nx.length nx.length)) (vs := [(.slice (some ⟨zA, 0, none⟩) nx.length nx.length)]) 1 inf22 rfl rfl rfl rfl rfl rfl (by simp [putL]) ⟨Sub.pick [] rfl, ?_⟩⟩, trivial⟩
        · refine RO.fork [6] (by kernel_rfl) rfl ⟨⟨_, rfl, rfl, l_store_box (v := (.slice (some ⟨zA, 0, none⟩) nx.length nx.length)) (vs := [(.slice (some ⟨zA, 0, none⟩) nx.length nx.length)]) 2 inf22 rfl rfl rfl rfl rfl rfl (by simp [putL]) ⟨Sub.pick [] rfl, ?_⟩⟩, trivial⟩
          refine RO.fork [7] (by kernel_rfl) rfl ⟨⟨_, rfl, rfl, l_store_box (v := (.slice (some ⟨zB, 0, none⟩) nx.length nx.length)) (vs := [(.slice (some ⟨zB, 0, none⟩) nx.length nx.length)]) 1 inf22 rfl rfl rfl rfl rfl rfl (by simp [putL]) ⟨Sub.pick [] rfl, ?_⟩⟩, trivial⟩
          exact RO.fin (by kernel_rfl) ⟨zA, zB, zC, zD, rfl, ⟨rfl, rfl, rfl, rfl, rfl, rfl, rfl, trivial⟩⟩ (Sub.pick [2, 1, 1, 0, 0, 0, 0] rfl)
        refine RO.fork [3] (by kernel_rfl) rfl ⟨⟨_, rfl, rfl, l_makeSlice (m := nx.length) Try.underlying22 inf3 rfl rfl (by omega) (by omega) (fun zB => ⟨Sub.pick [] rfl, ?_⟩)⟩, trivial⟩
        refine RO.fork [7] (by kernel_rfl) rfl ⟨⟨_, rfl, rfl, l_store_box (v := (.slice (some ⟨zB, 0, none⟩) nx.length nx.length)) (vs := [(.slice (some ⟨zB, 0, none⟩) nx.length nx.length)]) 1 inf22 rfl rfl rfl rfl rfl rfl (by simp [putL]) ⟨Sub.pick [] rfl, ?_⟩⟩, trivial⟩
        exact RO.fin (by kernel_rfl) ⟨zA, zB, zC, zD, rfl, ⟨rfl, rfl, rfl, rfl, rfl, rfl, rfl, trivial⟩⟩ (Sub.pick [2, 1, 1, 0, 0, 0, 0] rfl)
      refine RO.fork [3, 4] (by kernel_rfl) rfl ⟨⟨_, rfl, rfl, l_makeSlice (m := nx.length) Try.underlying22 inf3 rfl rfl (by omega) (by omega) (fun zB => ⟨Sub.pick [] rfl, ?_⟩)⟩, ⟨_, rfl, rfl, l_alloc inf22 rfl (fun zC => ⟨Sub.pick [] rfl, ?_⟩)⟩, trivial⟩
      · refine RO.fork [4] (by kernel_rfl) rfl ⟨⟨_, rfl, rfl, l_alloc inf22 rfl (fun zC => ⟨Sub.pick [] rfl, ?_⟩)⟩, trivial⟩
        refine RO.fork [6] (by kernel_rfl) rfl ⟨⟨_, rfl, rfl, l_store_box (v := (.slice (some ⟨zA, 0, none⟩) nx.length nx.length)) (vs := [(.slice (some ⟨zA, 0, none⟩) nx.length nx.length)]) 0 inf22 rfl rfl rfl rfl rfl rfl (by simp [putL]) ⟨Sub.pick [] rfl, ?_⟩⟩, trivial⟩
        refine RO.fork [7] (by kernel_rfl) rfl ⟨⟨_, rfl, rfl, l_store_box (v := (.slice (some ⟨zB, 0, none⟩) nx.length nx.length)) (vs := [(.slice (some ⟨zB, 0, none⟩) nx.length nx.length)]) 2 inf22 rfl rfl rfl rfl rfl rfl (by simp [putL]) ⟨Sub.pick [] rfl, ?_⟩⟩, trivial⟩
        exact RO.fin (by kernel_rfl) ⟨zA, zB, zC, zD, rfl, ⟨rfl, rfl, rfl, rfl, rfl, rfl, rfl, trivial⟩⟩ (Sub.pick [0, 1, 1, 0, 0, 0, 0] rfl)
      refine RO.fork [3, 6] (by kernel_rfl) rfl ⟨⟨_, rfl, rfl, l_makeSlice (m := nx.length) Try.underlying22 inf3 rfl rfl (by omega) (by omega) (fun zB => ⟨Sub.pick [] rfl, ?_⟩)⟩, ⟨_, rfl, rfl, l_store_box (v := (.slice (some ⟨zA, 0, none⟩) nx.length nx.length)) (vs := [(.slice (some ⟨zA, 0, none⟩) nx.length nx.length)]) 0 inf22 rfl rfl rfl rfl rfl rfl (by simp [putL]) ⟨Sub.pick [] rfl, ?_⟩⟩, trivial⟩
      · refine RO.fork [6] (by kernel_rfl) rfl ⟨⟨_, rfl, rfl, l_store_box (v := (.slice (some ⟨zA, 0, none⟩) nx.length nx.length)) (vs := [(.slice (some ⟨zA, 0, none⟩) nx.length nx.length)]) 1 inf22 rfl rfl rfl rfl rfl rfl (by simp [putL]) ⟨Sub.pick [] rfl, ?_⟩⟩, trivial⟩
        refine RO.fork [7] (by kernel_rfl) rfl ⟨⟨_, rfl, rfl, l_store_box (v := (.slice (some ⟨zB, 0, none⟩) nx.length nx.length)) (vs := [(.slice (some ⟨zB, 0, none⟩) nx.length nx.length)]) 2 inf22 rfl rfl rfl rfl rfl rfl (by simp [putL]) ⟨Sub.pick [] rfl, ?_⟩⟩, trivial⟩
        exact RO.fin (by kernel_rfl) ⟨zA, zB, zC, zD, rfl, ⟨rfl, rfl, rfl, rfl, rfl, rfl, rfl, trivial⟩⟩ (Sub.pick [1, 1, 1, 0, 0, 0, 0] rfl)
      refine RO.fork [3] (by kernel_rfl) rfl ⟨⟨_, rfl, rfl, l_makeSlice (m := nx.length) Try.underlying22 inf3 rfl rfl (by omega) (by omega) (fun zB => ⟨Sub.pick [] rfl, ?_⟩)⟩, trivial⟩
      refine RO.fork [7] (by kernel_rfl) rfl ⟨⟨_, rfl, rfl, l_store_box (v := (.slice (some ⟨zB, 0, none⟩) nx.length nx.length)) (vs := [(.slice (some ⟨zB, 0, none⟩) nx.length nx.length)]) 2 inf22 rfl rfl rfl rfl rfl rfl (by simp [putL]) ⟨Sub.pick [] rfl, ?_⟩⟩, trivial⟩
      exact RO.fin (by kernel_rfl) ⟨zA, zB, zC, zD, rfl, ⟨rfl, rfl, rfl, rfl, rfl, rfl, rfl, trivial⟩⟩ (Sub.pick [1, 1, 1, 0, 0, 0, 0] rfl)
    · refine RO.fork [1, 4, 5] (by kernel_rfl) rfl ⟨⟨_, rfl, rfl, l_makeSlice (m := nx.length) Try.underlying22 inf3 rfl rfl (by omega) (by omega) (fun zA => ⟨Sub.pick [] rfl, ?_⟩)⟩, ⟨_, rfl, rfl, l_alloc inf22 rfl (fun zC => ⟨Sub.pick [] rfl, ?_⟩)⟩, ⟨_, rfl, rfl, l_alloc inf22 rfl (fun zD => ⟨Sub.pick [] rfl, ?_⟩)⟩, trivial⟩
      · refine RO.fork [4, 5] (by kernel_rfl) rfl ⟨⟨_, rfl, rfl, l_alloc inf22 rfl (fun zC => ⟨Sub.pick [] rfl, ?_⟩)⟩, ⟨_, rfl, rfl, l_alloc inf22 rfl (fun zD => ⟨Sub.pick [] rfl, ?_⟩)⟩, trivial⟩
        · refine RO.fork [5] (by kernel_rfl) rfl ⟨⟨_, rfl, rfl, l_alloc inf22 rfl (fun zD => ⟨Sub.pick [] rfl, ?_⟩)⟩, trivial⟩
          refine RO.fork [6] (by kernel_rfl) rfl ⟨⟨_, rfl, rfl, l_store_box (v := (.slice (some ⟨zA, 0, none⟩) nx.length nx.length)) (vs := [(.slice (some ⟨zA, 0, none⟩) nx.length nx.length)]) 1 inf22 rfl rfl rfl rfl rfl rfl (by simp [putL]) ⟨Sub.pick [] rfl, ?_⟩⟩, trivial⟩
          refine RO.fork [7] (by kernel_rfl) rfl ⟨⟨_, rfl, rfl, l_store_box (v := (.slice (some ⟨zB, 0, none⟩) nx.length nx.length)) (vs := [(.slice (some ⟨zB, 0, none⟩) nx.length nx.length)]) 0 inf22 rfl rfl rfl rfl rfl rfl (by simp [putL]) ⟨Sub.pick [] rfl, ?_⟩⟩, trivial⟩
          exact RO.fin (by kernel_rfl) ⟨zA, zB, zC, zD, rfl, ⟨rfl, rfl, rfl, rfl, rfl, rfl, rfl, trivial⟩⟩ (Sub.pick [1, 0, 0, 0, 0, 0, 0] rfl)
        refine RO.fork [4] (by kernel_rfl) rfl ⟨⟨_, rfl, rfl, l_alloc inf22 rfl (fun zC => ⟨Sub.pick [] rfl, ?_⟩)⟩, trivial⟩
        refine RO.fork [6] (by kernel_rfl) rfl ⟨⟨_, rfl, rfl, l_store_box (v := (.slice (some ⟨zA, 0, none⟩) nx.length nx.length)) (vs := [(.slice (some ⟨zA, 0, none⟩) nx.length nx.length)]) 0 inf22 rfl rfl rfl rfl rfl rfl (by simp [putL]) ⟨Sub.pick [] rfl, ?_⟩⟩, trivial⟩
        refine RO.fork [7] (by kernel_rfl) rfl ⟨⟨_, rfl, rfl, l_store_box (v := (.slice (some ⟨zB, 0, none⟩) nx.length nx.length)) (vs := [(.slice (some ⟨zB, 0, none⟩) nx.length nx.length)]) 1 inf22 rfl rfl rfl rfl rfl rfl (by simp [putL]) ⟨Sub.pick [] rfl, ?_⟩⟩, trivial⟩
        exact RO.fin (by kernel_rfl) ⟨zA, zB, zC, zD, rfl, ⟨rfl, rfl, rfl, rfl, rfl, rfl, rfl, trivial⟩⟩ (Sub.pick [0, 0, 0, 0, 0, 0, 0] rfl)
      · refine RO.fork [1, 5] (by kernel_rfl) rfl ⟨⟨_, rfl, rfl, l_makeSlice (m := nx.length) Try.underlying22 inf3 rfl rfl (by omega) (by omega) (fun zA => ⟨Sub.pick [] rfl, ?_⟩)⟩, ⟨_, rfl, rfl, l_alloc inf22 rfl (fun zD => ⟨Sub.pick [] rfl, ?_⟩)⟩, trivial⟩
        · refine RO.fork [5] (by kernel_rfl) rfl ⟨⟨_, rfl, rfl, l_alloc inf22 rfl (fun zD => ⟨Sub.pick [] rfl, ?_⟩)⟩, trivial⟩
          refine RO.fork [6] (by kernel_rfl) rfl ⟨⟨_, rfl, rfl, l_store_box (v := (.slice (some ⟨zA, 0, none⟩) nx.length nx.length)) (vs := [(.slice (some ⟨zA, 0, none⟩) nx.length nx.length)]) 2 inf22 rfl rfl rfl rfl rfl rfl (by simp [putL]) ⟨Sub.pick [] rfl, ?_⟩⟩, trivial⟩
          refine RO.fork [7] (by kernel_rfl) rfl ⟨⟨_, rfl, rfl, l_store_box (v := (.slice (some ⟨zB, 0, none⟩) nx.length nx.length)) (vs := [(.slice (some ⟨zB, 0, none⟩) nx.length nx.length)]) 0 inf22 rfl rfl rfl rfl rfl rfl (by simp [putL]) ⟨Sub.pick [] rfl, ?_⟩⟩, trivial⟩
          exact RO.fin (by kernel_rfl) ⟨zA, zB, zC, zD, rfl, ⟨rfl, rfl, rfl, rfl, rfl, rfl, rfl, trivial⟩⟩ (Sub.pick [2, 0, 0, 0, 0, 0, 0] rfl)
        refine RO.fork [1] (by kernel_rfl) rfl ⟨⟨_, rfl, rfl, l_makeSlice (m := nx.length) Try.underlying22 inf3 rfl rfl (by omega) (by omega) (fun zA => ⟨Sub.pick [] rfl, ?_⟩)⟩, trivial⟩
        refine RO.fork [6] (by kernel_rfl) rfl ⟨⟨_, rfl, rfl, l_store_box (v := (.slice (some ⟨zA, 0, none⟩) nx.length nx.length)) (vs := [(.slice (some ⟨zA, 0, none⟩) nx.length nx.length)]) 2 inf22 rfl rfl rfl rfl rfl rfl (by simp [putL]) ⟨Sub.pick [] rfl, ?_⟩⟩, trivial⟩
        refine RO.fork [7] (by kernel_rfl) rfl ⟨⟨_, rfl, rfl, l_store_box (v := (.slice (some ⟨zB, 0, none⟩) nx.length nx.length)) (vs := [(.slice (some ⟨zB, 0, none⟩) nx.length nx.length)]) 1 inf22 rfl rfl rfl rfl rfl rfl (by simp [putL]) ⟨Sub.pick [] rfl, ?_⟩⟩, trivial⟩
        exact RO.fin (by kernel_rfl) ⟨zA, zB, zC, zD, rfl, ⟨rfl, rfl, rfl, rfl, rfl, rfl, rfl, trivial⟩⟩ (Sub.pick [2, 1, 0, 0, 0, 0, 0] rfl)
      refine RO.fork [1, 4] (by kernel_rfl) rfl ⟨⟨_, rfl, rfl, l_makeSlice (m := nx.length) Try.underlying22 inf3 rfl rfl (by omega) (by omega) (fun zA => ⟨Sub.pick [] rfl, ?_⟩)⟩, ⟨_, rfl, rfl, l_alloc inf22 rfl (fun zC => ⟨Sub.pick [] rfl, ?_⟩)⟩, trivial⟩
      · refine RO.fork [4] (by kernel_rfl) rfl ⟨⟨_, rfl, rfl, l_alloc inf22 rfl (fun zC => ⟨Sub.pick [] rfl, ?_⟩)⟩, trivial⟩
        refine RO.fork [6] (by kernel_rfl) rfl ⟨⟨_, rfl, rfl, l_store_box (v := (.slice (some ⟨zA, 0, none⟩) nx.length nx.length)) (vs := [(.slice (some ⟨zA, 0, none⟩) nx.length nx.length)]) 0 inf22 rfl rfl rfl rfl rfl rfl (by simp [putL]) ⟨Sub.pick [] rfl, ?_⟩⟩, trivial⟩
        refine RO.fork [7] (by kernel_rfl) rfl ⟨⟨_, rfl, rfl, l_store_box (v := (.slice (some ⟨zB, 0, none⟩) nx.length nx.length)) (vs := [(.slice (some ⟨zB, 0, none⟩) nx.length nx.length)]) 2 inf22 rfl rfl rfl rfl rfl rfl (by simp [putL]) ⟨Sub.pick [] rfl, ?_⟩⟩, trivial⟩
        exact RO.fin (by kernel_rfl) ⟨zA, zB, zC, zD, rfl, ⟨rfl, rfl, rfl, rfl, rfl, rfl, rfl, trivial⟩⟩ (Sub.pick [0, 1, 0, 0, 0, 0, 0] rfl)
      refine RO.fork [1] (by kernel_rfl) rfl ⟨⟨_, rfl, rfl, l_makeSlice (m := nx.length) Try.underlying22 inf3 rfl rfl (by omega) (by omega) (fun zA => ⟨Sub.pick [] rfl, ?_⟩)⟩, trivial⟩
      refine RO.fork [6] (by kernel_rfl) rfl ⟨⟨_, rfl, rfl, l_store_box (v := (.slice (some ⟨zA, 0, none⟩) nx.length nx.length)) (vs := [(.slice (some ⟨zA, 0, none⟩) nx.length nx.length)]) 1 inf22 rfl rfl rfl rfl rfl rfl (by simp [putL]) ⟨Sub.pick [] rfl, ?_⟩⟩, trivial⟩
      refine RO.fork [7] (by kernel_rfl) rfl ⟨⟨_, rfl, rfl, l_store_box (v := (.slice (some ⟨zB, 0, none⟩) nx.length nx.length)) (vs := [(.slice (some ⟨zB, 0, none⟩) nx.length nx.length)]) 2 inf22 rfl rfl rfl rfl rfl rfl (by simp [putL]) ⟨Sub.pick [] rfl, ?_⟩⟩, trivial⟩
      exact RO.fin (by kernel_rfl) ⟨zA, zB, zC, zD, rfl, ⟨rfl, rfl, rfl, rfl, rfl, rfl, rfl, trivial⟩⟩ (Sub.pick [1, 1, 0, 0, 0, 0, 0] rfl)
    · refine RO.fork [1, 3, 5] (by kernel_rfl) rfl ⟨⟨_, rfl, rfl, l_makeSlice (m := nx.length) Try.underlying22 inf3 rfl rfl (by omega) (by omega) (fun zA => ⟨Sub.pick [] rfl, ?_⟩)⟩, ⟨_, rfl, rfl, l_makeSlice (m := nx.length) Try.underlying22 inf3 rfl rfl (by omega) (by omega) (fun zB => ⟨Sub.pick [] rfl, ?_⟩)⟩, ⟨_, rfl, rfl, l_alloc inf22 rfl (fun zD => ⟨Sub.pick [] rfl, ?_⟩)⟩, trivial⟩
      · refine RO.fork [3, 5] (by kernel_rfl) rfl ⟨⟨_, rfl, rfl, l_makeSlice (m := nx.length) Try.underlying22 inf3 rfl rfl (by omega) (by omega) (fun zB => ⟨Sub.pick [] rfl, ?_⟩)⟩, ⟨_, rfl, rfl, l_alloc inf22 rfl (fun zD => ⟨Sub.pick [] rfl, ?_⟩)⟩, trivial⟩
        · refine RO.fork [5] (by kernel_rfl) rfl ⟨⟨_, rfl, rfl, l_alloc inf22 rfl (fun zD => ⟨Sub.pick [] rfl, ?_⟩)⟩, trivial⟩
          refine RO.fork [6] (by kernel_rfl) rfl ⟨⟨_, rfl, rfl, l_store_box (v := (.slice (some ⟨zA, 0, none⟩) nx.length nx.length)) (vs := [(.slice (some ⟨zA, 0, none⟩) nx.length nx.length)]) 3 inf22 rfl rfl rfl rfl rfl rfl (by simp [putL]) ⟨Sub.pick [] rfl, ?_⟩⟩, trivial⟩
          refine RO.fork [7] (by kernel_rfl) rfl ⟨⟨_, rfl, rfl, l_store_box (v := (.slice (some ⟨zB, 0, none⟩) nx.length nx.length)) (vs := [(.slice (some ⟨zB, 0, none⟩) nx.length nx.length)]) 0 inf22 rfl rfl rfl rfl rfl rfl (by simp [putL]) ⟨Sub.pick [] rfl, ?_⟩⟩, trivial⟩
          exact RO.fin (by kernel_rfl) ⟨zA, zB, zC, zD, rfl, ⟨rfl, rfl, rfl, rfl, rfl, rfl, rfl, trivial⟩⟩ (Sub.pick [3, 0, 1, 0, 0, 0, 0] rfl)
        refine RO.fork [3, 6] (by kernel_rfl) rfl ⟨⟨_, rfl, rfl, l_makeSlice (m := nx.length) Try.underlying22 inf3 rfl rfl (by omega) (by omega) (fun zB => ⟨Sub.pick [] rfl, ?_⟩)⟩, ⟨_, rfl, rfl, l_store_box (v := (.slice (some ⟨zA, 0, none⟩) nx.length nx.length)) (vs := [(.slice (some ⟨zA, 0, none⟩) nx.length nx.length)]) 2 inf22 rfl rfl rfl rfl rfl rfl (by simp [putL]) ⟨Sub.pick [] rfl, ?_⟩⟩, trivial⟩
        · refine RO.fork [6] (by kernel_rfl) rfl ⟨⟨_, rfl, rfl, l_store_box (v := (.slice (some ⟨zA, 0, none⟩) nx.length nx.length)) (vs := [(.slice (some ⟨zA, 0, none⟩) nx.length nx.length)]) 3 inf22 rfl rfl rfl rfl rfl rfl (by simp [putL]) ⟨Sub.pick [] rfl, ?_⟩⟩, trivial⟩
          refine RO.fork [7] (by kernel_rfl) rfl ⟨⟨_, rfl, rfl, l_store_box (v := (.slice (some ⟨zB, 0, none⟩) nx.length nx.length)) (vs := [(.slice (some ⟨zB, 0, none⟩) nx.length nx.length)]) 1 inf22 rfl rfl rfl rfl rfl rfl (by simp [putL]) ⟨Sub.pick [] rfl, ?_⟩⟩, trivial⟩
          exact RO.fin (by kernel_rfl) ⟨zA, zB, zC, zD, rfl, ⟨rfl, rfl, rfl, rfl, rfl, rfl, rfl, trivial⟩⟩ (Sub.pick [3, 1, 1, 0, 0, 0, 0] rfl)
        refine RO.fork [3] (by kernel_rfl) rfl ⟨⟨_, rfl, rfl, l_makeSlice (m := nx.length) Try.underlying22 inf3 rfl rfl (by omega) (by omega) (fun zB => ⟨Sub.pick [] rfl, ?_⟩)⟩, trivial⟩
        refine RO.fork [7] (by kernel_rfl) rfl ⟨⟨_, rfl, rfl, l_store_box (v := (.slice (some ⟨zB, 0, none⟩) nx.length nx.length)) (vs := [(.slice (some ⟨zB, 0, none⟩) nx.length nx.length)]) 1 inf22 rfl rfl rfl rfl rfl rfl (by simp [putL]) ⟨Sub.pick [] rfl, ?_⟩⟩, trivial⟩
        exact RO.fin (by kernel_rfl) ⟨zA, zB, zC, zD, rfl, ⟨rfl, rfl, rfl, rfl, rfl, rfl, rfl, trivial⟩⟩ (Sub.pick [3, 1, 1, 0, 0, 0, 0] rfl)
      · refine RO.fork [1, 5] (by kernel_rfl) rfl ⟨⟨_, rfl, rfl, l_makeSlice (m := nx.length) Try.underlying22 inf3 rfl rfl (by omega) (by omega) (fun zA => ⟨Sub.pick [] rfl, ?_⟩)⟩, ⟨_, rfl, rfl, l_alloc inf22 rfl (fun zD => ⟨Sub.pick [] rfl, ?_⟩)⟩, trivial⟩
        · refine RO.fork [5] (by kernel_rfl) rfl ⟨⟨_, rfl, rfl, l_alloc inf22 rfl (fun zD => ⟨Sub.pick [] rfl, ?_⟩)⟩, trivial⟩
          refine RO.fork [6] (by kernel_rfl) rfl ⟨⟨_, rfl, rfl, l_store_box (v := (.slice (some ⟨zA, 0, none⟩) nx.length nx.length)) (vs := [(.slice (some ⟨zA, 0, none⟩) nx.length nx.length)]) 3 inf22 rfl rfl rfl rfl rfl rfl (by simp [putL]) ⟨Sub.pick [] rfl, ?_⟩⟩, trivial⟩
          refine RO.fork [7] (by kernel_rfl) rfl ⟨⟨_, rfl, rfl, l_store_box (v := (.slice (some ⟨zB, 0, none⟩) nx.length nx.length)) (vs := [(.slice (some ⟨zB, 0, none⟩) nx.length nx.length)]) 0 inf22 rfl rfl rfl rfl rfl rfl (by simp [putL]) ⟨Sub.pick [] rfl, ?_⟩⟩, trivial⟩
          exact RO.fin (by kernel_rfl) ⟨zA, zB, zC, zD, rfl, ⟨rfl, rfl, rfl, rfl, rfl, rfl, rfl, trivial⟩⟩ (Sub.pick [3, 0, 0, 0, 0, 0, 0] rfl)
        refine RO.fork [1] (by kernel_rfl) rfl ⟨⟨_, rfl, rfl, l_makeSlice (m := nx.length) Try.underlying22 inf3 rfl rfl (by omega) (by omega) (fun zA => ⟨Sub.pick [] rfl, ?_⟩)⟩, trivial⟩
        refine RO.fork [6] (by kernel_rfl) rfl ⟨⟨_, rfl, rfl, l_store_box (v := (.slice (some ⟨zA, 0, none⟩) nx.length nx.length)) (vs := [(.slice (some ⟨zA, 0, none⟩) nx.length nx.length)]) 3 inf22 rfl rfl rfl rfl rfl rfl (by simp [putL]) ⟨Sub.pick [] rfl, ?_⟩⟩, trivial⟩
        refine RO.fork [7] (by kernel_rfl) rfl ⟨⟨_, rfl, rfl, l_store_box (v := (.slice (some ⟨zB, 0, none⟩) nx.length nx.length)) (vs := [(.slice (some ⟨zB, 0, none⟩) nx.length nx.length)]) 1 inf22 rfl rfl rfl rfl rfl rfl (by simp [putL]) ⟨Sub.pick [] rfl, ?_⟩⟩, trivial⟩
        exact RO.fin (by kernel_rfl) ⟨zA, zB, zC, zD, rfl, ⟨rfl, rfl, rfl, rfl, rfl, rfl, rfl, trivial⟩⟩ (Sub.pick [3, 1, 0, 0, 0, 0, 0] rfl)
      refine RO.fork [1, 3] (by kernel_rfl) rfl ⟨⟨_, rfl, rfl, l_makeSlice (m := nx.length) Try.underlying22 inf3 rfl rfl (by omega) (by omega) (fun zA => ⟨Sub.pick [] rfl, ?_⟩)⟩, ⟨_, rfl, rfl, l_makeSlice (m := nx.length) Try.underlying22 inf3 rfl rfl (by omega) (by omega) (fun zB => ⟨Sub.pick [] rfl, ?_⟩)⟩, trivial⟩
      · refine RO.fork [3, 6] (by kernel_rfl) rfl ⟨⟨_, rfl, rfl, l_makeSlice (m := nx.length) Try.underlying22 inf3 rfl rfl (by omega) (by omega) (fun zB => ⟨Sub.pick [] rfl, ?_⟩)⟩, ⟨_, rfl, rfl, l_store_box (v := (.slice (some ⟨zA, 0, none⟩) nx.length nx.length)) (vs := [(.slice (some ⟨zA, 0, none⟩) nx.length nx.length)]) 2 inf22 rfl rfl rfl rfl rfl rfl (by simp [putL]) ⟨Sub.pick [] rfl, ?_⟩⟩, trivial⟩
        · refine RO.fork [6] (by kernel_rfl) rfl ⟨⟨_, rfl, rfl, l_store_box (v := (.slice (some ⟨zA, 0, none⟩) nx.length nx.length)) (vs := [(.slice (some ⟨zA, 0, none⟩) nx.length nx.length)]) 3 inf22 rfl rfl rfl rfl rfl rfl (by simp [putL]) ⟨Sub.pick [] rfl, ?_⟩⟩, trivial⟩
          refine RO.fork [7] (by kernel_rfl) rfl ⟨⟨_, rfl, rfl, l_store_box (v := (.slice (some ⟨zB, 0, none⟩) nx.length nx.length)) (vs := [(.slice (some ⟨zB, 0, none⟩) nx.length nx.length)]) 2 inf22 rfl rfl rfl rfl rfl rfl (by simp [putL]) ⟨Sub.pick [] rfl, ?_⟩⟩, trivial⟩
          exact RO.fin (by kernel_rfl) ⟨zA, zB, zC, zD, rfl, ⟨rfl, rfl, rfl, rfl, rfl, rfl, rfl, trivial⟩⟩ (Sub.pick [3, 2, 1, 0, 0, 0, 0] rfl)
        refine RO.fork [3] (by kernel_rfl) rfl ⟨⟨_, rfl, rfl, l_makeSlice (m := nx.length) Try.underlying22 inf3 rfl rfl (by omega) (by omega) (fun zB => ⟨Sub.pick [] rfl, ?_⟩)⟩, trivial⟩
        refine RO.fork [7] (by kernel_rfl) rfl ⟨⟨_, rfl, rfl, l_store_box (v := (.slice (some ⟨zB, 0, none⟩) nx.length nx.length)) (vs := [(.slice (some ⟨zB, 0, none⟩) nx.length nx.length)]) 2 inf22 rfl rfl rfl rfl rfl rfl (by simp [putL]) ⟨Sub.pick [] rfl, ?_⟩⟩, trivial⟩
        exact RO.fin (by kernel_rfl) ⟨zA, zB, zC, zD, rfl, ⟨rfl, rfl, rfl, rfl, rfl, rfl, rfl, trivial⟩⟩ (Sub.pick [3, 2, 1, 0, 0, 0, 0] rfl)
      refine RO.fork [1] (by kernel_rfl) rfl ⟨⟨_, rfl, rfl, l_makeSlice (m := nx.length) Try.underlying22 inf3 rfl rfl (by omega) (by omega) (fun zA => ⟨Sub.pick [] rfl, ?_⟩)⟩, trivial⟩
      refine RO.fork [6] (by kernel_rfl) rfl ⟨⟨_, rfl, rfl, l_store_box (v := (.slice (some ⟨zA, 0, none⟩) nx.length nx.length)) (vs := [(.slice (some ⟨zA, 0, none⟩) nx.length nx.length)]) 3 inf22 rfl rfl rfl rfl rfl rfl (by simp [putL]) ⟨Sub.pick [] rfl, ?_⟩⟩, trivial⟩
      refine RO.fork [7] (by kernel_rfl) rfl ⟨⟨_, rfl, rfl, l_store_box (v := (.slice (some ⟨zB, 0, none⟩) nx.length nx.length)) (vs := [(.slice (some ⟨zB, 0, none⟩) nx.length nx.length)]) 2 inf22 rfl rfl rfl rfl rfl rfl (by simp [putL]) ⟨Sub.pick [] rfl, ?_⟩⟩, trivial⟩
      exact RO.fin (by kernel_rfl) ⟨zA, zB, zC, zD, rfl, ⟨rfl, rfl, rfl, rfl, rfl, rfl, rfl, trivial⟩⟩ (Sub.pick [3, 2, 0, 0, 0, 0, 0] rfl)
    refine RO.fork [1, 3, 4] (by kernel_rfl) rfl ⟨⟨_, rfl, rfl, l_makeSlice (m := nx.length) Try.underlying22 inf3 rfl rfl (by omega) (by omega) (fun zA => ⟨Sub.pick [] rfl, ?_⟩)⟩, ⟨_, rfl, rfl, l_makeSlice (m := nx.length) Try.underlying22 inf3 rfl rfl (by omega) (by omega) (fun zB => ⟨Sub.pick [] rfl, ?_⟩)⟩, ⟨_, rfl, rfl, l_alloc inf22 rfl (fun zC => ⟨Sub.pick [] rfl, ?_⟩)⟩, trivial⟩
    · refine RO.fork [3, 4] (by kernel_rfl) rfl ⟨⟨_, rfl, rfl, l_makeSlice (m := nx.length) Try.underlying22 inf3 rfl rfl (by omega) (by omega) (fun zB => ⟨Sub.pick [] rfl, ?_⟩)⟩, ⟨_, rfl, rfl, l_alloc inf22 rfl (fun zC => ⟨Sub.pick [] rfl, ?_⟩)⟩, trivial⟩
      · refine RO.fork [4] (by kernel_rfl) rfl ⟨⟨_, rfl, rfl, l_alloc inf22 rfl (fun zC => ⟨Sub.pick [] rfl, ?_⟩)⟩, trivial⟩
        refine RO.fork [6] (by kernel_rfl) rfl ⟨⟨_, rfl, rfl, l_store_box (v := (.slice (some ⟨zA, 0, none⟩) nx.length nx.length)) (vs := [(.slice (some ⟨zA, 0, none⟩) nx.length nx.length)]) 0 inf22 rfl rfl rfl rfl rfl rfl (by simp [putL]) ⟨Sub.pick [] rfl, ?_⟩⟩, trivial⟩
        refine RO.fork [7] (by kernel_rfl) rfl ⟨⟨_, rfl, rfl, l_store_box (v := (.slice (some ⟨zB, 0, none⟩) nx.length nx.length)) (vs := [(.slice (some ⟨zB, 0, none⟩) nx.length nx.length)]) 3 inf22 rfl rfl rfl rfl rfl rfl (by simp [putL]) ⟨Sub.pick [] rfl, ?_⟩⟩, trivial⟩
        exact RO.fin (by kernel_rfl) ⟨zA, zB, zC, zD, rfl, ⟨rfl, rfl, rfl, rfl, rfl, rfl, rfl, trivial⟩⟩ (Sub.pick [0, 2, 1, 0, 0, 0, 0] rfl)
      refine RO.fork [3, 6] (by kernel_rfl) rfl ⟨⟨_, rfl, rfl, l_makeSlice (m := nx.length) Try.underlying22 inf3 rfl rfl (by omega) (by omega) (fun zB => ⟨Sub.pick [] rfl, ?_⟩)⟩, ⟨_, rfl, rfl, l_store_box (v := (.slice (some ⟨zA, 0, none⟩) nx.length nx.length)) (vs := [(.slice (some ⟨zA, 0, none⟩) nx.length nx.length)]) 0 inf22 rfl rfl rfl rfl rfl rfl (by simp [putL]) ⟨Sub.pick [] rfl, ?_⟩⟩, trivial⟩
      · refine RO.fork [6] (by kernel_rfl) rfl ⟨⟨_, rfl, rfl, l_store_box (v := (.slice (some ⟨zA, 0, none⟩) nx.length nx.length)) (vs := [(.slice (some ⟨zA, 0, none⟩) nx.length nx.length)]) 1 inf22 rfl rfl rfl rfl rfl rfl (by simp [putL]) ⟨Sub.pick [] rfl, ?_⟩⟩, trivial⟩
        refine RO.fork [7] (by kernel_rfl) rfl ⟨⟨_, rfl, rfl, l_store_box (v := (.slice (some ⟨zB, 0, none⟩) nx.length nx.length)) (vs := [(.slice (some ⟨zB, 0, none⟩) nx.length nx.length)]) 3 inf22 rfl rfl rfl rfl rfl rfl (by simp [putL]) ⟨Sub.pick [] rfl, ?_⟩⟩, trivial⟩
        exact RO.fin (by kernel_rfl) ⟨zA, zB, zC, zD, rfl, ⟨rfl, rfl, rfl, rfl, rfl, rfl, rfl, trivial⟩⟩ (Sub.pick [1, 2, 1, 0, 0, 0, 0] rfl)
      refine RO.fork [3] (by kernel_rfl) rfl ⟨⟨_, rfl, rfl, l_makeSlice (m := nx.length) Try.underlying22 inf3 rfl rfl (by omega) (by omega) (fun zB => ⟨Sub.pick [] rfl, ?_⟩)⟩, trivial⟩
      refine RO.fork [7] (by kernel_rfl) rfl ⟨⟨_, rfl, rfl, l_store_box (v := (.slice (some ⟨zB, 0, none⟩) nx.length nx.length)) (vs := [(.slice (some ⟨zB, 0, none⟩) nx.length nx.length)]) 3 inf22 rfl rfl rfl rfl rfl rfl (by simp [putL]) ⟨Sub.pick [] rfl, ?_⟩⟩, trivial⟩
      exact RO.fin (by kernel_rfl) ⟨zA, zB, zC, zD, rfl, ⟨rfl, rfl, rfl, rfl, rfl, rfl, rfl, trivial⟩⟩ (Sub.pick [1, 2, 1, 0, 0, 0, 0] rfl)
    · refine RO.fork [1, 4] (by kernel_rfl) rfl ⟨⟨_, rfl, rfl, l_makeSlice (m := nx.length) Try.underlying22 inf3 rfl rfl (by omega) (by omega) (fun zA => ⟨Sub.pick [] rfl, ?_⟩)⟩, ⟨_, rfl, rfl, l_alloc inf22 rfl (fun zC => ⟨Sub.pick [] rfl, ?_⟩)⟩, trivial⟩
      · refine RO.fork [4] (by kernel_rfl) rfl ⟨⟨_, rfl, rfl, l_alloc inf22 rfl (fun zC => ⟨Sub.pick [] rfl, ?_⟩)⟩, trivial⟩
        refine RO.fork [6] (by kernel_rfl) rfl ⟨⟨_, rfl, rfl, l_store_box (v := (.slice (some ⟨zA, 0, none⟩) nx.length nx.length)) (vs := [(.slice (some ⟨zA, 0, none⟩) nx.length nx.length)]) 0 inf22 rfl rfl rfl rfl rfl rfl (by simp [putL]) ⟨Sub.pick [] rfl, ?_⟩⟩, trivial⟩
        refine RO.fork [7] (by kernel_rfl) rfl ⟨⟨_, rfl, rfl, l_store_box (v := (.slice (some ⟨zB, 0, none⟩) nx.length nx.length)) (vs := [(.slice (some ⟨zB, 0, none⟩) nx.length nx.length)]) 3 inf22 rfl rfl rfl rfl rfl rfl (by simp [putL]) ⟨Sub.pick [] rfl, ?_⟩⟩, trivial⟩
        exact RO.fin (by kernel_rfl) ⟨zA, zB, zC, zD, rfl, ⟨rfl, rfl, rfl, rfl, rfl, rfl, rfl, trivial⟩⟩ (Sub.pick [0, 2, 0, 0, 0, 0, 0] rfl)
      refine RO.fork [1] (by kernel_rfl) rfl ⟨⟨_, rfl, rfl, l_makeSlice (m := nx.length) Try.underlying22 inf3 rfl rfl (by omega) (by omega) (fun zA => ⟨Sub.pick [] rfl, ?_⟩)⟩, trivial⟩
      refine RO.fork [6] (by kernel_rfl) rfl ⟨⟨_, rfl, rfl, l_store_box (v := (.slice (some ⟨zA, 0, none⟩) nx.length nx.length)) (vs := [(.slice (some ⟨zA, 0, none⟩) nx.length nx.length)]) 1 inf22 rfl rfl rfl rfl rfl rfl (by simp [putL]) ⟨Sub.pick [] rfl, ?_⟩⟩, trivial⟩
      refine RO.fork [7] (by kernel_rfl) rfl ⟨⟨_, rfl, rfl, l_store_box (v := (.slice (some ⟨zB, 0, none⟩) nx.length nx.length)) (vs := [(.slice (some ⟨zB, 0, none⟩) nx.length nx.length)]) 3 inf22 rfl rfl rfl rfl rfl rfl (by simp [putL]) ⟨Sub.pick [] rfl, ?_⟩⟩, trivial⟩
      exact RO.fin (by kernel_rfl) ⟨zA, zB, zC, zD, rfl, ⟨rfl, rfl, rfl, rfl, rfl, rfl, rfl, trivial⟩⟩ (Sub.pick [1, 2, 0, 0, 0, 0, 0] rfl)
    refine RO.fork [1, 3] (by kernel_rfl) rfl ⟨⟨_, rfl, rfl, l_makeSlice (m := nx.length) Try.underlying22 inf3 rfl rfl (by omega) (by omega) (fun zA => ⟨Sub.pick [] rfl, ?_⟩)⟩, ⟨_, rfl, rfl, l_makeSlice (m := nx.length) Try.underlying22 inf3 rfl rfl (by omega) (by omega) (fun zB => ⟨Sub.pick [] rfl, ?_⟩)⟩, trivial⟩
    · refine RO.fork [3, 6] (by kernel_rfl) rfl ⟨⟨_, rfl, rfl, l_makeSlice (m := nx.length) Try.underlying22 inf3 rfl rfl (by omega) (by omega) (fun zB => ⟨Sub.pick [] rfl, ?_⟩)⟩, ⟨_, rfl, rfl, l_store_box (v := (.slice (some ⟨zA, 0, none⟩) nx.length nx.length)) (vs := [(.slice (some ⟨zA, 0, none⟩) nx.length nx.length)]) 1 inf22 rfl rfl rfl rfl rfl rfl (by simp [putL]) ⟨Sub.pick [] rfl, ?_⟩⟩, trivial⟩
      · refine RO.fork [6] (by kernel_rfl) rfl ⟨⟨_, rfl, rfl, l_store_box (v := (.slice (some ⟨zA, 0, none⟩) nx.length nx.length)) (vs := [(.slice (some ⟨zA, 0, none⟩) nx.length nx.length)]) 2 inf22 rfl rfl rfl rfl rfl rfl (by simp [putL]) ⟨Sub.pick [] rfl, ?_⟩⟩, trivial⟩
        refine RO.fork [7] (by kernel_rfl) rfl ⟨⟨_, rfl, rfl, l_store_box (v := (.slice (some ⟨zB, 0, none⟩) nx.length nx.length)) (vs := [(.slice (some ⟨zB, 0, none⟩) nx.length nx.length)]) 3 inf22 rfl rfl rfl rfl rfl rfl (by simp [putL]) ⟨Sub.pick [] rfl, ?_⟩⟩, trivial⟩
        exact RO.fin (by kernel_rfl) ⟨zA, zB, zC, zD, rfl, ⟨rfl, rfl, rfl, rfl, rfl, rfl, rfl, trivial⟩⟩ (Sub.pick [2, 2, 1, 0, 0, 0, 0] rfl)
      refine RO.fork [3] (by kernel_rfl) rfl ⟨⟨_, rfl, rfl, l_makeSlice (m := nx.length) Try.underlying22 inf3 rfl rfl (by omega) (by omega) (fun zB => ⟨Sub.pick [] rfl, ?_⟩)⟩, trivial⟩
      refine RO.fork [7] (by kernel_rfl) rfl ⟨⟨_, rfl, rfl, l_store_box (v := (.slice (some ⟨zB, 0, none⟩) nx.length nx.length)) (vs := [(.slice (some ⟨zB, 0, none⟩) nx.length nx.length)]) 3 inf22 rfl rfl rfl rfl rfl rfl (by simp [putL]) ⟨Sub.pick [] rfl, ?_⟩⟩, trivial⟩
      exact RO.fin (by kernel_rfl) ⟨zA, zB, zC, zD, rfl, ⟨rfl, rfl, rfl, rfl, rfl, rfl, rfl, trivial⟩⟩ (Sub.pick [2, 2, 1, 0, 0, 0, 0] rfl)
    refine RO.fork [1] (by kernel_rfl) rfl ⟨⟨_, rfl, rfl, l_makeSlice (m := nx.length) Try.underlying22 inf3 rfl rfl (by omega) (by omega) (fun zA => ⟨Sub.pick [] rfl, ?_⟩)⟩, trivial⟩
    refine RO.fork [6] (by kernel_rfl) rfl ⟨⟨_, rfl, rfl, l_store_box (v := (.slice (some ⟨zA, 0, none⟩) nx.length nx.length)) (vs := [(.slice (some ⟨zA, 0, none⟩) nx.length nx.length)]) 2 inf22 rfl rfl rfl rfl rfl rfl (by simp [putL]) ⟨Sub.pick [] rfl, ?_⟩⟩, trivial⟩
    refine RO.fork [7] (by kernel_rfl) rfl ⟨⟨_, rfl, rfl, l_store_box (v := (.slice (some ⟨zB, 0, none⟩) nx.length nx.length)) (vs := [(.slice (some ⟨zB, 0, none⟩) nx.length nx.length)]) 3 inf22 rfl rfl rfl rfl rfl rfl (by simp [putL]) ⟨Sub.pick [] rfl, ?_⟩⟩, trivial⟩
    exact RO.fin (by kernel_rfl) ⟨zA, zB, zC, zD, rfl, ⟨rfl, rfl, rfl, rfl, rfl, rfl, rfl, trivial⟩⟩ (Sub.pick [2, 2, 0, 0, 0, 0, 0] rfl)
  rintro ρ O ⟨zA, zB, zC, zD, rfl, hH⟩
  obtain ⟨ρ0, rfl⟩ := hH.elim
  clear hH
  refine T.seq (T.region ?_)
  refine TO.quiet (q_move rfl) ?_
  refine TO.loud rfl (l_makeSlice (m := nx.length) Try.underlying22 inf3 rfl rfl (by omega) (by omega) (fun bx4 => ?_))
  refine TO.loud rfl (l_store_box (v := (.slice (some ⟨bx4, 0, none⟩) nx.length nx.length)) (vs := [(.slice (some ⟨bx4, 0, none⟩) nx.length nx.length)]) 6 inf22 rfl rfl rfl rfl rfl rfl (by simp [putL]) ?_)
  refine TO.nil (T.seq (T.seq (T.region ?_)))
  refine TO.quiet (q_load_box 6 Try.underlying22 rfl rfl rfl rfl) (TO.quiet (q_len Try.underlying22 rfl) (TO.quiet (q_move rfl) ?_))
  refine TO.nil (T.block ?_)
  refine T.loop (fun (k : Nat) ρ O => ∃ (cp : List Int), O = [rowI (some ⟨bx4, 0, none⟩) nx.length 3 1 (ints cp), oI zC 22 [(.slice (some ⟨zA, 0, none⟩) nx.length nx.length)], oI zD 22 [(.slice (some ⟨zB, 0, none⟩) nx.length nx.length)], rowI (some ⟨zA, 0, none⟩) nx.length 3 1 (List.replicate nx.length (.int .i64 0)), rowI (some ⟨zB, 0, none⟩) nx.length 3 1 (List.replicate nx.length (.int .i64 0)), oI bx3 3 [(.int .i64 0)], oI bx2 22 [(.slice (some ⟨bx4, 0, none⟩) nx.length nx.length)], oI bx1 79 [(.slice nb nx.length nc), (.slice mb mn mc), .int .u64 full]] ∧ k ≤ nx.length ∧ cp.length = nx.length ∧ cp.take k = List.replicate k (-1) ∧ Heads [(0, (.agg #[(.slice nb nx.length nc), (.slice mb mn mc), .int .u64 full])), (1, (.pointer (some ⟨bx1, 0, none⟩))), (2, (.pointer (some ⟨bx2, 0, none⟩))), (3, (.pointer (some ⟨bx3, 0, none⟩))), (4, .int .i64 (nx.length : Int)), (5, (.pointer (some ⟨zC, 0, none⟩))), (6, (.pointer (some ⟨zD, 0, none⟩))), (22, .int .i64 (nx.length : Int)), (23, .int .i64 (k : Int))] ρ) (fun k => nx.length - k) 0 ?_ ?_
  · exact ⟨List.replicate nx.length 0, by simp [putL], Nat.zero_le _, by simp, by simp, ⟨rfl, rfl, rfl, rfl, rfl, rfl, rfl, rfl, rfl, trivial⟩⟩
  rintro k ρ O ⟨cp, rfl, hk, hcl, hcp, hH⟩
  obtain ⟨ρ0, rfl⟩ := hH.elim
  clear hH
  refine T.seq (T.region ?_)
  refine TO.quiet (q_lss rfl rfl) ?_
  refine TO.nil (T.seq ?_)
  refine T.condP rfl (fun hc => ?_) (fun hc => ?_)
  · have hlt24 : k < nx.length := by omega
    refine T.skip (T.seq (T.block (T.seq (T.region ?_))))
    refine TO.quiet (q_move rfl) (TO.quiet (q_assign rfl) ?_)
    refine TO.nil (T.region ?_)
    refine TO.quiet (q_load_box 6 Try.underlying22 rfl rfl rfl rfl) (TO.quiet (q_move rfl) (TO.quiet (q_ix (i := k) Try.underlying22 inf3 rfl rfl (rowO (List.mem_of_getElem? (i := 0) rfl))) ?_))
    refine TO.loud rfl (l_st (j := k) (v := .int .i64 (-1)) (vs := [(.int .i64 (-1))]) (cs := ints cp) 0 inf3 rfl rfl rfl rfl rfl (by simp) rfl (by first | (simp; omega) | (simp_all; omega)) ?_)
    refine TO.sub (O' := [rowI (some ⟨bx4, 0, none⟩) nx.length 3 1 (ints (cp.set k (-1))), oI zC 22 [(.slice (some ⟨zA, 0, none⟩) nx.length nx.length)], oI zD 22 [(.slice (some ⟨zB, 0, none⟩) nx.length nx.length)], rowI (some ⟨zA, 0, none⟩) nx.length 3 1 (List.replicate nx.length (.int .i64 0)), rowI (some ⟨zB, 0, none⟩) nx.length 3 1 (List.replicate nx.length (.int .i64 0)), oI bx3 3 [(.int .i64 0)], oI bx2 22 [(.slice (some ⟨bx4, 0, none⟩) nx.length nx.length)], oI bx1 79 [(.slice nb nx.length nc), (.slice mb mn mc), .int .u64 full]]) (by rw [show putL (ints cp) k [(.int .i64 (-1))] = ints (cp.set k (-1)) from (by simp [putL])]; exact Sub.of (List.Sublist.refl _)) ?_
    refine TO.nil (T.region ?_)
    refine TO.quiet (q_addN (a := k) (b := 1) rfl rfl (by omega)) (TO.quiet (q_move rfl) ?_)
    refine TO.nil ?_
    exact ⟨k + 1, by omega, cp.set k (-1), rfl, by omega, by simp [hcl], set_take hcp (by omega), ⟨rfl, rfl, rfl, rfl, rfl, rfl, rfl, rfl, rfl, trivial⟩⟩
  have hge24 : ¬ k < nx.length := by omega
  refine T.exit ?_
  refine T.seq (T.region ?_)
  refine TO.loud rfl (l_alloc inf22 rfl (fun bx5 => ?_))
  refine TO.nil (T.seq (T.region ?_))
  refine TO.loud rfl (l_alloc inf3 rfl (fun bx6 => ?_))
  refine TO.loud rfl (l_store_box (v := .int .i64 0) (vs := [(.int .i64 0)]) 0 inf3 rfl rfl rfl rfl rfl rfl (by simp [putL]) ?_)
  refine TO.nil (T.seq (T.region ?_))
  refine TO.loud rfl (l_alloc inf104 rfl (fun bx7 => ?_))
  refine TO.nil (T.seq (T.region ?_))
  refine TO.quiet (q_makeFunc) ?_
  refine TO.loud rfl (l_store_box (v := (.func (.func 107) #[] #[(.pointer (some ⟨bx6, 0, none⟩)), (.pointer (some ⟨zC, 0, none⟩)), (.pointer (some ⟨zD, 0, none⟩)), (.pointer (some ⟨bx5, 0, none⟩)), (.pointer (some ⟨bx1, 0, none⟩)), (.pointer (some ⟨bx7, 0, none⟩)), (.pointer (some ⟨bx2, 0, none⟩)), (.pointer (some ⟨bx3, 0, none⟩))])) (vs := [(.func (.func 107) #[] #[(.pointer (some ⟨bx6, 0, none⟩)), (.pointer (some ⟨zC, 0, none⟩)), (.pointer (some ⟨zD, 0, none⟩)), (.pointer (some ⟨bx5, 0, none⟩)), (.pointer (some ⟨bx1, 0, none⟩)), (.pointer (some ⟨bx7, 0, none⟩)), (.pointer (some ⟨bx2, 0, none⟩)), (.pointer (some ⟨bx3, 0, none⟩))])]) 0 inf104 rfl rfl rfl rfl rfl rfl (by simp [putL]) ?_)
  refine TO.nil (T.seq (T.seq (T.region ?_)))
  refine TO.quiet (q_move rfl) (TO.quiet (q_move rfl) ?_)
  refine TO.nil (T.block ?_)
  have hcpe : cp = List.replicate nx.length (-1) := by rw [List.take_of_length_le (by omega)] at hcp; rw [hcp]; congr 1; omega
  subst hcpe
  refine T.nilRow 3 1 ?_
  refine T.sub (O' := [oI bx6 3 [(.int .i64 0)], oI zC 22 [(.slice (some ⟨zA, 0, none⟩) nx.length nx.length)], oI zD 22 [(.slice (some ⟨zB, 0, none⟩) nx.length nx.length)], oI bx5 22 [(.slice none 0 0)], oI bx1 79 [(.slice nb nx.length nc), (.slice mb mn mc), .int .u64 full], oI bx7 104 [(.func (.func 107) #[] #[(.pointer (some ⟨bx6, 0, none⟩)), (.pointer (some ⟨zC, 0, none⟩)), (.pointer (some ⟨zD, 0, none⟩)), (.pointer (some ⟨bx5, 0, none⟩)), (.pointer (some ⟨bx1, 0, none⟩)), (.pointer (some ⟨bx7, 0, none⟩)), (.pointer (some ⟨bx2, 0, none⟩)), (.pointer (some ⟨bx3, 0, none⟩))])], oI bx2 22 [(.slice (some ⟨bx4, 0, none⟩) nx.length nx.length)], oI bx3 3 [(.int .i64 0)], rowI (some ⟨zA, 0, none⟩) nx.length 3 1 (List.replicate nx.length (.int .i64 0)), rowI (some ⟨zB, 0, none⟩) nx.length 3 1 (List.replicate nx.length (.int .i64 0)), rowI none 0 3 1 [], rowI (some ⟨bx4, 0, none⟩) nx.length 3 1 (ints (List.replicate nx.length (-1)))]) (Sub.pick [2, 4, 4, 2, 7, 1, 5, 4, 2, 2, 0, 0] rfl) ?_
  refine T.loop (fun (k : Nat) ρ O => ∃ (s : TL) (sb : Option Addr) (sc : Nat), O = [oI bx6 3 [(.int .i64 (s.clk : Int))], oI zC 22 [(.slice (some ⟨zA, 0, none⟩) nx.length nx.length)], oI zD 22 [(.slice (some ⟨zB, 0, none⟩) nx.length nx.length)], oI bx5 22 [(.slice sb s.stk.length sc)], oI bx1 79 [(.slice nb nx.length nc), (.slice mb mn mc), .int .u64 full], oI bx7 104 [(.func (.func 107) #[] #[(.pointer (some ⟨bx6, 0, none⟩)), (.pointer (some ⟨zC, 0, none⟩)), (.pointer (some ⟨zD, 0, none⟩)), (.pointer (some ⟨bx5, 0, none⟩)), (.pointer (some ⟨bx1, 0, none⟩)), (.pointer (some ⟨bx7, 0, none⟩)), (.pointer (some ⟨bx2, 0, none⟩)), (.pointer (some ⟨bx3, 0, none⟩))])], oI bx2 22 [(.slice (some ⟨bx4, 0, none⟩) nx.length nx.length)], oI bx3 3 [(.int .i64 (s.cnt : Int))], rowI (some ⟨zA, 0, none⟩) nx.length 3 1 (nats s.idx), rowI (some ⟨zB, 0, none⟩) nx.length 3 1 (nats s.low), rowI sb sc 3 1 (nats s.stk), rowI (some ⟨bx4, 0, none⟩) nx.length 3 1 (ints s.comp)] ∧ k ≤ nx.length ∧ TLok nx.length s ∧ TInv nx.length (adjE nx) [] s.ts ∧ (∀ x, x < k → s.idx.getD x 0 ≠ 0) ∧ Heads [(0, (.agg #[(.slice nb nx.length nc), (.slice mb mn mc), .int .u64 full])), (1, (.pointer (some ⟨bx1, 0, none⟩))), (2, (.pointer (some ⟨bx2, 0, none⟩))), (3, (.pointer (some ⟨bx3, 0, none⟩))), (4, .int .i64 (nx.length : Int)), (5, (.pointer (some ⟨zC, 0, none⟩))), (6, (.pointer (some ⟨zD, 0, none⟩))), (8, (.pointer (some ⟨bx5, 0, none⟩))), (9, (.pointer (some ⟨bx6, 0, none⟩))), (10, (.pointer (some ⟨bx7, 0, none⟩))), (31, .int .i64 (nx.length : Int)), (32, .int .i64 (k : Int))] ρ) (fun k => nx.length - k) 0 ?_ ?_
  · refine ⟨{ idx := List.replicate nx.length 0, low := List.replicate nx.length 0, comp := List.replicate nx.length (-1), stk := [], clk := 0, cnt := 0 }, none, 0, by simp only [List.map_replicate, List.map_nil, List.length_nil]; rfl, Nat.zero_le _, tlok_start _, tinv_start _, fun x hx => absurd hx (by omega), ⟨rfl, rfl, rfl, rfl, rfl, rfl, rfl, rfl, rfl, rfl, rfl, rfl, trivial⟩⟩
  rintro k ρ O ⟨s, sb, sc, rfl, hk, hok, hinv, hvis, hH⟩
  obtain ⟨ρ0, rfl⟩ := hH.elim
  clear hH
  have hli := hok.li
  refine T.seq (T.region ?_)
  refine TO.quiet (q_lss rfl rfl) ?_
  refine TO.nil (T.seq ?_)
  refine T.condP rfl (fun hc => ?_) (fun hc => ?_)
  · have hlt33 : k < nx.length := by omega
    refine T.skip (T.seq (T.block (T.seq (T.region ?_))))
    refine TO.quiet (q_move rfl) (TO.quiet (q_assign rfl) ?_)
    refine TO.nil (T.seq (T.region ?_))
    refine TO.quiet (q_load_box 1 Try.underlying22 rfl rfl rfl rfl) (TO.quiet (q_move rfl) (TO.quiet (q_ix (i := k) Try.underlying22 inf3 rfl rfl (rowO (List.mem_of_getElem? (i := 8) rfl))) (TO.quiet (q_ld Try.underlying3 rfl rfl (rowO (List.mem_of_getElem? (i := 8) rfl)) nats_get) ?_)))
    refine TO.quiet (q_eql rfl rfl) ?_
    refine TO.nil ?_
    refine T.condP rfl (fun hc => ?_) (fun hc => ?_)
    · have hlt39 : s.idx[k] = 0 := by omega
      refine T.region ?_
      refine TO.quiet (q_load_box 5 Try.underlying104 rfl rfl rfl rfl) (TO.quiet (q_move rfl) ?_)
      have hk42 := CallV.of_fn (first := []) (args := [.int .i64 (k : Int)]) (caps := [(.pointer (some ⟨bx6, 0, none⟩)), (.pointer (some ⟨zC, 0, none⟩)), (.pointer (some ⟨zD, 0, none⟩)), (.pointer (some ⟨bx5, 0, none⟩)), (.pointer (some ⟨bx1, 0, none⟩)), (.pointer (some ⟨bx7, 0, none⟩)), (.pointer (some ⟨bx2, 0, none⟩)), (.pointer (some ⟨bx3, 0, none⟩))]) ent107 (visitF base nb mb nc mn mc full vs nx hS hR hn hrl hval bx6 zC zD bx5 bx1 bx7 bx2 bx3 (some ⟨zA, 0, none⟩) (some ⟨zB, 0, none⟩) (some ⟨bx4, 0, none⟩) nx.length nx.length nx.length _ s sb sc [] k rfl hok hinv hlt33 (by omega) (fun g hg => (List.not_mem_nil hg).elim))
      refine TO.loud rfl (l_callG hk42 rfl rfl ?_)
      clear hk42
      rintro vr O' ⟨s2, sb2, sc2, t2, rfl, hd⟩
      refine TO.nil (T.region ?_)
      refine TO.quiet (q_addN (a := k) (b := 1) rfl rfl (by omega)) (TO.quiet (q_move rfl) ?_)
      refine TO.nil ?_
      exact ⟨k + 1, by omega, s2, sb2, sc2, rfl, by omega, hd.ok, hd.inv, vis_step hd.ext hvis hd.post.1, ⟨rfl, rfl, rfl, rfl, rfl, rfl, rfl, rfl, rfl, rfl, rfl, rfl, trivial⟩⟩
    have hge39 : ¬ s.idx[k] = 0 := by omega
    refine T.skip (T.region ?_)
    refine TO.quiet (q_addN (a := k) (b := 1) rfl rfl (by omega)) (TO.quiet (q_move rfl) ?_)
    refine TO.nil ?_
    exact ⟨k + 1, by omega, s, sb, sc, rfl, by omega, hok, hinv, vis_snoc hvis (by rw [gd (by omega)]; omega), ⟨rfl, rfl, rfl, rfl, rfl, rfl, rfl, rfl, rfl, rfl, rfl, rfl, trivial⟩⟩
  have hge33 : ¬ k < nx.length := by omega
  refine T.exit ?_
  refine T.seq ?_
  refine T.draws _ [(0, 0), (1, 0), (2, 1), (3, 2)] mixed (by kernel_rfl) (Sub.of (List.Sublist.refl _)) (fun _ _ _ h => h) ?_
  refine DO.quiet rfl (q_load_box 6 Try.underlying22 rfl rfl rfl rfl) (DO.quiet rfl (q_load_box 7 Try.underlying3 rfl rfl rfl rfl) ?_)
  refine DO.loud rfl rfl (l_store_box (v := (.slice (some ⟨bx4, 0, none⟩) nx.length nx.length)) (vs := [(.slice (some ⟨bx4, 0, none⟩) nx.length nx.length)]) 6 inf22 rfl rfl rfl rfl rfl rfl (by simp [putL]) ⟨Sub.pick [0, 0, 0, 0, 0, 0, 0, 0, 0, 0, 0, 0] rfl, ?_⟩)
  refine DO.last rfl rfl (l_store_box (v := (.int .i64 (s.cnt : Int))) (vs := [(.int .i64 (s.cnt : Int))]) 7 inf3 rfl rfl rfl rfl rfl rfl (by simp [putL]) ?_)
  refine DO.done ?_
  refine T.ret (Res.drop ?_)
  refine Res.cell2s (i := 6) (j := 7) Try.results74 Try.underlying22 rfl Try.underlying3 rfl rfl rfl rfl rfl ?_
  have hco := hinv.done (fun v hv => hvis v (by omega))
  have e := ints_nats (cp := s.comp) (fun v hv => (hco.pos v (by rw [← hok.lc]; exact hv)).1)
  exact ⟨[rowI (some ⟨bx4, 0, none⟩) nx.length 3 1 (ints s.comp)], (Sub.pick [11] rfl), _, _, s.comp.map Int.toNat, s.cnt, rfl, by rw [e], by simp [hok.lc], comp_nats hok.lc hco hval, by have := hok.ct; omega⟩
end Go.Proofs.Ytnamoapbienooaa

