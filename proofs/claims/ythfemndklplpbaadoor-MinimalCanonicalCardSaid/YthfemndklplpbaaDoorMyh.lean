/- The automaton of the classes and the automaton numbered anew accept the same words; minimal automata are equal exactly if the words are. -/
import Derived.Test.YthfemndklplpbaaDoorDR
set_option linter.unusedSectionVars false
set_option linter.unusedSimpArgs false
set_option linter.unusedVariables false
set_option linter.unnecessarySimpa false
namespace Go.Lx
set_option linter.unusedVariables false

/-! ### the automaton of the classes -/

/-- The class of a state. -/
def clsOf (d : DFA) (s : Nat) : Nat := (itF d d.next.length).getD s 0

theorem clsOf_iff {d : DFA} (hv : Valid d) {s t : Nat} (hs : s < d.next.length) (ht : t < d.next.length) : clsOf d s = clsOf d t ↔ ∀ u, Wd d u → ¬ dst d s t u := cls_iff hv hs ht

theorem clsOf_fin {d : DFA} (hv : Valid d) {s t : Nat} (hs : s < d.next.length) (ht : t < d.next.length) (h : clsOf d s = clsOf d t) : finN d s = finN d t := by
  have := (clsOf_iff hv hs ht).1 h [] (fun x hx => by cases hx)
  exact Classical.not_not.1 this

theorem clsOf_next {d : DFA} (hv : Valid d) {s t x : Nat} (hs : s < d.next.length) (ht : t < d.next.length) (hx : x < letN d) (h : clsOf d s = clsOf d t) : clsOf d (toN d s x) = clsOf d (toN d t x) := by
  rw [clsOf_iff hv (toN_get hv hs hx) (toN_get hv ht hx)]
  intro u hu hd
  exact (clsOf_iff hv hs ht).1 h (x :: u) (fun y hy => by rcases List.mem_cons.1 hy with rfl | hy; exact hx; exact hu y hy) hd

theorem quoN_at {d : DFA} {cs : List Nat} (hl : cs.length = d.next.length) (hc : nrm cs = cs) : ∀ k, k ≤ d.next.length → ∀ c, c < (quoN d cs k).1.length → ∃ s, s < k ∧ cs.getD s 0 = c ∧ (quoN d cs k).1[c]? = some ((rowK cs (d.next.getD s [])).map fun c : Nat => (c : Int)) ∧ (quoN d cs k).2[c]? = some (finN d s)
  | 0, _, c, h => by simp [quoN] at h
  | k + 1, hk, c, h => by
    have ih := quoN_at hl hc k (by omega)
    have hlen := quoN_len d cs k
    by_cases hn : cs.getD k 0 < (quoN d cs k).1.length
    · rw [quoN, if_pos hn] at h ⊢
      obtain ⟨s, h1, h2⟩ := ih c h
      exact ⟨s, by omega, h2⟩
    · rw [quoN, if_neg hn] at h ⊢
      by_cases hcl : c < (quoN d cs k).1.length
      · obtain ⟨s, h1, h2, h3, h4⟩ := ih c hcl
        exact ⟨s, by omega, h2, by rw [List.getElem?_append_left hcl]; exact h3, by rw [List.getElem?_append_left (by omega)]; exact h4⟩
      · have hce : c = (quoN d cs k).1.length := by simp at h; omega
        refine ⟨k, by omega, ?_, ?_, ?_⟩
        · have h1 := quoN_cls (l := cs) hl hc.symm k (by omega)
          have h2 := quoN_cls (l := cs) hl hc.symm (k + 1) hk
          have hkl : k < cs.length := by omega
          have hg := List.getElem?_eq_getElem hkl
          have hck : cs.getD k 0 = ix cs[k] (dd cs) := by
            have := nrm_get hg
            rw [hc] at this
            rw [List.getD_eq_getElem?_getD, this]; rfl
          have hp2 : dd (cs.take (k + 1)) <+: dd cs := by
            conv => rhs; rw [← List.take_append_drop (k + 1) cs]
            rw [dd_append]; exact foldl_prefix _ _
          have hm : cs[k] ∈ dd (cs.take (k + 1)) := mem_dd.2 (by rw [List.take_succ_eq_append_getElem hkl]; exact List.mem_append_right _ (List.mem_singleton.2 rfl))
          have hlt := ix_lt hm
          rw [hck, ix_prefix hp2 hm]
          rw [hck, ix_prefix hp2 hm] at hn
          rw [quoN, if_neg (by rw [hck, ix_prefix hp2 hm]; exact hn)] at h2
          simp at h2
          omega
        · rw [hce, List.getElem?_append_right (Nat.le_refl _)]; simp
        · rw [hce, hlen.1, List.getElem?_append_right (Nat.le_refl _)]; simp [finN]

/-- The automaton of the classes. -/
def quoD (d : DFA) : DFA := quo d (itF d d.next.length)

theorem quoD_valid {d : DFA} (hv : Valid d) : Valid (quoD d) := (quo_itF hv d.next.length).1

theorem cls_lt {d : DFA} (hv : Valid d) {s : Nat} (hs : s < d.next.length) : clsOf d s < (quoD d).next.length := by
  rw [quoD, quo_len (itF_length d _) (itF_can d _)]
  exact can_lt (itF_can d _) (itF_get hs)

theorem quoD_at {d : DFA} (hv : Valid d) {c : Nat} (hc : c < (quoD d).next.length) : ∃ s, s < d.next.length ∧ clsOf d s = c ∧ finN (quoD d) c = finN d s ∧ ∀ x, x < letN d → toN (quoD d) c x = clsOf d (toN d s x) := by
  obtain ⟨s, h1, h2, h3, h4⟩ := quoN_at (itF_length d d.next.length) (itF_can d _) d.next.length (Nat.le_refl _) c hc
  refine ⟨s, h1, h2, ?_, ?_⟩
  · show (quoN d (itF d d.next.length) d.next.length).2.getD c false = _
    rw [List.getD_eq_getElem?_getD, h4]; rfl
  · intro x hx
    have hrow : (quoD d).next.getD c [] = (rowK (itF d d.next.length) (d.next.getD s [])).map fun c : Nat => (c : Int) := by
      show (quoN d (itF d d.next.length) d.next.length).1.getD c [] = _
      rw [List.getD_eq_getElem?_getD, h3]; rfl
    have hls : (d.next.getD s []).length = letN d := by simp [h1]; exact hv.len _ (List.getElem_mem h1)
    have hx' : x < (d.next.getD s []).length := by omega
    have e1 : (d.next.getD s []).getD x 0 = (d.next.getD s [])[x] := by rw [List.getD_eq_getElem?_getD, List.getElem?_eq_getElem hx']; rfl
    rw [toN, hrow, List.getD_eq_getElem?_getD, List.getElem?_map, rowK, List.getElem?_map, List.getElem?_eq_getElem hx']
    show (((itF d d.next.length).getD (d.next.getD s [])[x].toNat 0 : Nat) : Int).toNat = clsOf d (toN d s x)
    rw [Int.toNat_natCast, clsOf, toN, e1]

theorem quoD_step {d : DFA} (hv : Valid d) {s x : Nat} (hs : s < d.next.length) (hx : x < letN d) : toN (quoD d) (clsOf d s) x = clsOf d (toN d s x) := by
  obtain ⟨s', h1, h2, _, h4⟩ := quoD_at hv (cls_lt hv hs)
  rw [h4 x hx]
  exact clsOf_next hv h1 hs hx h2

theorem quoD_fin {d : DFA} (hv : Valid d) {s : Nat} (hs : s < d.next.length) : finN (quoD d) (clsOf d s) = finN d s := by
  obtain ⟨s', h1, h2, h3, _⟩ := quoD_at hv (cls_lt hv hs)
  rw [h3]; exact clsOf_fin hv h1 hs h2

theorem quoD_run {d : DFA} (hv : Valid d) {s : Nat} (hs : s < d.next.length) : ∀ w, Wd d w → runN (quoD d) (clsOf d s) w = clsOf d (runN d s w) := by
  refine snocInd (fun _ => rfl) ?_
  intro w x ih hw
  have hw' : Wd d w := fun y hy => hw y (by simp [hy])
  rw [runN_snoc, runN_snoc, ih hw', quoD_step hv (runN_lt hv hs w hw') (hw x (by simp))]

theorem quoD_start (d : DFA) : (quoD d).start.toNat = clsOf d d.start.toNat := by
  show (((itF d d.next.length).getD d.start.toNat 0 : Nat) : Int).toNat = _
  rw [Int.toNat_natCast]; rfl

/-! ### the automaton numbered anew -/

theorem order_start {d : DFA} (hv : Valid d) : ∃ r, order d = d.start.toNat :: r := by
  have hp := bfsN_prefix d 0 d.next.length (Nat.zero_le _)
  obtain ⟨r, hr⟩ := hp
  exact ⟨r, hr.symm⟩

theorem renum_valid {d : DFA} (hv : Valid d) : Valid (renum d) := by
  obtain ⟨r, hr⟩ := order_start hv
  have hl := order_len hv
  have hpos : 0 < (order d).length := by rw [hr]; simp
  refine ⟨hv.v0, hv.v6, ?_, ?_, ?_, Int.le_refl _, ?_, ?_, ?_⟩
  · simpa [renum] using hpos
  · have := hv.n4; simp only [renum, List.length_map]; omega
  · simp [renum]
  · show (0 : Int) < ((renum d).next.length : Nat)
    simp only [renum, List.length_map]; omega
  · intro r hr
    obtain ⟨o, ho, rfl⟩ := List.mem_map.1 hr
    rw [List.length_map, sucs_length]; rfl
  · intro r hr x hx
    obtain ⟨o, ho, rfl⟩ := List.mem_map.1 hr
    obtain ⟨t, ht, rfl⟩ := List.mem_map.1 hx
    refine ⟨Int.natCast_nonneg _, ?_⟩
    have := ix_lt (order_closed hv o ho t ht)
    simp only [renum, List.length_map]; omega

theorem renum_step {d : DFA} (hv : Valid d) {s x : Nat} (hs : s ∈ order d) (hx : x < letN d) : toN (renum d) (ix s (order d)) x = ix (toN d s x) (order d) := by
  have hg := ix_get hs
  have hrow : (renum d).next.getD (ix s (order d)) [] = (sucs d s).map fun t => ((ix t (order d) : Nat) : Int) := by
    show ((order d).map fun o => (sucs d o).map fun t => ((ix t (order d) : Nat) : Int)).getD _ [] = _
    rw [List.getD_eq_getElem?_getD, List.getElem?_map, hg]; rfl
  rw [toN, hrow, List.getD_eq_getElem?_getD, List.getElem?_map, sucs_get hx]
  show ((ix (toN d s x) (order d) : Nat) : Int).toNat = _
  rw [Int.toNat_natCast]

theorem renum_fin {d : DFA} {s : Nat} (hs : s ∈ order d) : finN (renum d) (ix s (order d)) = finN d s := by
  show ((order d).map fun o => d.final.getD o false).getD _ false = _
  rw [List.getD_eq_getElem?_getD, List.getElem?_map, ix_get hs]; rfl

theorem order_run {d : DFA} (hv : Valid d) {s : Nat} (hs : s ∈ order d) : ∀ w, Wd d w → runN d s w ∈ order d := by
  refine snocInd (fun _ => hs) ?_
  intro w x ih hw
  rw [runN_snoc]
  exact order_closed hv _ (ih fun y hy => hw y (by simp [hy])) _ (List.mem_of_getElem? (sucs_get (hw x (by simp))))

theorem renum_run {d : DFA} (hv : Valid d) {s : Nat} (hs : s ∈ order d) : ∀ w, Wd d w → runN (renum d) (ix s (order d)) w = ix (runN d s w) (order d) := by
  refine snocInd (fun _ => rfl) ?_
  intro w x ih hw
  have hw' : Wd d w := fun y hy => hw y (by simp [hy])
  rw [runN_snoc, runN_snoc, ih hw', renum_step hv (order_run hv hs w hw') (hw x (by simp))]

theorem start_mem {d : DFA} (hv : Valid d) : d.start.toNat ∈ order d := by
  obtain ⟨r, hr⟩ := order_start hv
  rw [hr]; simp
theorem start_ix {d : DFA} (hv : Valid d) : ix d.start.toNat (order d) = 0 := by
  obtain ⟨r, hr⟩ := order_start hv
  rw [hr]; simp [ix]

/-- Is w accepted? -/
def acc (d : DFA) (w : List Nat) : Bool := finN d (runN d d.start.toNat w)

theorem start_lt {d : DFA} (hv : Valid d) : d.start.toNat < d.next.length := by have := hv.s0; have := hv.s1; omega

theorem renum_acc {d : DFA} (hv : Valid d) {w : List Nat} (hw : Wd d w) : acc (renum d) w = acc d w := by
  have h := renum_run hv (start_mem hv) w hw
  rw [start_ix hv] at h
  show finN (renum d) (runN (renum d) 0 w) = _
  rw [h, renum_fin (order_run hv (start_mem hv) w hw)]; rfl

theorem quoD_acc {d : DFA} (hv : Valid d) {w : List Nat} (hw : Wd d w) : acc (quoD d) w = acc d w := by
  unfold acc
  rw [quoD_start, quoD_run hv (start_lt hv) w hw, quoD_fin hv (runN_lt hv (start_lt hv) w hw)]

theorem minD_valid {d : DFA} (hv : Valid d) : Valid (minD d) := renum_valid (quoD_valid hv)
theorem minD_acc {d : DFA} (hv : Valid d) {w : List Nat} (hw : Wd d w) : acc (minD d) w = acc d w :=
  (renum_acc (quoD_valid hv) hw).trans (quoD_acc hv hw)

/-! ### automata that go along with one another are numbered alike -/

inductive All2 (ρ : Nat → Nat → Prop) : List Nat → List Nat → Prop
  | nil : All2 ρ [] []
  | cons {a b l m} : ρ a b → All2 ρ l m → All2 ρ (a :: l) (b :: m)

theorem All2.append {ρ : Nat → Nat → Prop} {l m l' m' : List Nat} (h : All2 ρ l m) (h' : All2 ρ l' m') : All2 ρ (l ++ l') (m ++ m') := by
  induction h with
  | nil => exact h'
  | cons h1 _ ih => exact .cons h1 ih
theorem All2.len {ρ : Nat → Nat → Prop} {l m : List Nat} (h : All2 ρ l m) : l.length = m.length := by
  induction h with
  | nil => rfl
  | cons _ _ ih => simp [ih]
theorem All2.get {ρ : Nat → Nat → Prop} {l m : List Nat} (h : All2 ρ l m) : ∀ {i a b : Nat}, l[i]? = some a → m[i]? = some b → ρ a b := by
  induction h with
  | nil => intro i a b h; simp at h
  | cons h1 _ ih =>
    intro i a b ha hb
    cases i with
    | zero => simp at ha hb; subst ha; subst hb; exact h1
    | succ i => exact ih (by simpa using ha) (by simpa using hb)

section
variable {ρ : Nat → Nat → Prop}
/-- ρ pairs states one to one. -/
def OneOne (ρ : Nat → Nat → Prop) : Prop := ∀ a b a' b', ρ a b → ρ a' b' → (a = a' ↔ b = b')

theorem All2.mem (ho : OneOne ρ) {l m : List Nat} (h : All2 ρ l m) {a b : Nat} (hab : ρ a b) : a ∈ l ↔ b ∈ m := by
  induction h with
  | nil => simp
  | cons h1 _ ih => rw [List.mem_cons, List.mem_cons, ih, ho _ _ _ _ hab h1]

theorem All2.ix (ho : OneOne ρ) {l m : List Nat} (h : All2 ρ l m) {a b : Nat} (hab : ρ a b) : Lx.ix a l = Lx.ix b m := by
  induction h with
  | nil => rfl
  | @cons x y l m h1 _ ih =>
    simp only [Lx.ix, ih]
    by_cases e : a = x
    · rw [if_pos e, if_pos ((ho _ _ _ _ hab h1).1 e)]
    · rw [if_neg e, if_neg (fun h => e ((ho _ _ _ _ hab h1).2 h))]

theorem All2.add (ho : OneOne ρ) {l m : List Nat} (h : All2 ρ l m) {a b : Nat} (hab : ρ a b) : All2 ρ (Lx.add l a) (Lx.add m b) := by
  unfold Lx.add
  by_cases e : a ∈ l
  · rw [if_pos e, if_pos ((h.mem ho hab).1 e)]; exact h
  · rw [if_neg e, if_neg (fun h9 => e ((h.mem ho hab).2 h9))]; exact h.append (.cons hab .nil)

theorem All2.foldl (ho : OneOne ρ) {xs ys : List Nat} (hx : All2 ρ xs ys) : ∀ {l m : List Nat}, All2 ρ l m → All2 ρ (xs.foldl Lx.add l) (ys.foldl Lx.add m) := by
  induction hx with
  | nil => intro l m h; exact h
  | cons h1 _ ih => intro l m h; exact ih (h.add ho h1)

theorem All2.map {f g : Nat → Nat} : ∀ (l : List Nat), (∀ x ∈ l, ρ (f x) (g x)) → All2 ρ (l.map f) (l.map g)
  | [], _ => .nil
  | x :: l, h => .cons (h x (by simp)) (All2.map l fun y hy => h y (by simp [hy]))

/-- What two automata that go along with one another have. -/
structure Bisim (ρ : Nat → Nat → Prop) (p q : DFA) : Prop where
  vars : p.vars = q.vars
  one : OneOne ρ
  start : ρ p.start.toNat q.start.toNat
  step : ∀ a b x, ρ a b → x < letN p → ρ (toN p a x) (toN q b x)
  fin : ∀ a b, ρ a b → finN p a = finN q b

theorem Bisim.sucs {p q : DFA} (h : Bisim ρ p q) {a b : Nat} (hab : ρ a b) : All2 ρ (sucs p a) (sucs q b) := by
  unfold Lx.sucs
  rw [← h.vars]
  exact All2.map _ fun x hx => h.step a b x hab (List.mem_range.1 hx)

theorem Bisim.bfs {p q : DFA} (h : Bisim ρ p q) : ∀ i, All2 ρ (bfsN p i) (bfsN q i)
  | 0 => .cons h.start .nil
  | i + 1 => by
    have ih := h.bfs i
    have hl := ih.len
    rw [bfsN, bfsN, ← hl]
    by_cases hi : i < (bfsN p i).length
    · rw [if_pos hi, if_pos hi]
      have hi2 : i < (bfsN q i).length := by omega
      have g1 := List.getElem?_eq_getElem hi
      have g2 := List.getElem?_eq_getElem hi2
      have e1 : (bfsN p i).getD i 0 = (bfsN p i)[i] := by rw [List.getD_eq_getElem?_getD, g1]; rfl
      have e2 : (bfsN q i).getD i 0 = (bfsN q i)[i] := by rw [List.getD_eq_getElem?_getD, g2]; rfl
      rw [e1, e2]
      exact (h.sucs (ih.get g1 g2)).foldl h.one ih
    · rw [if_neg hi, if_neg hi]; exact ih

theorem Bisim.order {p q : DFA} (h : Bisim ρ p q) (hp : Valid p) (hq : Valid q) : All2 ρ (order p) (order q) := by
  obtain ⟨N, h1, h2, _⟩ := order_stop hp
  have e1 := order_eq h2 h1
  have hb := h.bfs N
  have h2q : (bfsN q N).length = N := by rw [← hb.len]; exact h2
  have hNq : N ≤ q.next.length := by rw [← h2q]; exact bfsN_len hq N
  rw [e1, order_eq h2q hNq]
  exact hb

theorem Bisim.renum {p q : DFA} (h : Bisim ρ p q) (hp : Valid p) (hq : Valid q) : renum p = renum q := by
  have ho := h.order hp hq
  have rows : ∀ {l m : List Nat}, All2 ρ l m → (l.map fun o => (Lx.sucs p o).map fun t => ((Lx.ix t (Lx.order p) : Nat) : Int)) = m.map fun o => (Lx.sucs q o).map fun t => ((Lx.ix t (Lx.order q) : Nat) : Int) := by
    intro l m hlm
    induction hlm with
    | nil => rfl
    | cons h1 _ ih =>
      rw [List.map_cons, List.map_cons, ih]
      congr 1
      have hs := h.sucs h1
      have each : ∀ {x y : List Nat}, All2 ρ x y → (x.map fun t => ((Lx.ix t (Lx.order p) : Nat) : Int)) = y.map fun t => ((Lx.ix t (Lx.order q) : Nat) : Int) := by
        intro x y hxy
        induction hxy with
        | nil => rfl
        | cons h2 _ ih2 => rw [List.map_cons, List.map_cons, ih2, ho.ix h.one h2]
      exact each hs
  have fins : ∀ {l m : List Nat}, All2 ρ l m → (l.map fun o => p.final.getD o false) = m.map fun o => q.final.getD o false := by
    intro l m hlm
    induction hlm with
    | nil => rfl
    | cons h1 _ ih => rw [List.map_cons, List.map_cons, ih]; congr 1; exact h.fin _ _ h1
  unfold Lx.renum
  rw [rows ho, fins ho, h.vars]
end

/-- MYHILL AND NERODE: automata over the same letters that accept the same words have one minimal automaton. -/
theorem minD_unique {a b : DFA} (ha : Valid a) (hb : Valid b) (hvars : a.vars = b.vars) (h : ∀ w, Wd a w → acc a w = acc b w) : minD a = minD b := by
  have hwd : ∀ w, Wd a w ↔ Wd b w := fun w => by unfold Wd letN; rw [hvars]
  refine Bisim.renum (ρ := fun c1 c2 => ∃ s t, s < a.next.length ∧ t < b.next.length ∧ clsOf a s = c1 ∧ clsOf b t = c2 ∧ ∀ w, Wd a w → finN a (runN a s w) = finN b (runN b t w)) ⟨hvars, ?_, ?_, ?_, ?_⟩ (quoD_valid ha) (quoD_valid hb)
  · rintro c1 c2 c1' c2' ⟨s, t, hs, ht, rfl, rfl, hw⟩ ⟨s', t', hs', ht', rfl, rfl, hw'⟩
    rw [clsOf_iff ha hs hs', clsOf_iff hb ht ht']
    constructor
    · intro h1 u hu hd
      have hu' := (hwd u).2 hu
      refine h1 u hu' ?_
      unfold dst at *
      rw [hw u hu', hw' u hu']; exact hd
    · intro h1 u hu hd
      refine h1 u ((hwd u).1 hu) ?_
      unfold dst at *
      rw [← hw u hu, ← hw' u hu]; exact hd
  · exact ⟨a.start.toNat, b.start.toNat, start_lt ha, start_lt hb, (quoD_start a).symm, (quoD_start b).symm, h⟩
  · rintro c1 c2 x ⟨s, t, hs, ht, rfl, rfl, hw⟩ hx
    have hxa : x < letN a := hx
    have hxb : x < letN b := by unfold letN at *; rw [← hvars]; exact hxa
    refine ⟨toN a s x, toN b t x, toN_get ha hs hxa, toN_get hb ht hxb, (quoD_step ha hs hxa).symm, (quoD_step hb ht hxb).symm, fun w hww => ?_⟩
    exact hw (x :: w) (fun y hy => by rcases List.mem_cons.1 hy with rfl | hy; exact hxa; exact hww y hy)
  · rintro c1 c2 ⟨s, t, hs, ht, rfl, rfl, hw⟩
    show finN (quoD a) _ = finN (quoD b) _
    rw [quoD_fin ha hs, quoD_fin hb ht]
    exact hw [] (fun x hx => by cases hx)

end Go.Lx
