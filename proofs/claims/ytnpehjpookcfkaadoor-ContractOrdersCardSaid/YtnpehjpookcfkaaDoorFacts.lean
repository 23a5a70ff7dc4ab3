/- Contracts of functions of the program (Myh, Rnd, Word, Wrd2, Bol, Dct, Can, Bol2, Bol3, Bol4, Bol5, Bol6, Bol7, Bol8, Con, BolA, BolC, BolD, Inz, Sho, Shw, Ct, Csm, Facts): what each call answers and that it leaves memory as it was. Conditions: those each theorem names. -/
import Derived.Test.YtnpehjpookcfkaaDoorDR
import Derived.Test.YtnpehjpookcfkaaDoorDec
import Derived.Test.YtnpehjpookcfkaaDoorRows
set_option linter.unusedSectionVars false
set_option linter.unusedSimpArgs false
set_option linter.unusedVariables false
set_option linter.unnecessarySimpa false
namespace Go.Lx
set_option linter.unusedVariables false
def clsOf (d : DFA) (s : Nat) : Nat := (itF d d.next.length).getD s 0
theorem clsOf_iff {d : DFA} (hv : Val d) {s t : Nat} (hs : s < d.next.length) (ht : t < d.next.length) : clsOf d s = clsOf d t ↔ ∀ u, Wd d u → ¬ dst d s t u := cls_iff hv hs ht
theorem clsOf_fin {d : DFA} (hv : Val d) {s t : Nat} (hs : s < d.next.length) (ht : t < d.next.length) (h : clsOf d s = clsOf d t) : finN d s = finN d t := by
  have := (clsOf_iff hv hs ht).1 h [] (fun x hx => by cases hx)
  exact Classical.not_not.1 this
theorem clsOf_next {d : DFA} (hv : Val d) {s t x : Nat} (hs : s < d.next.length) (ht : t < d.next.length) (hx : x < letN d) (h : clsOf d s = clsOf d t) : clsOf d (toN d s x) = clsOf d (toN d t x) := by
  rw [clsOf_iff hv (toN_get hv hs hx) (toN_get hv ht hx)]
  intro u hu hd
  exact (clsOf_iff hv hs ht).1 h (x :: u) (fun y hy => by rcases List.mem_cons.1 hy with rfl | hy; exact hx; exact hu y hy) hd
theorem quoN_at {d : DFA} {cs : List Nat} (hl : cs.length = d.next.length) (hc : nrm cs = cs) : ∀ k, k ≤ d.next.length → ∀ c, c < (quoN d cs k).1.length → ∃ s, s < k ∧ cs.getD s 0 = c ∧ (quoN d cs k).1[c]? = some ((rowK cs (d.next.getD s [])).map fun c : Nat => (c : Int)) ∧ (quoN d cs k).2[c]? = some (finN d s)
  | 0, _, c, h => by simp [quoN] at h
  | k + 1, hk, c, h => by
    have ih := quoN_at hl hc k (by omega)
    have hlen := quoN_len d cs k
    by_cases hn : cs.getD k 0 < (quoN d cs k).1.length
    · rw [quoN, if_pos hn] at h ⊢
      obtain ⟨s, h1, h2⟩ := ih c h
      exact ⟨s, by omega, h2⟩
    · rw [quoN, if_neg hn] at h ⊢
      by_cases hcl : c < (quoN d cs k).1.length
      · obtain ⟨s, h1, h2, h3, h4⟩ := ih c hcl
        exact ⟨s, by omega, h2, by rw [List.getElem?_append_left hcl]; exact h3, by rw [List.getElem?_append_left (by omega)]; exact h4⟩
      · have hce : c = (quoN d cs k).1.length := by simp at h; omega
        refine ⟨k, by omega, ?_, ?_, ?_⟩
        · have h1 := quoN_cls (l := cs) hl hc.symm k (by omega)
          have h2 := quoN_cls (l := cs) hl hc.symm (k + 1) hk
          have hkl : k < cs.length := by omega
          have hg := List.getElem?_eq_getElem hkl
          have hck : cs.getD k 0 = ix cs[k] (dd cs) := by
            have := nrm_get hg
            rw [hc] at this
            rw [List.getD_eq_getElem?_getD, this]; rfl
          have hp2 : dd (cs.take (k + 1)) <+: dd cs := by
            conv => rhs; rw [← List.take_append_drop (k + 1) cs]
            rw [dd_append]; exact foldl_prefix _ _
          have hm : cs[k] ∈ dd (cs.take (k + 1)) := mem_dd.2 (by rw [List.take_succ_eq_append_getElem hkl]; exact List.mem_append_right _ (List.mem_singleton.2 rfl))
          have hlt := ix_lt hm
          rw [hck, ix_prefix hp2 hm]
          rw [hck, ix_prefix hp2 hm] at hn
          rw [quoN, if_neg (by rw [hck, ix_prefix hp2 hm]; exact hn)] at h2
          simp at h2
          omega
        · rw [hce, List.getElem?_append_right (Nat.le_refl _)]; simp
        · rw [hce, hlen.1, List.getElem?_append_right (Nat.le_refl _)]; simp [finN]
def quoD (d : DFA) : DFA := quo d (itF d d.next.length)
theorem quoD_val {d : DFA} (hv : Val d) : Val (quoD d) := (quo_itV hv d.next.length).1
theorem quoD_valid {d : DFA} (hv : Valid d) : Valid (quoD d) := (quo_itF hv d.next.length).1
theorem cls_lt {d : DFA} (hv : Val d) {s : Nat} (hs : s < d.next.length) : clsOf d s < (quoD d).next.length := by
  rw [quoD, quo_len (itF_length d _) (itF_can d _)]
  exact can_lt (itF_can d _) (itF_get hs)
theorem quoD_at {d : DFA} (hv : Val d) {c : Nat} (hc : c < (quoD d).next.length) : ∃ s, s < d.next.length ∧ clsOf d s = c ∧ finN (quoD d) c = finN d s ∧ ∀ x, x < letN d → toN (quoD d) c x = clsOf d (toN d s x) := by
  obtain ⟨s, h1, h2, h3, h4⟩ := quoN_at (itF_length d d.next.length) (itF_can d _) d.next.length (Nat.le_refl _) c hc
  refine ⟨s, h1, h2, ?_, ?_⟩
  · show (quoN d (itF d d.next.length) d.next.length).2.getD c false = _
    rw [List.getD_eq_getElem?_getD, h4]; rfl
  · intro x hx
    have hrow : (quoD d).next.getD c [] = (rowK (itF d d.next.length) (d.next.getD s [])).map fun c : Nat => (c : Int) := by
      show (quoN d (itF d d.next.length) d.next.length).1.getD c [] = _
      rw [List.getD_eq_getElem?_getD, h3]; rfl
    have hls : (d.next.getD s []).length = letN d := by simp [h1]; exact hv.len _ (List.getElem_mem h1)
    have hx' : x < (d.next.getD s []).length := by omega
    have e1 : (d.next.getD s []).getD x 0 = (d.next.getD s [])[x] := by rw [List.getD_eq_getElem?_getD, List.getElem?_eq_getElem hx']; rfl
    rw [toN, hrow, List.getD_eq_getElem?_getD, List.getElem?_map, rowK, List.getElem?_map, List.getElem?_eq_getElem hx']
    show (((itF d d.next.length).getD (d.next.getD s [])[x].toNat 0 : Nat) : Int).toNat = clsOf d (toN d s x)
    rw [Int.toNat_natCast, clsOf, toN, e1]
theorem quoD_step {d : DFA} (hv : Val d) {s x : Nat} (hs : s < d.next.length) (hx : x < letN d) : toN (quoD d) (clsOf d s) x = clsOf d (toN d s x) := by
  obtain ⟨s', h1, h2, _, h4⟩ := quoD_at hv (cls_lt hv hs)
  rw [h4 x hx]
  exact clsOf_next hv h1 hs hx h2
theorem quoD_fin {d : DFA} (hv : Val d) {s : Nat} (hs : s < d.next.length) : finN (quoD d) (clsOf d s) = finN d s := by
  obtain ⟨s', h1, h2, h3, _⟩ := quoD_at hv (cls_lt hv hs)
  rw [h3]; exact clsOf_fin hv h1 hs h2
theorem quoD_run {d : DFA} (hv : Val d) {s : Nat} (hs : s < d.next.length) : ∀ w, Wd d w → runN (quoD d) (clsOf d s) w = clsOf d (runN d s w) := by
  refine snocInd (fun _ => rfl) ?_
  intro w x ih hw
  have hw' : Wd d w := fun y hy => hw y (by simp [hy])
  rw [runN_snoc, runN_snoc, ih hw', quoD_step hv (runN_lt hv hs w hw') (hw x (by simp))]
theorem quoD_start (d : DFA) : (quoD d).start.toNat = clsOf d d.start.toNat := by
  show (((itF d d.next.length).getD d.start.toNat 0 : Nat) : Int).toNat = _
  rw [Int.toNat_natCast]; rfl
theorem order_start {d : DFA} (hv : Val d) : ∃ r, order d = d.start.toNat :: r := by
  have hp := bfsN_prefix d 0 d.next.length (Nat.zero_le _)
  obtain ⟨r, hr⟩ := hp
  exact ⟨r, hr.symm⟩
theorem renum_val {d : DFA} (hv : Val d) : Val (renum d) := by
  obtain ⟨r, hr⟩ := order_start hv
  have hl := order_len hv
  have hpos : 0 < (order d).length := by rw [hr]; simp
  refine ⟨hv.v0, hv.v6, ?_, ?_, Int.le_refl _, ?_, ?_, ?_⟩
  · simpa [renum] using hpos
  · simp [renum]
  · show (0 : Int) < ((renum d).next.length : Nat)
    simp only [renum, List.length_map]; omega
  · intro r hr
    obtain ⟨o, ho, rfl⟩ := List.mem_map.1 hr
    rw [List.length_map, sucs_length]; rfl
  · intro r hr x hx
    obtain ⟨o, ho, rfl⟩ := List.mem_map.1 hr
    obtain ⟨t, ht, rfl⟩ := List.mem_map.1 hx
    refine ⟨Int.natCast_nonneg _, ?_⟩
    have := ix_lt (order_closed hv o ho t ht)
    simp only [renum, List.length_map]; omega
theorem renum_step {d : DFA} (hv : Val d) {s x : Nat} (hs : s ∈ order d) (hx : x < letN d) : toN (renum d) (ix s (order d)) x = ix (toN d s x) (order d) := by
  have hg := ix_get hs
  have hrow : (renum d).next.getD (ix s (order d)) [] = (sucs d s).map fun t => ((ix t (order d) : Nat) : Int) := by
    show ((order d).map fun o => (sucs d o).map fun t => ((ix t (order d) : Nat) : Int)).getD _ [] = _
    rw [List.getD_eq_getElem?_getD, List.getElem?_map, hg]; rfl
  rw [toN, hrow, List.getD_eq_getElem?_getD, List.getElem?_map, sucs_get hx]
  show ((ix (toN d s x) (order d) : Nat) : Int).toNat = _
  rw [Int.toNat_natCast]
theorem renum_fin {d : DFA} {s : Nat} (hs : s ∈ order d) : finN (renum d) (ix s (order d)) = finN d s := by
  show ((order d).map fun o => d.final.getD o false).getD _ false = _
  rw [List.getD_eq_getElem?_getD, List.getElem?_map, ix_get hs]; rfl
theorem order_run {d : DFA} (hv : Val d) {s : Nat} (hs : s ∈ order d) : ∀ w, Wd d w → runN d s w ∈ order d := by
  refine snocInd (fun _ => hs) ?_
  intro w x ih hw
  rw [runN_snoc]
  exact order_closed hv _ (ih fun y hy => hw y (by simp [hy])) _ (List.mem_of_getElem? (sucs_get (hw x (by simp))))
theorem renum_run {d : DFA} (hv : Val d) {s : Nat} (hs : s ∈ order d) : ∀ w, Wd d w → runN (renum d) (ix s (order d)) w = ix (runN d s w) (order d) := by
  refine snocInd (fun _ => rfl) ?_
  intro w x ih hw
  have hw' : Wd d w := fun y hy => hw y (by simp [hy])
  rw [runN_snoc, runN_snoc, ih hw', renum_step hv (order_run hv hs w hw') (hw x (by simp))]
theorem start_mem {d : DFA} (hv : Val d) : d.start.toNat ∈ order d := by
  obtain ⟨r, hr⟩ := order_start hv
  rw [hr]; simp
theorem start_ix {d : DFA} (hv : Val d) : ix d.start.toNat (order d) = 0 := by
  obtain ⟨r, hr⟩ := order_start hv
  rw [hr]; simp [ix]
def acc (d : DFA) (w : List Nat) : Bool := finN d (runN d d.start.toNat w)
theorem start_lt {d : DFA} (hv : Val d) : d.start.toNat < d.next.length := by have := hv.s0; have := hv.s1; omega
theorem renum_acc {d : DFA} (hv : Val d) {w : List Nat} (hw : Wd d w) : acc (renum d) w = acc d w := by
  have h := renum_run hv (start_mem hv) w hw
  rw [start_ix hv] at h
  show finN (renum d) (runN (renum d) 0 w) = _
  rw [h, renum_fin (order_run hv (start_mem hv) w hw)]; rfl
theorem quoD_acc {d : DFA} (hv : Val d) {w : List Nat} (hw : Wd d w) : acc (quoD d) w = acc d w := by
  unfold acc
  rw [quoD_start, quoD_run hv (start_lt hv) w hw, quoD_fin hv (runN_lt hv (start_lt hv) w hw)]
theorem minD_val {d : DFA} (hv : Val d) : Val (minD d) := renum_val (quoD_val hv)
theorem renum_fit {d : DFA} (hv : Val d) (h : (order d).length ≤ 4096) : Valid (renum d) := ⟨renum_val hv, by simpa [renum] using h⟩
theorem renum_valid {d : DFA} (hv : Valid d) : Valid (renum d) := renum_fit hv (Nat.le_trans (order_len hv.toVal) hv.n4)
theorem minD_valid {d : DFA} (hv : Valid d) : Valid (minD d) := renum_valid (quoD_valid hv)
theorem minD_acc {d : DFA} (hv : Val d) {w : List Nat} (hw : Wd d w) : acc (minD d) w = acc d w :=
  (renum_acc (quoD_val hv) hw).trans (quoD_acc hv hw)
inductive All2 (ρ : Nat → Nat → Prop) : List Nat → List Nat → Prop
  | nil : All2 ρ [] []
  | cons {a b l m} : ρ a b → All2 ρ l m → All2 ρ (a :: l) (b :: m)
theorem All2.append {ρ : Nat → Nat → Prop} {l m l' m' : List Nat} (h : All2 ρ l m) (h' : All2 ρ l' m') : All2 ρ (l ++ l') (m ++ m') := by
  induction h with
  | nil => exact h'
  | cons h1 _ ih => exact .cons h1 ih
theorem All2.len {ρ : Nat → Nat → Prop} {l m : List Nat} (h : All2 ρ l m) : l.length = m.length := by
  induction h with
  | nil => rfl
  | cons _ _ ih => simp [ih]
theorem All2.get {ρ : Nat → Nat → Prop} {l m : List Nat} (h : All2 ρ l m) : ∀ {i a b : Nat}, l[i]? = some a → m[i]? = some b → ρ a b := by
  induction h with
  | nil => intro i a b h; simp at h
  | cons h1 _ ih =>
    intro i a b ha hb
    cases i with
    | zero => simp at ha hb; subst ha; subst hb; exact h1
    | succ i => exact ih (by simpa using ha) (by simpa using hb)
section
variable {ρ : Nat → Nat → Prop}
def OneOne (ρ : Nat → Nat → Prop) : Prop := ∀ a b a' b', ρ a b → ρ a' b' → (a = a' ↔ b = b')
theorem All2.mem (ho : OneOne ρ) {l m : List Nat} (h : All2 ρ l m) {a b : Nat} (hab : ρ a b) : a ∈ l ↔ b ∈ m := by
  induction h with
  | nil => simp
  | cons h1 _ ih => rw [List.mem_cons, List.mem_cons, ih, ho _ _ _ _ hab h1]
theorem All2.ix (ho : OneOne ρ) {l m : List Nat} (h : All2 ρ l m) {a b : Nat} (hab : ρ a b) : Lx.ix a l = Lx.ix b m := by
  induction h with
  | nil => rfl
  | @cons x y l m h1 _ ih =>
    simp only [Lx.ix, ih]
    by_cases e : a = x
    · rw [if_pos e, if_pos ((ho _ _ _ _ hab h1).1 e)]
    · rw [if_neg e, if_neg (fun h => e ((ho _ _ _ _ hab h1).2 h))]
theorem All2.add (ho : OneOne ρ) {l m : List Nat} (h : All2 ρ l m) {a b : Nat} (hab : ρ a b) : All2 ρ (Lx.add l a) (Lx.add m b) := by
  unfold Lx.add
  by_cases e : a ∈ l
  · rw [if_pos e, if_pos ((h.mem ho hab).1 e)]; exact h
  · rw [if_neg e, if_neg (fun h9 => e ((h.mem ho hab).2 h9))]; exact h.append (.cons hab .nil)
theorem All2.foldl (ho : OneOne ρ) {xs ys : List Nat} (hx : All2 ρ xs ys) : ∀ {l m : List Nat}, All2 ρ l m → All2 ρ (xs.foldl Lx.add l) (ys.foldl Lx.add m) := by
  induction hx with
  | nil => intro l m h; exact h
  | cons h1 _ ih => intro l m h; exact ih (h.add ho h1)
theorem All2.map {f g : Nat → Nat} : ∀ (l : List Nat), (∀ x ∈ l, ρ (f x) (g x)) → All2 ρ (l.map f) (l.map g)
  | [], _ => .nil
  | x :: l, h => .cons (h x (by simp)) (All2.map l fun y hy => h y (by simp [hy]))
structure Bisim (ρ : Nat → Nat → Prop) (p q : DFA) : Prop where
  vars : p.vars = q.vars
  one : OneOne ρ
  start : ρ p.start.toNat q.start.toNat
  step : ∀ a b x, ρ a b → x < letN p → ρ (toN p a x) (toN q b x)
  fin : ∀ a b, ρ a b → finN p a = finN q b
theorem Bisim.sucs {p q : DFA} (h : Bisim ρ p q) {a b : Nat} (hab : ρ a b) : All2 ρ (sucs p a) (sucs q b) := by
  unfold Lx.sucs
  rw [← h.vars]
  exact All2.map _ fun x hx => h.step a b x hab (List.mem_range.1 hx)
theorem Bisim.bfs {p q : DFA} (h : Bisim ρ p q) : ∀ i, All2 ρ (bfsN p i) (bfsN q i)
  | 0 => .cons h.start .nil
  | i + 1 => by
    have ih := h.bfs i
    have hl := ih.len
    rw [bfsN, bfsN, ← hl]
    by_cases hi : i < (bfsN p i).length
    · rw [if_pos hi, if_pos hi]
      have hi2 : i < (bfsN q i).length := by omega
      have g1 := List.getElem?_eq_getElem hi
      have g2 := List.getElem?_eq_getElem hi2
      have e1 : (bfsN p i).getD i 0 = (bfsN p i)[i] := by rw [List.getD_eq_getElem?_getD, g1]; rfl
      have e2 : (bfsN q i).getD i 0 = (bfsN q i)[i] := by rw [List.getD_eq_getElem?_getD, g2]; rfl
      rw [e1, e2]
      exact (h.sucs (ih.get g1 g2)).foldl h.one ih
    · rw [if_neg hi, if_neg hi]; exact ih
theorem Bisim.order {p q : DFA} (h : Bisim ρ p q) (hp : Val p) (hq : Val q) : All2 ρ (order p) (order q) := by
  obtain ⟨N, h1, h2, _⟩ := order_stop hp
  have e1 := order_eq h2 h1
  have hb := h.bfs N
  have h2q : (bfsN q N).length = N := by rw [← hb.len]; exact h2
  have hNq : N ≤ q.next.length := by rw [← h2q]; exact bfsN_len hq N
  rw [e1, order_eq h2q hNq]
  exact hb
theorem Bisim.renum {p q : DFA} (h : Bisim ρ p q) (hp : Val p) (hq : Val q) : renum p = renum q := by
  have ho := h.order hp hq
  have rows : ∀ {l m : List Nat}, All2 ρ l m → (l.map fun o => (Lx.sucs p o).map fun t => ((Lx.ix t (Lx.order p) : Nat) : Int)) = m.map fun o => (Lx.sucs q o).map fun t => ((Lx.ix t (Lx.order q) : Nat) : Int) := by
    intro l m hlm
    induction hlm with
    | nil => rfl
    | cons h1 _ ih =>
      rw [List.map_cons, List.map_cons, ih]
      congr 1
      have hs := h.sucs h1
      have each : ∀ {x y : List Nat}, All2 ρ x y → (x.map fun t => ((Lx.ix t (Lx.order p) : Nat) : Int)) = y.map fun t => ((Lx.ix t (Lx.order q) : Nat) : Int) := by
        intro x y hxy
        induction hxy with
        | nil => rfl
        | cons h2 _ ih2 => rw [List.map_cons, List.map_cons, ih2, ho.ix h.one h2]
      exact each hs
  have fins : ∀ {l m : List Nat}, All2 ρ l m → (l.map fun o => p.final.getD o false) = m.map fun o => q.final.getD o false := by
    intro l m hlm
    induction hlm with
    | nil => rfl
    | cons h1 _ ih => rw [List.map_cons, List.map_cons, ih]; congr 1; exact h.fin _ _ h1
  unfold Lx.renum
  rw [rows ho, fins ho, h.vars]
end
theorem minD_unique {a b : DFA} (ha : Val a) (hb : Val b) (hvars : a.vars = b.vars) (h : ∀ w, Wd a w → acc a w = acc b w) : minD a = minD b := by
  have hwd : ∀ w, Wd a w ↔ Wd b w := fun w => by unfold Wd letN; rw [hvars]
  refine Bisim.renum (ρ := fun c1 c2 => ∃ s t, s < a.next.length ∧ t < b.next.length ∧ clsOf a s = c1 ∧ clsOf b t = c2 ∧ ∀ w, Wd a w → finN a (runN a s w) = finN b (runN b t w)) ⟨hvars, ?_, ?_, ?_, ?_⟩ (quoD_val ha) (quoD_val hb)
  · rintro c1 c2 c1' c2' ⟨s, t, hs, ht, rfl, rfl, hw⟩ ⟨s', t', hs', ht', rfl, rfl, hw'⟩
    rw [clsOf_iff ha hs hs', clsOf_iff hb ht ht']
    constructor
    · intro h1 u hu hd
      have hu' := (hwd u).2 hu
      refine h1 u hu' ?_
      unfold dst at *
      rw [hw u hu', hw' u hu']; exact hd
    · intro h1 u hu hd
      refine h1 u ((hwd u).1 hu) ?_
      unfold dst at *
      rw [← hw u hu, ← hw' u hu]; exact hd
  · exact ⟨a.start.toNat, b.start.toNat, start_lt ha, start_lt hb, (quoD_start a).symm, (quoD_start b).symm, h⟩
  · rintro c1 c2 x ⟨s, t, hs, ht, rfl, rfl, hw⟩ hx
    have hxa : x < letN a := hx
    have hxb : x < letN b := by unfold letN at *; rw [← hvars]; exact hxa
    refine ⟨toN a s x, toN b t x, toN_get ha hs hxa, toN_get hb ht hxb, (quoD_step ha hs hxa).symm, (quoD_step hb ht hxb).symm, fun w hww => ?_⟩
    exact hw (x :: w) (fun y hy => by rcases List.mem_cons.1 hy with rfl | hy; exact hxa; exact hww y hy)
  · rintro c1 c2 ⟨s, t, hs, ht, rfl, rfl, hw⟩
    show finN (quoD a) _ = finN (quoD b) _
    rw [quoD_fin ha hs, quoD_fin hb ht]
    exact hw [] (fun x hx => by cases hx)
end Go.Lx

namespace Go.Lx
set_option linter.unusedVariables false
theorem rndsV_eq {d : DFA} (hv : Valid d) (k : Int) : rndsV d k = itF d k.toNat := by
  unfold rndsV; rw [if_pos (checkD_zero.2 hv)]
theorem rndsV_len {d : DFA} (hv : Valid d) (k : Int) : (rndsV d k).length = d.next.length := by
  rw [rndsV_eq hv, itF_length]
theorem getD_idx {l : List Nat} {i : Nat} (h : i < l.length) : l.getD i 0 = l[i] := by
  rw [List.getD_eq_getElem?_getD, List.getElem?_eq_getElem h]; rfl
theorem rnds_split {d : DFA} (hv : Valid d) {k : Int} (hk : 0 ≤ k) {i j : Nat} (hi : i < (rndsV d k).length) (hj : j < (rndsV d k).length) (hi' : i < (rndsV d (k + 1)).length) (hj' : j < (rndsV d (k + 1)).length)
    (h : (rndsV d (k + 1))[i] = (rndsV d (k + 1))[j]) : (rndsV d k)[i] = (rndsV d k)[j] := by
  have hin : i < d.next.length := by rw [← rndsV_len hv k]; exact hi
  have hjn : j < d.next.length := by rw [← rndsV_len hv k]; exact hj
  rw [← getD_idx hi', ← getD_idx hj', rndsV_eq hv, itF_iff hv _ i j hin hjn] at h
  rw [← getD_idx hi, ← getD_idx hj, rndsV_eq hv, itF_iff hv _ i j hin hjn, ← Bool.not_eq_true]
  intro hh
  rw [dif_mono (by omega) hh] at h
  cases h
theorem rnds_stable {d : DFA} (hv : Valid d) {k : Int} (hk : 0 ≤ k) (h : rndsV d k = rndsV d (k + 1)) : rndsV d k = rndsV d d.next.length := by
  rw [rndsV_eq hv, rndsV_eq hv] at h
  rw [rndsV_eq hv, rndsV_eq hv]
  have e1 : (k + 1).toNat = k.toNat + 1 := by omega
  have e2 : ((d.next.length : Nat) : Int).toNat = d.next.length := by omega
  rw [e1] at h
  rw [e2]
  have hs : refineF d (itF d k.toNat) = itF d k.toNat := by rw [← itF]; exact h.symm
  by_cases hn : k.toNat ≤ d.next.length
  · exact (itF_stable hs _ hn).symm
  · exact itF_stab hv _ (by omega)
theorem rnds_tell {d : DFA} (hv : Valid d) {k : Int} (hk : 0 ≤ k) {s t : Nat} (hs : s < (rndsV d k).length) (ht : t < (rndsV d k).length) {res : Option (List Nat)} (h : Tell d s t res) :
    ¬ ((((rndsV d k)[s] : Nat) : Int) = (((rndsV d k)[t] : Nat) : Int)) ↔ (res.isSome = true ∧ (((res.getD []).length : Nat) : Int) ≤ k) := by
  have hsn : s < d.next.length := by rw [← rndsV_len hv k]; exact hs
  have htn : t < d.next.length := by rw [← rndsV_len hv k]; exact ht
  have e : (((rndsV d k)[s] : Nat) : Int) = (((rndsV d k)[t] : Nat) : Int) ↔ dif d k.toNat s t = false := by
    rw [← itF_iff hv _ s t hsn htn, ← rndsV_eq hv, getD_idx hs, getD_idx ht]
    omega
  rw [e, Bool.not_eq_false, dif_iff]
  cases res with
  | none =>
    refine ⟨fun ⟨u, h1, _, h3⟩ => absurd h3 (h u h1), fun ⟨h, _⟩ => by cases h⟩
  | some w =>
    have h : IsLeast d s t w := h
    refine ⟨fun ⟨u, h1, h2, h3⟩ => ⟨rfl, ?_⟩, fun ⟨_, h2⟩ => ⟨w, h.wd, ?_, h.dst⟩⟩
    · have := code_len w u (hv.wd64 h.wd) (hv.wd64 h1) (h.le u h1 h3)
      show ((w.length : Nat) : Int) ≤ k
      omega
    · have h2 : ((w.length : Nat) : Int) ≤ k := h2
      omega
theorem cls_tell {d : DFA} (hv : Valid d) {s t : Nat} (hs : s < (rndsV d d.next.length).length) (ht : t < (rndsV d d.next.length).length) {res : Option (List Nat)} (h : Tell d s t res) :
    ¬ ((((rndsV d d.next.length)[s] : Nat) : Int) = (((rndsV d d.next.length)[t] : Nat) : Int)) ↔ res.isSome = true := by
  have hsn : s < d.next.length := by rw [← rndsV_len hv d.next.length]; exact hs
  have htn : t < d.next.length := by rw [← rndsV_len hv d.next.length]; exact ht
  rw [rnds_tell hv (Int.natCast_nonneg _) hs ht h]
  refine ⟨fun h => h.1, fun hh => ⟨hh, ?_⟩⟩
  cases res with
  | none => cases hh
  | some w =>
    have := Tell.len hv hsn htn h
    show ((w.length : Nat) : Int) ≤ _
    omega
theorem eD_eight {d : DFA} {s t : Int} (hv : Valid d) (h : ¬ eD d s t = 0) : eD d s t = 8 := by
  have he := checkD_zero.2 hv
  unfold eD at *
  rw [if_neg (by simp [he])] at *
  split
  · rfl
  · rename_i h2; rw [if_neg h2] at h; exact absurd rfl h
end Go.Lx

namespace Go.Lx
set_option linter.unusedVariables false
def runE (d : DFA) (w : List Nat) : Nat := if checkD d ≠ 0 then checkD d else if 64 < w.length then 4 else if w.any (fun x => decide (2 ^ d.vars.toNat ≤ x)) = true then 1 else 0
def runV (d : DFA) (w : List Nat) : Nat := if runE d w = 0 then runN d d.start.toNat w else 0
def accV (d : DFA) (w : List Nat) : Bool := if runE d w = 0 then finN d (runN d d.start.toNat w) else false
theorem runE_zero {d : DFA} {w : List Nat} : runE d w = 0 ↔ Valid d ∧ w.length ≤ 64 ∧ Wd d w := by
  unfold runE
  by_cases h : checkD d = 0
  · rw [if_neg (by simp [h])]
    by_cases h2 : 64 < w.length
    · rw [if_pos h2]; exact ⟨fun h => absurd h (by decide), fun h => by omega⟩
    · rw [if_neg h2]
      by_cases h3 : w.any (fun x => decide (2 ^ d.vars.toNat ≤ x)) = true
      · rw [if_pos h3]
        refine ⟨fun h => absurd h (by decide), fun h => ?_⟩
        obtain ⟨x, hx, hx2⟩ := List.any_eq_true.1 h3
        have := h.2.2 x hx
        simp at hx2
        unfold letN at this
        omega
      · rw [if_neg h3]
        refine ⟨fun _ => ⟨checkD_zero.1 h, by omega, fun x hx => ?_⟩, fun _ => rfl⟩
        rcases Nat.lt_or_ge x (letN d) with h4 | h4
        · exact h4
        · exact absurd (List.any_eq_true.2 ⟨x, hx, decide_eq_true h4⟩) h3
  · rw [if_pos h]; exact ⟨fun e => absurd e h, fun hh => absurd (checkD_zero.2 hh.1) h⟩
theorem runN_take {d : DFA} {s : Nat} {w : List Nat} {k : Nat} (hk : k < w.length) : runN d s (w.take (k + 1)) = toN d (runN d s (w.take k)) w[k] := by
  rw [List.take_succ_eq_append_getElem hk, runN_snoc]
end Go.Lx

namespace Go.Lx
set_option linter.unusedVariables false
theorem bfsN_reach {d : DFA} (hv : Val d) : ∀ i, ∀ o ∈ bfsN d i, ∃ w, Wd d w ∧ runN d d.start.toNat w = o
  | 0, o, h => by
    simp only [bfsN, List.mem_singleton] at h
    subst h
    exact ⟨[], fun x hx => (List.not_mem_nil hx).elim, rfl⟩
  | i + 1, o, h => by
    rw [bfsN] at h
    split at h
    · rename_i hi
      rcases (mem_foldl_add _ _).1 h with h | h
      · exact bfsN_reach hv i o h
      · obtain ⟨x, hx, rfl⟩ := List.mem_map.1 h
        have hm : (bfsN d i).getD i 0 ∈ bfsN d i := by
          rw [List.getD_eq_getElem?_getD, List.getElem?_eq_getElem hi]; exact List.getElem_mem hi
        obtain ⟨w, hw, he⟩ := bfsN_reach hv i _ hm
        refine ⟨w ++ [x], fun y hy => ?_, by rw [runN_snoc, he]⟩
        rcases List.mem_append.1 hy with hy | hy
        · exact hw y hy
        · rw [List.mem_singleton.1 hy]; exact List.mem_range.1 hx
    · exact bfsN_reach hv i o h
theorem map_nodup {f : Nat → Nat} : ∀ {l : List Nat}, l.Nodup → (∀ a ∈ l, ∀ b ∈ l, f a = f b → a = b) → (l.map f).Nodup
  | [], _, _ => List.nodup_nil
  | a :: l, hn, hi => by
    obtain ⟨h1, h2⟩ := List.nodup_cons.1 hn
    rw [List.map_cons, List.nodup_cons]
    refine ⟨fun hm => ?_, map_nodup h2 fun x hx y hy => hi x (by simp [hx]) y (by simp [hy])⟩
    obtain ⟨y, hy, e⟩ := List.mem_map.1 hm
    have := hi a (by simp) y (by simp [hy]) e.symm
    exact h1 (this ▸ hy)
theorem full_length {n : Nat} {l : List Nat} (h : ∀ c, c < n → c ∈ l) : n ≤ l.length := by
  have h1 : ((List.range n).map fun c => ix c l).Nodup := map_nodup List.nodup_range fun a ha b hb e => ix_inj (h a (List.mem_range.1 ha)) (h b (List.mem_range.1 hb)) e
  have h2 := nodup_bound (n := l.length) h1 fun x hx => by
    obtain ⟨c, hc, rfl⟩ := List.mem_map.1 hx
    exact ix_lt (h c (List.mem_range.1 hc))
  simpa using h2
theorem renum_classes {d : DFA} (hv : Val d) : (quoD (renum d)).next.length = (minD (renum d)).next.length := by
  have hR := renum_val hv
  have hq := quoD_val hR
  have hall : ∀ c, c < (quoD (renum d)).next.length → c ∈ order (quoD (renum d)) := by
    intro c hc
    obtain ⟨i, hi, hic, _, _⟩ := quoD_at hR hc
    have hio : i < (order d).length := by simpa [renum] using hi
    obtain ⟨w, hw, he⟩ := bfsN_reach hv d.next.length (order d)[i] (List.getElem_mem hio)
    have hwR : Wd (renum d) w := hw
    have h1 := renum_run hv (start_mem hv) w hw
    rw [start_ix hv, he] at h1
    have hnd : (order d).Nodup := (bfsN_ok hv _).1
    have hix : ix (order d)[i] (order d) = i := by
      have g := ix_get (List.getElem_mem hio)
      exact (List.getElem_inj (h₀ := ix_lt (List.getElem_mem hio)) (h₁ := hio) hnd).1 (Option.some.inj (by rw [← List.getElem?_eq_getElem, g]))
    rw [hix] at h1
    have h2 := quoD_run hR (start_lt hR) w hwR
    have h3 := order_run hq (start_mem hq) w hwR
    rw [quoD_start, h2] at h3
    have h4 : runN (renum d) (renum d).start.toNat w = i := h1
    rw [h4, hic] at h3
    exact h3
  have h1 := full_length hall
  have h2 := order_len hq
  show _ = (renum (quoD (renum d))).next.length
  simp only [renum, List.length_map]
  exact Nat.le_antisymm h1 h2
theorem minD_renum {d : DFA} (hv : Val d) : minD (renum d) = minD d := minD_unique (renum_val hv) hv rfl fun w hw => renum_acc hv hw
theorem minD_min {d : DFA} (hv : Val d) : minD (minD d) = minD d := minD_unique (minD_val hv) hv rfl fun w hw => minD_acc hv hw
theorem minV_valid {d : DFA} (hv : Valid d) : minV d = minD d := by unfold minV; rw [if_pos (checkD_zero.2 hv)]
theorem can_step {l : List Nat} (hc : nrm l = l) {s : Nat} (hs : s < l.length) : (dd (l.take (s + 1))).length = max (dd (l.take s)).length (l[s] + 1) := by
  have hg := List.getElem?_eq_getElem hs
  have hck : l[s] = ix l[s] (dd l) := by
    have h2 := nrm_get hg
    rw [hc, hg] at h2
    exact Option.some.inj h2
  have hpre : ∀ k, dd (l.take k) <+: dd l := fun k => by
    conv => rhs; rw [← List.take_append_drop k l]
    rw [dd_append]; exact foldl_prefix _ _
  by_cases hm : l[s] ∈ l.take s
  · rw [List.take_succ_eq_append_getElem hs, dd_mem_snoc hm]
    have h1 := ix_lt (mem_dd.2 hm)
    rw [← ix_prefix (hpre s) (mem_dd.2 hm), ← hck] at h1
    omega
  · have h1 : l[s] ∈ dd (l.take (s + 1)) := mem_dd.2 (by rw [List.take_succ_eq_append_getElem hs]; exact List.mem_append_right _ (List.mem_singleton.2 rfl))
    have h2 : ix l[s] (dd (l.take (s + 1))) = (dd (l.take s)).length := by
      rw [List.take_succ_eq_append_getElem hs, dd_new_snoc hm, ix_append_right (fun h => hm (mem_dd.1 h))]; simp [ix]
    rw [← ix_prefix (hpre (s + 1)) h1, ← hck] at h2
    rw [List.take_succ_eq_append_getElem hs, dd_new_snoc hm, List.length_append, List.length_singleton]
    omega
theorem words_many {d : DFA} (hv : Valid d) : (dd (rndsV (renum d) (renum d).next.length)).length = (minD d).next.length := by
  have hR := renum_valid hv
  rw [rndsV_eq hR, show (((renum d).next.length : Nat) : Int).toNat = (renum d).next.length by omega, ← quo_len (itF_length (renum d) _) (itF_can _ _), ← minD_renum hv.toVal, ← renum_classes hv.toVal]
  rfl
theorem runE_min {d : DFA} (hv : Valid d) (w : List Nat) : runE (minD d) w = runE d w := by
  unfold runE
  rw [checkD_zero.2 hv, checkD_zero.2 (minD_valid hv)]
  rfl
theorem accV_min {d : DFA} (hv : Valid d) (w : List Nat) : accV (minD d) w = accV d w := by
  unfold accV
  rw [runE_min hv]
  by_cases h : runE d w = 0
  · rw [if_pos h, if_pos h]
    exact minD_acc hv (runE_zero.1 h).2.2
  · rw [if_neg h, if_neg h]
end Go.Lx

namespace Go.Lx
open Go.RowKit
set_option linter.unusedVariables false
def prRow (a b : DFA) (s t : Nat) : List Int := (List.range (letN a)).map fun x => ((toN a s x * b.next.length + toN b t x : Nat) : Int)
def prNext (a b : DFA) : List (List Int) := (List.range (a.next.length * b.next.length)).map fun c => prRow a b (c / b.next.length) (c % b.next.length)
def prFin (f : Bool → Bool → Bool) (a b : DFA) : List Bool := (List.range (a.next.length * b.next.length)).map fun c => f (finN a (c / b.next.length)) (finN b (c % b.next.length))
def prodD (f : Bool → Bool → Bool) (a b : DFA) : DFA := ⟨a.vars, ((a.start.toNat * b.next.length + b.start.toNat : Nat) : Int), prNext a b, prFin f a b⟩
theorem pr_div {n s t : Nat} (ht : t < n) : (s * n + t) / n = s ∧ (s * n + t) % n = t := by
  rw [Nat.mul_comm]
  exact ⟨by rw [Nat.mul_add_div (by omega), Nat.div_eq_of_lt ht, Nat.add_zero], by rw [Nat.mul_add_mod, Nat.mod_eq_of_lt ht]⟩
theorem pr_lt {n k s t : Nat} (hs : s < k) (ht : t < n) : s * n + t < k * n := by
  have := Nat.mul_le_mul_right n (show s + 1 ≤ k by omega); rw [Nat.succ_mul] at this; omega
theorem pr_split {n k c : Nat} (h : c < k * n) : c / n < k ∧ c % n < n := by
  have hn : 0 < n := by
    rcases Nat.eq_zero_or_pos n with h0 | h0
    · rw [h0, Nat.mul_zero] at h; exact absurd h (Nat.not_lt_zero _)
    · exact h0
  exact ⟨(Nat.div_lt_iff_lt_mul hn).2 h, Nat.mod_lt _ hn⟩
theorem prod_len (f : Bool → Bool → Bool) (a b : DFA) : (prodD f a b).next.length = a.next.length * b.next.length := by
  show (prNext a b).length = _; unfold prNext; simp
theorem prod_val {f : Bool → Bool → Bool} {a b : DFA} (ha : Val a) (hb : Val b) (hv : a.vars = b.vars) : Val (prodD f a b) := by
  have a0 := start_lt ha; have b0 := start_lt hb
  have hlt := pr_lt a0 b0
  refine { v0 := ha.v0, v6 := ha.v6, n0 := ?_, fin := ?_, s0 := ?_, s1 := ?_, len := ?_, ok := ?_ }
  · rw [prod_len]; omega
  · rw [prod_len]; show (prFin f a b).length = _; unfold prFin; simp
  · show (0 : Int) ≤ ((_ : Nat) : Int); omega
  · rw [prod_len]; show ((_ : Nat) : Int) < ((_ : Nat) : Int); omega
  · intro r hr
    obtain ⟨c, _, rfl⟩ := List.mem_map.1 (show r ∈ prNext a b from hr)
    unfold prRow; simp; rfl
  · intro r hr x hx
    obtain ⟨c, hc, rfl⟩ := List.mem_map.1 (show r ∈ prNext a b from hr)
    obtain ⟨y, hy, rfl⟩ := List.mem_map.1 (show x ∈ prRow a b _ _ from hx)
    rw [List.mem_range] at hc hy
    obtain ⟨h1, h2⟩ := pr_split hc
    have h3 := (ha.toN_lt h1 hy).1
    have h4 := (hb.toN_lt h2 (by rw [← hv]; exact hy)).1
    have := pr_lt h3 h4
    rw [prod_len]; omega
theorem prod_valid {f : Bool → Bool → Bool} {a b : DFA} (ha : Val a) (hb : Val b) (hv : a.vars = b.vars) (hn : a.next.length * b.next.length ≤ 4096) : Valid (prodD f a b) := ⟨prod_val ha hb hv, by rw [prod_len]; exact hn⟩
theorem prod_fin {f : Bool → Bool → Bool} {a b : DFA} {s t : Nat} (hs : s < a.next.length) (ht : t < b.next.length) : finN (prodD f a b) (s * b.next.length + t) = f (finN a s) (finN b t) := by
  have hd := pr_div (s := s) ht
  have hc := pr_lt hs ht
  show (prFin f a b).getD _ false = _
  unfold prFin
  rw [List.getD_eq_getElem?_getD, List.getElem?_map, List.getElem?_range hc]
  simp only [Option.map_some, Option.getD_some, hd.1, hd.2]
theorem prod_step {f : Bool → Bool → Bool} {a b : DFA} {s t x : Nat} (hs : s < a.next.length) (ht : t < b.next.length) (hx : x < letN a) : toN (prodD f a b) (s * b.next.length + t) x = toN a s x * b.next.length + toN b t x := by
  have hd := pr_div (s := s) ht
  have hc := pr_lt hs ht
  show (((prNext a b).getD _ []).getD x 0).toNat = _
  unfold prNext
  rw [List.getD_eq_getElem?_getD (l := List.map _ _), List.getElem?_map, List.getElem?_range hc]
  simp only [Option.map_some, Option.getD_some, hd.1, hd.2]
  unfold prRow
  rw [List.getD_eq_getElem?_getD, List.getElem?_map, List.getElem?_range hx]
  exact Int.toNat_natCast _
theorem prod_run {f : Bool → Bool → Bool} {a b : DFA} (ha : Val a) (hb : Val b) (hv : a.vars = b.vars) {s t : Nat} (hs : s < a.next.length) (ht : t < b.next.length) : ∀ w, Wd a w → runN (prodD f a b) (s * b.next.length + t) w = runN a s w * b.next.length + runN b t w := by
  refine snocInd (fun _ => rfl) ?_
  intro w x ih hw
  have hw1 : Wd a w := fun y hy => hw y (by simp [hy])
  have hw2 : Wd b w := fun y hy => by have := hw1 y hy; unfold letN at this ⊢; rw [← hv]; exact this
  rw [runN_snoc, runN_snoc, runN_snoc, ih hw1, prod_step (runN_lt ha hs w hw1) (runN_lt hb ht w hw2) (hw x (by simp))]
theorem prod_acc {f : Bool → Bool → Bool} {a b : DFA} (ha : Val a) (hb : Val b) (hv : a.vars = b.vars) {w : List Nat} (hw : Wd a w) : acc (prodD f a b) w = f (acc a w) (acc b w) := by
  have a0 := start_lt ha; have b0 := start_lt hb
  have hw2 : Wd b w := fun y hy => by have := hw y hy; unfold letN at this ⊢; rw [← hv]; exact this
  unfold acc
  rw [show (prodD f a b).start.toNat = a.start.toNat * b.next.length + b.start.toNat from Int.toNat_natCast _, prod_run ha hb hv a0 b0 w hw, prod_fin (runN_lt ha a0 w hw) (runN_lt hb b0 w hw2)]
def opD (f : Bool → Bool → Bool) (a b : DFA) : DFA := minD (prodD f a b)
theorem opD_vars (f : Bool → Bool → Bool) (a b : DFA) : (opD f a b).vars = a.vars := rfl
theorem opD_val {f : Bool → Bool → Bool} {a b : DFA} (ha : Val a) (hb : Val b) (hv : a.vars = b.vars) : Val (opD f a b) := minD_val (prod_val ha hb hv)
theorem opD_valid {f : Bool → Bool → Bool} {a b : DFA} (ha : Val a) (hb : Val b) (hv : a.vars = b.vars) (hn : a.next.length * b.next.length ≤ 4096) : Valid (opD f a b) := minD_valid (prod_valid ha hb hv hn)
theorem opD_acc {f : Bool → Bool → Bool} {a b : DFA} (ha : Val a) (hb : Val b) (hv : a.vars = b.vars) (hn : a.next.length * b.next.length ≤ 4096) {w : List Nat} (hw : Wd a w) : acc (opD f a b) w = f (acc a w) (acc b w) := by
  unfold opD; rw [minD_acc (prod_val ha hb hv) hw, prod_acc ha hb hv hw]
theorem opD_min {f : Bool → Bool → Bool} {a b : DFA} (ha : Val a) (hb : Val b) (hv : a.vars = b.vars) (hn : a.next.length * b.next.length ≤ 4096) : minD (opD f a b) = opD f a b := minD_min (prod_val ha hb hv)
theorem opD_accW {f : Bool → Bool → Bool} {a b : DFA} (ha : Val a) (hb : Val b) (hv : a.vars = b.vars) {w : List Nat} (hw : Wd a w) : acc (opD f a b) w = f (acc a w) (acc b w) := by
  unfold opD; rw [minD_acc (prod_val ha hb hv) hw, prod_acc ha hb hv hw]
theorem opD_minW {f : Bool → Bool → Bool} {a b : DFA} (ha : Val a) (hb : Val b) (hv : a.vars = b.vars) : minD (opD f a b) = opD f a b := minD_min (prod_val ha hb hv)
theorem opD_ofW {f : Bool → Bool → Bool} {a b d : DFA} (ha : Val a) (hb : Val b) (hv : a.vars = b.vars) (hd : Val d) (hdv : d.vars = a.vars) (h : ∀ w, Wd a w → acc d w = f (acc a w) (acc b w)) : minD d = opD f a b :=
  minD_unique hd (prod_val ha hb hv) hdv fun w hw => by
    have hw' : Wd a w := fun y hy => by have := hw y hy; unfold letN at this ⊢; rw [← hdv]; exact this
    rw [h w hw', prod_acc ha hb hv hw']
theorem opD_of {f : Bool → Bool → Bool} {a b d : DFA} (ha : Val a) (hb : Val b) (hv : a.vars = b.vars) (hn : a.next.length * b.next.length ≤ 4096) (hd : Val d) (hdv : d.vars = a.vars) (h : ∀ w, Wd a w → acc d w = f (acc a w) (acc b w)) : minD d = opD f a b :=
  minD_unique hd (prod_val ha hb hv) hdv fun w hw => by
    have hw' : Wd a w := fun y hy => by have := hw y hy; unfold letN at this ⊢; rw [← hdv]; exact this
    rw [h w hw', prod_acc ha hb hv hw']
theorem minD_len {d : DFA} (hv : Val d) : (minD d).next.length ≤ d.next.length := by
  have h1 : (minD d).next.length ≤ (quoD d).next.length := by
    show (renum (quoD d)).next.length ≤ _
    unfold renum
    rw [List.length_map]; exact order_len (quoD_val hv)
  have h2 := (quoN_len d (itF d d.next.length) d.next.length).2
  exact Nat.le_trans h1 h2
theorem opD_len {f : Bool → Bool → Bool} {a b : DFA} (ha : Val a) (hb : Val b) (hv : a.vars = b.vars) (hn : a.next.length * b.next.length ≤ 4096) : (opD f a b).next.length ≤ a.next.length * b.next.length := by
  rw [← prod_len f a b]; exact minD_len (prod_val ha hb hv)
theorem min_ext {a b : DFA} (ha : Val a) (hb : Val b) (hma : minD a = a) (hmb : minD b = b) (hv : a.vars = b.vars) (h : ∀ w, Wd a w → acc a w = acc b w) : a = b := by
  rw [← hma, ← hmb]; exact minD_unique ha hb hv h
def flipD (d : DFA) : DFA := ⟨d.vars, d.start, d.next, d.final.map (!·)⟩
theorem flip_val {d : DFA} (hv : Val d) : Val (flipD d) :=
  { v0 := hv.v0, v6 := hv.v6, n0 := hv.n0, fin := by show (d.final.map _).length = _; rw [List.length_map]; exact hv.fin, s0 := hv.s0, s1 := hv.s1, len := hv.len, ok := hv.ok }
theorem flip_valid {d : DFA} (hv : Valid d) : Valid (flipD d) := ⟨flip_val hv, hv.n4⟩
theorem flip_fin {d : DFA} (hv : Val d) {s : Nat} (hs : s < d.next.length) : finN (flipD d) s = !finN d s := by
  have hl : s < d.final.length := by rw [hv.fin]; exact hs
  show (d.final.map _).getD s false = _
  unfold finN
  rw [List.getD_eq_getElem?_getD, List.getD_eq_getElem?_getD, List.getElem?_map, List.getElem?_eq_getElem hl]
  rfl
theorem flip_acc {d : DFA} (hv : Val d) {w : List Nat} (hw : Wd d w) : acc (flipD d) w = !acc d w := by
  unfold acc
  have hr : ∀ u s, runN (flipD d) s u = runN d s u := fun u s => rfl
  rw [hr]
  exact flip_fin hv (runN_lt hv (start_lt hv) w hw)
end Go.Lx

namespace Go.Lx
set_option linter.unusedVariables false
def withS (d : DFA) (s : Int) : DFA := ⟨d.vars, s, d.next, d.final⟩
theorem withS_val {d : DFA} (hv : Val d) {s : Nat} (hs : s < d.next.length) : Val (withS d (s : Int)) :=
  ⟨hv.v0, hv.v6, hv.n0, hv.fin, Int.natCast_nonneg _, show ((s : Nat) : Int) < (d.next.length : Int) by omega, hv.len, hv.ok⟩
theorem withS_valid {d : DFA} (hv : Valid d) {s : Nat} (hs : s < d.next.length) : Valid (withS d (s : Int)) := ⟨withS_val hv hs, hv.n4⟩
theorem withS_acc {d : DFA} (hv : Val d) {s : Nat} (hs : s < d.next.length) {w : List Nat} (h : runE (withS d (s : Int)) w = 0) : accV (withS d (s : Int)) w = finN d (runN d s w) := by
  unfold accV
  rw [if_pos h]; rfl
theorem withS_runE {d : DFA} (hv : Valid d) {s t : Nat} (hs : s < d.next.length) (ht : t < d.next.length) (w : List Nat) : runE (withS d (s : Int)) w = runE (withS d (t : Int)) w := by
  unfold runE
  rw [checkD_zero.2 (withS_valid hv hs), checkD_zero.2 (withS_valid hv ht)]
  rfl
theorem dif_short {d : DFA} (hv : Val d) {s t : Nat} (hs : s < d.next.length) (ht : t < d.next.length) (m : Nat) (h : dif d m s t = true) : dif d (d.next.length - 1) s t = true := by
  have hn := hv.n0
  have key : itF d (d.next.length - 1) = itF d d.next.length := by
    rcases itF_grow hv (d.next.length - 1) with ⟨j, hj, h⟩ | h
    · have hst : refineF d (itF d j) = itF d j := by rw [← itF]; exact h
      rw [itF_stable hst _ (show j ≤ d.next.length - 1 by omega), itF_stable hst _ (show j ≤ d.next.length by omega)]
    · obtain ⟨h1, h2⟩ := clsN_step hv (d.next.length - 1)
      have h3 := clsN_le d (d.next.length - 1 + 1)
      have h4 := h2 (by omega)
      rw [show d.next.length - 1 + 1 = d.next.length by omega] at h4
      exact h4.symm
  rcases Bool.eq_false_or_eq_true (dif d (d.next.length - 1) s t) with hh | hh
  · exact hh
  · rw [← itF_iff hv _ s t hs ht, key] at hh
    have h5 : dif d (max m d.next.length) s t = true := dif_mono (by omega) h
    have h6 := (itF_iff hv (max m d.next.length) s t hs ht).1 (by rw [itF_stab hv _ (by omega)]; exact hh)
    rw [h6] at h5; cases h5
theorem Tell.lt {d : DFA} (hv : Val d) {s t : Nat} (hs : s < d.next.length) (ht : t < d.next.length) {u : List Nat} (h : Tell d s t (some u)) : u.length < d.next.length := by
  have h : IsLeast d s t u := h
  have hd := dif_short hv hs ht u.length ((dif_iff d _ s t).2 ⟨u, h.wd, Nat.le_refl _, h.dst⟩)
  obtain ⟨w, h1, h2, h3⟩ := (dif_iff d _ s t).1 hd
  have := code_len u w (hv.wd64 h.wd) (hv.wd64 h1) (h.le w h1 h3)
  have := hv.n0
  omega
theorem minD_apart {d : DFA} (hv : Val d) {p q : Nat} (hp : p < (minD d).next.length) (hq : q < (minD d).next.length) {res : Option (List Nat)} (h : Tell (minD d) p q res) : res.isSome = true ↔ p ≠ q := by
  have hQ := quoD_val hv
  have hpo : p < (order (quoD d)).length := by simpa [minD, renum, quoD] using hp
  have hqo : q < (order (quoD d)).length := by simpa [minD, renum, quoD] using hq
  constructor
  · intro hs e
    subst e
    cases res with
    | none => cases hs
    | some u => exact (show IsLeast (minD d) p p u from h).dst rfl
  · intro hne
    cases res with
    | some u => rfl
    | none =>
      exfalso
      have hnd : (order (quoD d)).Nodup := (bfsN_ok hQ _).1
      have hix : ∀ i (hi : i < (order (quoD d)).length), ix (order (quoD d))[i] (order (quoD d)) = i := fun i hi => by
        have g := ix_get (List.getElem_mem hi)
        exact (List.getElem_inj (h₀ := ix_lt (List.getElem_mem hi)) (h₁ := hi) hnd).1 (Option.some.inj (by rw [← List.getElem?_eq_getElem, g]))
      obtain ⟨a, ha, hac, _, _⟩ := quoD_at hv (order_lt hQ _ (List.getElem_mem hpo))
      obtain ⟨b, hb, hbc, _, _⟩ := quoD_at hv (order_lt hQ _ (List.getElem_mem hqo))
      have hab : clsOf d a = clsOf d b := by
        rw [clsOf_iff hv ha hb]
        intro u hu hd
        have hn := (show ∀ u, Wd (minD d) u → ¬ dst (minD d) p q u from h) u hu
        apply hn
        have r1 := renum_run hQ (List.getElem_mem hpo) u hu
        have r2 := renum_run hQ (List.getElem_mem hqo) u hu
        rw [hix p hpo] at r1
        rw [hix q hqo] at r2
        unfold dst at *
        show finN (renum (quoD d)) (runN (renum (quoD d)) p u) ≠ finN (renum (quoD d)) (runN (renum (quoD d)) q u)
        rw [r1, r2, renum_fin (order_run hQ (List.getElem_mem hpo) u hu), renum_fin (order_run hQ (List.getElem_mem hqo) u hu), ← hac, ← hbc, quoD_run hv ha u hu, quoD_run hv hb u hu, quoD_fin hv (runN_lt hv ha u hu), quoD_fin hv (runN_lt hv hb u hu)]
        exact hd
      rw [hac, hbc] at hab
      exact hne ((List.getElem_inj (h₀ := hpo) (h₁ := hqo) hnd).1 hab)
theorem code_append : ∀ (v p : List Nat), code (p ++ v) = code p * 65 ^ v.length + code v := by
  intro v
  induction v with
  | nil => intro p; simp [code]
  | cons x v ih =>
    intro p
    rw [show p ++ x :: v = (p ++ [x]) ++ v by simp, ih, code_snoc, code_cons, List.length_cons, Nat.pow_succ, Nat.add_mul, Nat.mul_assoc (code p) 65, Nat.mul_comm 65, Nat.add_assoc]
theorem code_diff {xs ys : List Nat} {k : Nat} (hl : xs.length = ys.length) (hk : k < xs.length) (hk' : k < ys.length) (ht : xs.take k = ys.take k) (hy : ∀ y ∈ ys, y < 64) (h : ys[k] < xs[k]) : code ys < code xs := by
  have e1 : xs = xs.take k ++ xs[k] :: xs.drop (k + 1) := by rw [← List.drop_eq_getElem_cons hk, List.take_append_drop]
  have e2 : ys = ys.take k ++ ys[k] :: ys.drop (k + 1) := by rw [← List.drop_eq_getElem_cons hk', List.take_append_drop]
  rw [e1, e2, code_append, code_append, ht]
  have hll : (ys.drop (k + 1)).length = (xs.drop (k + 1)).length := by rw [List.length_drop, List.length_drop, hl]
  have := code_lt_head hll (fun z hz => hy z (List.mem_of_mem_drop hz)) h
  simp only [List.length_cons, hll]
  omega
end Go.Lx

namespace Go.Lx
set_option linter.unusedVariables false
def both (a b : DFA) : DFA := ⟨a.vars, a.start, a.next ++ b.next.map fun r => r.map fun x => (a.next.length : Int) + x, a.final ++ b.final⟩
def bothN (a b : DFA) (k : Nat) : DFA := ⟨a.vars, a.start, a.next ++ (b.next.take k).map fun r => r.map fun x => (a.next.length : Int) + x, a.final ++ b.final.take k⟩
theorem bothN_full {a b : DFA} (hb : Valid b) : bothN a b b.next.length = both a b := by
  unfold bothN both
  rw [List.take_of_length_le (Nat.le_refl _), List.take_of_length_le (by rw [hb.fin]; exact Nat.le_refl _)]
theorem both_len (a b : DFA) : (both a b).next.length = a.next.length + b.next.length := by simp [both]
theorem both_valid {a b : DFA} (ha : Valid a) (hb : Valid b) (hv : a.vars = b.vars) (hn : a.next.length + b.next.length ≤ 4096) : Valid (both a b) := by
  refine ⟨⟨ha.v0, ha.v6, ?_, ?_, ha.s0, ?_, ?_, ?_⟩, by rw [both_len]; exact hn⟩
  · rw [both_len]; have := ha.n0; omega
  · rw [both_len]; show (a.final ++ b.final).length = _; rw [List.length_append, ha.fin, hb.fin]
  · rw [both_len]; show a.start < _; have := ha.s1; omega
  · intro r hr
    rcases List.mem_append.1 hr with hr | hr
    · exact ha.len r hr
    · obtain ⟨r', hr', rfl⟩ := List.mem_map.1 hr
      rw [List.length_map, hb.len r' hr']
      show 2 ^ b.vars.toNat = 2 ^ a.vars.toNat
      rw [hv]
  · intro r hr x hx
    rw [both_len]
    rcases List.mem_append.1 hr with hr | hr
    · have := ha.ok r hr x hx; omega
    · obtain ⟨r', hr', rfl⟩ := List.mem_map.1 hr
      obtain ⟨y, hy, rfl⟩ := List.mem_map.1 hx
      have := hb.ok r' hr' y hy
      omega
theorem both_left {a b : DFA} (ha : Valid a) {s : Nat} (hs : s < a.next.length) : finN (both a b) s = finN a s ∧ ∀ x, x < letN a → toN (both a b) s x = toN a s x := by
  have hf : s < a.final.length := by rw [ha.fin]; exact hs
  refine ⟨?_, fun x hx => ?_⟩
  · show (a.final ++ b.final).getD s false = _
    rw [List.getD_eq_getElem?_getD, List.getElem?_append_left hf, finN, List.getD_eq_getElem?_getD]
  · have e : (both a b).next.getD s [] = a.next.getD s [] := by
      show (a.next ++ _).getD s [] = _
      simp [List.getD_eq_getElem?_getD, List.getElem?_append_left hs]
    unfold toN
    rw [e]
theorem both_right {a b : DFA} (ha : Valid a) (hb : Valid b) (hv : a.vars = b.vars) {t : Nat} (ht : t < b.next.length) : finN (both a b) (a.next.length + t) = finN b t ∧ ∀ x, x < letN a → toN (both a b) (a.next.length + t) x = a.next.length + toN b t x := by
  refine ⟨?_, fun x hx => ?_⟩
  · show (a.final ++ b.final).getD _ false = _
    rw [List.getD_eq_getElem?_getD, List.getElem?_append_right (by rw [ha.fin]; omega), ha.fin, finN, List.getD_eq_getElem?_getD, Nat.add_sub_cancel_left]
  · have hxb : x < letN b := by unfold letN at *; rw [← hv]; exact hx
    have hl : b.next[t].length = letN b := hb.len _ (List.getElem_mem ht)
    have hx' : x < b.next[t].length := by omega
    have hok := hb.ok _ (List.getElem_mem ht) _ (List.getElem_mem hx')
    have e : (both a b).next.getD (a.next.length + t) [] = b.next[t].map fun x => (a.next.length : Int) + x := by
      show (a.next ++ _).getD _ [] = _
      rw [List.getD_eq_getElem?_getD, List.getElem?_append_right (by omega), Nat.add_sub_cancel_left]
      simp [ht]
    unfold toN
    rw [e]
    simp [ht, hx', List.getD_eq_getElem?_getD]
    omega
theorem both_runL {a b : DFA} (ha : Valid a) {s : Nat} (hs : s < a.next.length) : ∀ w, Wd a w → runN (both a b) s w = runN a s w := by
  refine snocInd (fun _ => rfl) ?_
  intro w x ih hw
  have hw' : Wd a w := fun y hy => hw y (by simp [hy])
  rw [runN_snoc, runN_snoc, ih hw', (both_left ha (runN_lt ha hs w hw')).2 x (hw x (by simp))]
theorem both_runR {a b : DFA} (ha : Valid a) (hb : Valid b) (hv : a.vars = b.vars) {t : Nat} (ht : t < b.next.length) : ∀ w, Wd a w → runN (both a b) (a.next.length + t) w = a.next.length + runN b t w := by
  refine snocInd (fun _ => rfl) ?_
  intro w x ih hw
  have hw' : Wd a w := fun y hy => hw y (by simp [hy])
  have hwb : Wd b w := fun y hy => by have := hw' y hy; unfold letN at *; rw [← hv]; exact this
  rw [runN_snoc, runN_snoc, ih hw', (both_right ha hb hv (runN_lt hb ht w hwb)).2 x (hw x (by simp))]
theorem both_dst {a b : DFA} (ha : Valid a) (hb : Valid b) (hv : a.vars = b.vars) {w : List Nat} (hw : Wd a w) : dst (both a b) a.start.toNat (a.next.length + b.start.toNat) w ↔ acc a w ≠ acc b w := by
  have hwb : Wd b w := fun y hy => by have := hw y hy; unfold letN at *; rw [← hv]; exact this
  unfold dst acc
  rw [both_runL ha (start_lt ha) w hw, both_runR ha hb hv (start_lt hb) w hw, (both_left ha (runN_lt ha (start_lt ha) w hw)).1, (both_right ha hb hv (runN_lt hb (start_lt hb) w hwb)).1]
theorem both_tell {a b : DFA} (ha : Valid a) (hb : Valid b) (hv : a.vars = b.vars) {res : Option (List Nat)} (h : Tell (both a b) a.start.toNat (a.next.length + b.start.toNat) res) : res.isSome = true ↔ minD a ≠ minD b := by
  have hwd : ∀ w, Wd a w → Wd b w := fun w hw y hy => by have := hw y hy; unfold letN at *; rw [← hv]; exact this
  cases res with
  | some u =>
    have h : IsLeast (both a b) a.start.toNat (a.next.length + b.start.toNat) u := h
    refine ⟨fun _ e => ?_, fun _ => rfl⟩
    have hu : Wd a u := h.wd
    have hd := (both_dst ha hb hv hu).1 h.dst
    rw [← minD_acc ha hu, ← minD_acc hb (hwd u hu), e] at hd
    exact hd rfl
  | none =>
    refine ⟨fun h => absurd h (by simp), fun hne => ?_⟩
    exfalso
    apply hne
    refine minD_unique ha hb hv fun w hw => ?_
    have hn := (show ∀ u, Wd (both a b) u → ¬ dst (both a b) a.start.toNat (a.next.length + b.start.toNat) u from h) w hw
    rw [both_dst ha hb hv hw] at hn
    exact Classical.not_not.1 hn
theorem bothN_next {a b : DFA} {k : Nat} (hk : k < b.next.length) : (bothN a b (k + 1)).next = (bothN a b k).next ++ [b.next[k].map fun x => (a.next.length : Int) + x] := by
  show a.next ++ _ = (a.next ++ _) ++ _
  rw [List.take_succ_eq_append_getElem hk, List.map_append, List.append_assoc]; rfl
theorem bothN_final {a b : DFA} {k : Nat} (hk : k < b.final.length) : (bothN a b (k + 1)).final = (bothN a b k).final ++ [b.final[k]] := by
  show a.final ++ _ = (a.final ++ _) ++ _
  rw [List.take_succ_eq_append_getElem hk, List.append_assoc]
theorem accV_zero {d : DFA} {w : List Nat} (h : runE d w = 0) : accV d w = acc d w := by unfold accV acc; rw [if_pos h]
theorem both_runE {a b : DFA} (ha : Valid a) (hb : Valid b) (hv : a.vars = b.vars) (w : List Nat) : runE a w = runE b w := by
  unfold runE
  rw [checkD_zero.2 ha, checkD_zero.2 hb, hv]
end Go.Lx

namespace Go.Lx
open Go.RowKit
set_option linter.unusedVariables false
def stayD (v : Int) (f : Bool) : DFA := ⟨v, 0, [List.replicate (2 ^ v.toNat) 0], [f]⟩
theorem stay_valid {v : Int} (h0 : 0 ≤ v) (h6 : v ≤ 6) (f : Bool) : Valid (stayD v f) := by
  have n0 : 0 < (stayD v f).next.length := by show 0 < [_].length; simp
  have s1 : (stayD v f).start < ((stayD v f).next.length : Int) := by show (0 : Int) < (([_].length : Nat) : Int); simp
  have len : ∀ r ∈ (stayD v f).next, r.length = 2 ^ (stayD v f).vars.toNat := by
    intro r hr
    rw [List.mem_singleton.1 (show r ∈ [List.replicate (2 ^ v.toNat) (0 : Int)] from hr), List.length_replicate]; rfl
  have ok : ∀ r ∈ (stayD v f).next, ∀ x ∈ r, 0 ≤ x ∧ x < ((stayD v f).next.length : Int) := by
    intro r hr x hx
    rw [List.mem_singleton.1 (show r ∈ [List.replicate (2 ^ v.toNat) (0 : Int)] from hr)] at hx
    rw [List.eq_of_mem_replicate hx]
    exact ⟨Int.le_refl _, by show (0 : Int) < (([_].length : Nat) : Int); simp⟩
  exact ⟨{ v0 := h0, v6 := h6, n0 := n0, fin := rfl, s0 := Int.le_refl _, s1 := s1, len := len, ok := ok }, by show [_].length ≤ 4096; simp⟩
theorem stay_acc {v : Int} (h0 : 0 ≤ v) (h6 : v ≤ 6) (f : Bool) {w : List Nat} (hw : Wd (stayD v f) w) : acc (stayD v f) w = f := by
  have hv := stay_valid h0 h6 f
  have h1 := runN_lt hv (start_lt hv) w hw
  have h2 : runN (stayD v f) (stayD v f).start.toNat w = 0 := Nat.lt_one_iff.1 h1
  unfold acc; rw [h2]; rfl
def LeastA (d : DFA) : Option (List Nat) → Prop
  | some w => Wd d w ∧ acc d w = true ∧ ∀ u, Wd d u → acc d u = true → code w ≤ code u
  | none => ∀ u, Wd d u → acc d u = false
theorem LeastA.unique {d : DFA} (hv : Valid d) {a b : Option (List Nat)} (ha : LeastA d a) (hb : LeastA d b) : a = b := by
  cases a with
  | none =>
    cases b with
    | none => rfl
    | some w => have := ha w hb.1; rw [hb.2.1] at this; cases this
  | some w =>
    cases b with
    | none => have := hb w ha.1; rw [ha.2.1] at this; cases this
    | some u =>
      have h1 := ha.2.2 u hb.1 hb.2.1
      have h2 := hb.2.2 w ha.1 ha.2.1
      rw [code_inj w u (hv.wd64 ha.1) (hv.wd64 hb.1) (Nat.le_antisymm h1 h2)]
theorem LeastA.congr {d e : DFA} (hv : d.vars = e.vars) (h : ∀ w, Wd d w → acc d w = acc e w) {r : Option (List Nat)} (hr : LeastA d r) : LeastA e r := by
  have hwd : ∀ w, Wd e w → Wd d w := fun w hw y hy => by have := hw y hy; unfold letN at *; rw [hv]; exact this
  have hwe : ∀ w, Wd d w → Wd e w := fun w hw y hy => by have := hw y hy; unfold letN at *; rw [← hv]; exact this
  cases r with
  | none => exact fun u hu => by rw [← h u (hwd u hu)]; exact hr u (hwd u hu)
  | some w => exact ⟨hwe w hr.1, by rw [← h w hr.1]; exact hr.2.1, fun u hu hau => hr.2.2 u (hwd u hu) (by rw [h u (hwd u hu)]; exact hau)⟩
theorem tell_least {m : DFA} (hm : Valid m) (hn : m.next.length + 1 ≤ 4096) {r : Option (List Nat)} (h : Tell (both m (stayD m.vars false)) m.start.toNat m.next.length r) : LeastA m r := by
  have hs := stay_valid hm.v0 hm.v6 false
  have hd : ∀ w, Wd m w → (dst (both m (stayD m.vars false)) m.start.toNat m.next.length w ↔ acc m w = true) := fun w hw => by
    have h1 := both_dst (a := m) (b := stayD m.vars false) hm hs rfl hw
    rw [show m.next.length + (stayD m.vars false).start.toNat = m.next.length from rfl] at h1
    rw [h1, stay_acc hm.v0 hm.v6 false (show Wd (stayD m.vars false) w from hw)]
    cases acc m w <;> simp
  cases r with
  | none =>
    have h : ∀ u, Wd m u → ¬ dst (both m (stayD m.vars false)) m.start.toNat m.next.length u := h
    exact fun u hu => by
      have := mt (hd u hu).2 (h u hu)
      simpa using this
  | some w =>
    have h : IsLeast (both m (stayD m.vars false)) m.start.toNat m.next.length w := h
    have hw : Wd m w := h.wd
    exact ⟨hw, (hd w hw).1 h.dst, fun u hu ha => h.le u hu ((hd u hu).2 ha)⟩
end Go.Lx

namespace Go.Lx
open Go.RowKit
set_option linter.unusedVariables false
def WdV (v : Int) (w : List Nat) : Prop := ∀ x ∈ w, x < 2 ^ v.toNat
structure HasL (v : Int) (n : Nat) (d : DFA) (p : List Nat → Bool) : Prop where
  valid : Valid d
  len : d.next.length ≤ n
  vars : d.vars = v
  acc : ∀ w, WdV v w → acc d w = p w
theorem HasL.of {d : DFA} {n : Nat} (h : Valid d) (hl : d.next.length ≤ n) : HasL d.vars n d (Lx.acc d) := ⟨h, hl, rfl, fun _ _ => rfl⟩
theorem HasL.wd {v : Int} {n : Nat} {d : DFA} {p : List Nat → Bool} (h : HasL v n d p) {w : List Nat} : Wd d w ↔ WdV v w := by unfold Wd WdV letN; rw [h.vars]
structure MinL (v : Int) (n : Nat) (d : DFA) (p : List Nat → Bool) : Prop extends HasL v n d p where
  min : minD d = d
theorem HasL.op {f : Bool → Bool → Bool} {v : Int} {n m : Nat} {a b : DFA} {p q : List Nat → Bool} (ha : HasL v n a p) (hb : HasL v m b q) (h : n * m ≤ 4096) : MinL v (n * m) (opD f a b) (fun w => f (p w) (q w)) := by
  have hl : a.next.length * b.next.length ≤ n * m := Nat.mul_le_mul ha.len hb.len
  have hv : a.vars = b.vars := by rw [ha.vars, hb.vars]
  refine ⟨⟨opD_valid ha.valid hb.valid hv (by omega), Nat.le_trans (opD_len ha.valid hb.valid hv (by omega)) hl, ha.vars, fun w hw => ?_⟩, opD_min ha.valid hb.valid hv (by omega)⟩
  rw [opD_acc ha.valid hb.valid hv (by omega) (ha.wd.2 hw), ha.acc w hw, hb.acc w hw]
theorem HasL.minim {v : Int} {n : Nat} {d : DFA} {p : List Nat → Bool} (h : HasL v n d p) : MinL v n (minD d) p :=
  ⟨⟨minD_valid h.valid, Nat.le_trans (minD_len h.valid) h.len, h.vars, fun w hw => by rw [minD_acc h.valid (h.wd.2 hw)]; exact h.acc w hw⟩, minD_min h.valid⟩
theorem MinL.ext {v : Int} {n m : Nat} {a b : DFA} {p q : List Nat → Bool} (ha : MinL v n a p) (hb : MinL v m b q) (h : ∀ w, WdV v w → p w = q w) : a = b :=
  min_ext ha.valid hb.valid ha.min hb.min (by rw [ha.vars, hb.vars]) fun w hw => by rw [ha.acc w (ha.wd.1 hw), hb.acc w (ha.wd.1 hw), h w (ha.wd.1 hw)]
theorem MinL.ne {v : Int} {n m : Nat} {a b : DFA} {p q : List Nat → Bool} (ha : MinL v n a p) (hb : MinL v m b q) (h : a = b) : ∀ w, WdV v w → p w = q w := fun w hw => by
  rw [← ha.acc w hw, ← hb.acc w hw, h]
def andB (x y : Bool) : Bool := x && y
def orB (x y : Bool) : Bool := x || y
def xorB (x y : Bool) : Bool := x != y
def minusB (x y : Bool) : Bool := x && !y
def notB (x _y : Bool) : Bool := !x
def notD (d : DFA) : DFA := opD notB d d
theorem HasL.not {v : Int} {n : Nat} {d : DFA} {p : List Nat → Bool} (h : HasL v n d p) (hn : n * n ≤ 4096) : MinL v (n * n) (notD d) (fun w => !p w) := h.op h hn
theorem notD_flip {d : DFA} (h : Valid d) (hn : d.next.length * d.next.length ≤ 4096) : minD (flipD d) = notD d :=
  opD_of h h rfl hn (flip_valid h) rfl fun w hw => flip_acc h hw
theorem notD_len {d : DFA} (h : Valid d) (hn : d.next.length * d.next.length ≤ 4096) : (notD d).next.length ≤ d.next.length := by
  rw [← notD_flip h hn]; exact minD_len (flip_valid h)
theorem laws_all {v : Int} {n : Nat} {a b c : DFA} {p q r : List Nat → Bool} (ha : HasL v n a p) (hb : HasL v n b q) (hc : HasL v n c r) (hn : n ≤ 4) :
    notD (opD andB a b) = opD orB (notD a) (notD b) ∧ opD andB b a = opD andB a b ∧ notD (notD a) = minD a ∧
    opD andB a (opD orB b c) = opD orB (opD andB a b) (opD andB a c) ∧ opD xorB a b = opD orB (opD minusB a b) (opD minusB b a) ∧ opD orB (opD orB a b) c = opD orB a (opD orB b c) := by
  have h2 : n * n ≤ 16 := Nat.mul_le_mul hn hn
  have h4 : (n * n) * (n * n) ≤ 256 := Nat.mul_le_mul h2 h2
  have h3 : n * (n * n) ≤ 64 := Nat.mul_le_mul hn h2
  have h3' : (n * n) * n ≤ 64 := Nat.mul_le_mul h2 hn
  have L : n * n ≤ 4096 := by omega
  have L4 : (n * n) * (n * n) ≤ 4096 := by omega
  have L3 : n * (n * n) ≤ 4096 := by omega
  have L3' : (n * n) * n ≤ 4096 := by omega
  refine ⟨?_, ?_, ?_, ?_, ?_, ?_⟩
  · refine MinL.ext ((ha.op (f := andB) hb L).toHasL.not L4) ((ha.not L).toHasL.op (f := orB) (hb.not L).toHasL L4) fun w _ => ?_
    unfold andB orB; cases p w <;> cases q w <;> rfl
  · refine MinL.ext (hb.op (f := andB) ha L) (ha.op (f := andB) hb L) fun w _ => ?_
    unfold andB; cases p w <;> cases q w <;> rfl
  · refine MinL.ext ((ha.not L).toHasL.not L4) ha.minim fun w _ => ?_
    cases p w <;> rfl
  · refine MinL.ext (ha.op (f := andB) (hb.op (f := orB) hc L).toHasL L3) ((ha.op (f := andB) hb L).toHasL.op (f := orB) (ha.op (f := andB) hc L).toHasL L4) fun w _ => ?_
    unfold andB orB; cases p w <;> cases q w <;> cases r w <;> rfl
  · refine MinL.ext (ha.op (f := xorB) hb L) ((ha.op (f := minusB) hb L).toHasL.op (f := orB) (hb.op (f := minusB) ha L).toHasL L4) fun w _ => ?_
    unfold xorB orB minusB; cases p w <;> cases q w <;> rfl
  · refine MinL.ext ((ha.op (f := orB) hb L).toHasL.op (f := orB) hc L3') (ha.op (f := orB) (hb.op (f := orB) hc L).toHasL L3) fun w _ => ?_
    unfold orB; cases p w <;> cases q w <;> cases r w <;> rfl
end Go.Lx

namespace Go.Lx
open Go.RowKit
set_option linter.unusedVariables false
theorem stay_min {v : Int} (h0 : 0 ≤ v) (h6 : v ≤ 6) (f : Bool) : MinL v 1 (minD (stayD v f)) (fun _ => f) :=
  (show HasL v 1 (stayD v f) (fun _ => f) from ⟨stay_valid h0 h6 f, by show [_].length ≤ 1; simp, rfl, fun w hw => stay_acc h0 h6 f hw⟩).minim
theorem run_one {d : DFA} (hv : Valid d) (h1 : d.next.length = 1) {w : List Nat} (hw : Wd d w) : runN d d.start.toNat w = 0 := by
  have := runN_lt hv (start_lt hv) w hw; omega
theorem MinL.empty {v : Int} {n : Nat} {d : DFA} {p : List Nat → Bool} (h : MinL v n d p) : (d.next.length = 1 ∧ finN d 0 = false) ↔ ∀ w, WdV v w → p w = false := by
  constructor
  · rintro ⟨h1, h2⟩ w hw
    rw [← h.acc w hw]
    unfold acc; rw [run_one h.valid h1 (h.wd.2 hw), h2]
  · intro hp
    have h0 : 0 ≤ v := by rw [← h.vars]; exact h.valid.v0
    have h6 : v ≤ 6 := by rw [← h.vars]; exact h.valid.v6
    have he := MinL.ext h (stay_min h0 h6 false) fun w hw => hp w hw
    have hl : d.next.length = 1 := by
      have a1 := (stay_min h0 h6 false).len; rw [← he] at a1
      have a2 := h.valid.n0; omega
    refine ⟨hl, ?_⟩
    have h2 := h.acc [] (fun x hx => by cases hx)
    rw [hp [] (fun x hx => by cases hx)] at h2
    unfold acc at h2; rw [run_one h.valid hl (fun x hx => by cases hx)] at h2; exact h2
theorem LeastA.none_iff {v : Int} {n : Nat} {d : DFA} {p : List Nat → Bool} (h : HasL v n d p) {r : Option (List Nat)} (hr : LeastA d r) : r = none ↔ ∀ w, WdV v w → p w = false := by
  cases r with
  | none => exact ⟨fun _ w hw => by rw [← h.acc w hw]; exact hr w (h.wd.2 hw), fun _ => rfl⟩
  | some u =>
    refine ⟨fun h => (by cases h), fun hp => ?_⟩
    have h1 := hr.2.1
    rw [h.acc u (h.wd.1 hr.1), hp u (h.wd.1 hr.1)] at h1; cases h1
theorem incl_iff {v : Int} {n m : Nat} {a b : DFA} {p q : List Nat → Bool} (ha : HasL v n a p) (hb : HasL v m b q) (hn : n * m ≤ 4096) {r : Option (List Nat)} (hr : LeastA (opD minusB a b) r) :
    (r = none ↔ opD andB a b = minD a) ∧ (r = none ↔ (opD minusB a b).next.length = 1 ∧ finN (opD minusB a b) 0 = false) ∧ (r = none ↔ ∀ w, WdV v w → p w = true → q w = true) := by
  have hm := ha.op (f := minusB) hb hn
  have h1 := hr.none_iff hm.toHasL
  have h3 : (∀ w, WdV v w → minusB (p w) (q w) = false) ↔ ∀ w, WdV v w → p w = true → q w = true := by
    constructor
    · intro h w hw hp
      have := h w hw; unfold minusB at this; rw [hp] at this; simpa using this
    · intro h w hw
      unfold minusB
      cases hp : p w with
      | false => rfl
      | true => rw [h w hw hp]; rfl
  refine ⟨?_, h1.trans hm.empty.symm, h1.trans h3⟩
  rw [h1, h3]
  constructor
  · intro h
    refine MinL.ext (ha.op (f := andB) hb hn) ha.minim fun w hw => ?_
    unfold andB
    cases hp : p w with
    | false => rfl
    | true => rw [h w hw hp]; rfl
  · intro h w hw hp
    have := MinL.ne (ha.op (f := andB) hb hn) ha.minim h w hw
    unfold andB at this; rw [hp] at this; simpa using this
theorem same_iff {v : Int} {n m : Nat} {a b : DFA} {p q : List Nat → Bool} (ha : HasL v n a p) (hb : HasL v m b q) (hn : n * m ≤ 4096) :
    ((opD xorB a b).next.length = 1 ∧ finN (opD xorB a b) 0 = false) ↔ ∀ w, WdV v w → p w = q w := by
  rw [(ha.op (f := xorB) hb hn).empty]
  constructor
  · intro h w hw
    have := h w hw; unfold xorB at this
    cases hp : p w <;> cases hq : q w <;> simp_all
  · intro h w hw
    unfold xorB; rw [h w hw]; cases q w <;> rfl
end Go.Lx

namespace Go.Lx
open Go.RowKit
set_option linter.unusedVariables false
theorem pr_toN_lt {f : Bool → Bool → Bool} {a b : DFA} (ha : Val a) (hb : Val b) (hv : a.vars = b.vars) {o x : Nat} (ho : o < a.next.length * b.next.length) (hx : x < letN a) :
    toN (prodD f a b) o x = toN a (o / b.next.length) x * b.next.length + toN b (o % b.next.length) x ∧ toN (prodD f a b) o x < a.next.length * b.next.length := by
  obtain ⟨h1, h2⟩ := pr_split ho
  have h3 := prod_step (f := f) (a := a) (b := b) h1 h2 hx
  rw [Nat.div_add_mod'] at h3
  refine ⟨h3, ?_⟩
  rw [h3]
  exact pr_lt (ha.toN_lt h1 hx).1 (hb.toN_lt h2 (by rw [← hv]; exact hx)).1
theorem pr_bfs_ok {f : Bool → Bool → Bool} {a b : DFA} (ha : Val a) (hb : Val b) (hv : a.vars = b.vars) : ∀ i, (bfsN (prodD f a b) i).Nodup ∧ ∀ o ∈ bfsN (prodD f a b) i, o < a.next.length * b.next.length
  | 0 => by
    refine ⟨by simp [bfsN], fun o ho => ?_⟩
    simp only [bfsN, List.mem_singleton] at ho
    rw [ho, show (prodD f a b).start.toNat = a.start.toNat * b.next.length + b.start.toNat from Int.toNat_natCast _]
    exact pr_lt (start_lt ha) (start_lt hb)
  | i + 1 => by
    obtain ⟨h1, h2⟩ := pr_bfs_ok ha hb hv i
    rw [bfsN]
    split
    · rename_i hi
      refine foldl_add_ok _ _ h1 h2 (fun t ht => ?_)
      obtain ⟨x, hx, rfl⟩ := List.mem_map.1 ht
      refine (pr_toN_lt ha hb hv (h2 _ ?_) (List.mem_range.1 hx)).2
      rw [List.getD_eq_getElem?_getD, List.getElem?_eq_getElem hi]
      exact List.getElem_mem hi
    · exact ⟨h1, h2⟩
theorem pr_bfs_len {f : Bool → Bool → Bool} {a b : DFA} (ha : Val a) (hb : Val b) (hv : a.vars = b.vars) (i : Nat) : (bfsN (prodD f a b) i).length ≤ a.next.length * b.next.length := nodup_bound (pr_bfs_ok ha hb hv i).1 (pr_bfs_ok ha hb hv i).2
theorem pr_bfsM_ok {f : Bool → Bool → Bool} {a b : DFA} (ha : Val a) (hb : Val b) (hv : a.vars = b.vars) {i o x : Nat} (ho : o < a.next.length * b.next.length) (hx : x ≤ letN a) :
    (bfsM (prodD f a b) i o x).Nodup ∧ ∀ t ∈ bfsM (prodD f a b) i o x, t < a.next.length * b.next.length := by
  obtain ⟨h1, h2⟩ := pr_bfs_ok (f := f) ha hb hv i
  exact foldl_add_ok _ _ h1 h2 (fun t ht => by
    obtain ⟨y, hy, rfl⟩ := List.mem_map.1 ht
    exact (pr_toN_lt ha hb hv ho (by have := List.mem_range.1 hy; omega)).2)
theorem pr_bfsM_len {f : Bool → Bool → Bool} {a b : DFA} (ha : Val a) (hb : Val b) (hv : a.vars = b.vars) {i o x : Nat} (ho : o < a.next.length * b.next.length) (hx : x ≤ letN a) :
    (bfsM (prodD f a b) i o x).length ≤ a.next.length * b.next.length := nodup_bound (pr_bfsM_ok ha hb hv ho hx).1 (pr_bfsM_ok ha hb hv ho hx).2
theorem bfsM_full {d : DFA} {i o : Nat} (h : (bfsN d i)[i]? = some o) : bfsM d i o (2 ^ d.vars.toNat) = bfsN d (i + 1) := by rw [bfsN_succ h]; rfl
theorem bfsM_prefix {d : DFA} {i o x : Nat} (h : (bfsN d i)[i]? = some o) (hx : x ≤ 2 ^ d.vars.toNat) : bfsM d i o x <+: bfsN d (i + 1) := by
  rw [← bfsM_full h]
  unfold bfsM
  have h1 : List.range (2 ^ d.vars.toNat) = List.range x ++ (List.range (2 ^ d.vars.toNat)).drop x := by
    have h2 := List.take_append_drop x (List.range (2 ^ d.vars.toNat))
    rw [List.take_range, Nat.min_eq_left hx] at h2
    exact h2.symm
  rw [h1, List.map_append, List.foldl_append]
  exact foldl_prefix _ _
theorem ord_prefix {d : DFA} {i o x : Nat} (h : (bfsN d i)[i]? = some o) (hx : x ≤ 2 ^ d.vars.toNat) (hi : i + 1 ≤ d.next.length) : bfsM d i o x <+: order d :=
  (bfsM_prefix h hx).trans (bfsN_prefix d _ _ hi)
theorem visit_old {d : DFA} {i o x : Nat} (h : (bfsN d i)[i]? = some o) (hx : x ≤ 2 ^ d.vars.toNat) (hi : i + 1 ≤ d.next.length) {t : Nat} (ht : t ∈ bfsM d i o x) : ix t (bfsM d i o x) = ix t (order d) :=
  (ix_prefix (ord_prefix h hx hi) ht).symm
theorem visit_new {d : DFA} {i o x : Nat} (h : (bfsN d i)[i]? = some o) (hx : x < 2 ^ d.vars.toNat) (hi : i + 1 ≤ d.next.length) (ht : toN d o x ∉ bfsM d i o x) : (bfsM d i o x).length = ix (toN d o x) (order d) ∧ bfsM d i o (x + 1) = bfsM d i o x ++ [toN d o x] := by
  have h1 : bfsM d i o (x + 1) = bfsM d i o x ++ [toN d o x] := by rw [bfsM_step]; unfold add; rw [if_neg ht]
  have h2 := ord_prefix (x := x + 1) h hx hi
  refine ⟨?_, h1⟩
  rw [ix_prefix h2 (by rw [h1]; simp), h1, ix_append_right ht]
  simp [ix]
theorem visit_same {d : DFA} {i o x : Nat} (ht : toN d o x ∈ bfsM d i o x) : bfsM d i o (x + 1) = bfsM d i o x := by rw [bfsM_step]; unfold add; rw [if_pos ht]
end Go.Lx

namespace Go.Lx
open Go.RowKit
set_option linter.unusedVariables false
def Det (z a : DFA) : Prop := ∀ u u', WdV z.vars u → WdV z.vars u' → runN z z.start.toNat u = runN z z.start.toNat u' → runN a a.start.toNat u = runN a a.start.toNat u'
def Fac (z : DFA) (p : List Nat → Bool) : Prop := ∀ u u' w, WdV z.vars u → WdV z.vars u' → WdV z.vars w → runN z z.start.toNat u = runN z z.start.toNat u' → p (u ++ w) = p (u' ++ w)
theorem runN_append (d : DFA) (s : Nat) (u w : List Nat) : runN d s (u ++ w) = runN d (runN d s u) w := by simp [runN]
theorem WdV.append {v : Int} {u w : List Nat} (hu : WdV v u) (hw : WdV v w) : WdV v (u ++ w) := fun x hx => (List.mem_append.1 hx).elim (hu x) (hw x)
theorem wd_wdV {d : DFA} {w : List Nat} : Wd d w ↔ WdV d.vars w := Iff.rfl
theorem Det.refl (z : DFA) : Det z z := fun _ _ _ _ h => h
theorem Det.fac {z a : DFA} {n : Nat} {p : List Nat → Bool} (h : Det z a) (ha : HasL z.vars n a p) : Fac z p := fun u u' w hu hu' hw e => by
  rw [← ha.acc _ (hu.append hw), ← ha.acc _ (hu'.append hw)]
  unfold acc
  rw [runN_append, runN_append, h u u' hu hu' e]
theorem Fac.op {z : DFA} {p q : List Nat → Bool} (f : Bool → Bool → Bool) (hp : Fac z p) (hq : Fac z q) : Fac z (fun w => f (p w) (q w)) := fun u u' w hu hu' hw e => by
  show f _ _ = f _ _
  rw [hp u u' w hu hu' hw e, hq u u' w hu hu' hw e]
theorem Det.prodL {f : Bool → Bool → Bool} {a b : DFA} (ha : Val a) (hb : Val b) (hv : a.vars = b.vars) : Det (prodD f a b) a ∧ Det (prodD f a b) b := by
  have key : ∀ u u', Wd a u → Wd a u' → runN (prodD f a b) (prodD f a b).start.toNat u = runN (prodD f a b) (prodD f a b).start.toNat u' → runN a a.start.toNat u = runN a a.start.toNat u' ∧ runN b b.start.toNat u = runN b b.start.toNat u' := fun u u' hu hu' e => by
    have hs : (prodD f a b).start.toNat = a.start.toNat * b.next.length + b.start.toNat := Int.toNat_natCast _
    rw [hs, prod_run ha hb hv (start_lt ha) (start_lt hb) u hu, prod_run ha hb hv (start_lt ha) (start_lt hb) u' hu'] at e
    have hbu : Wd b u := fun x hx => by have := hu x hx; unfold letN at *; rw [← hv]; exact this
    have hbu' : Wd b u' := fun x hx => by have := hu' x hx; unfold letN at *; rw [← hv]; exact this
    have h1 := pr_div (s := runN a a.start.toNat u) (runN_lt hb (start_lt hb) u hbu)
    have h2 := pr_div (s := runN a a.start.toNat u') (runN_lt hb (start_lt hb) u' hbu')
    rw [← e] at h2
    exact ⟨h1.1.symm.trans h2.1, h1.2.symm.trans h2.2⟩
  exact ⟨fun u u' hu hu' e => (key u u' hu hu' e).1, fun u u' hu hu' e => (key u u' hu hu' e).2⟩
theorem Det.trans {z y a : DFA} (hv : z.vars = y.vars) (h : Det z y) (h2 : Det y a) : Det z a := fun u u' hu hu' e => h2 u u' (hv ▸ hu) (hv ▸ hu') (h u u' hu hu' e)
theorem Fac.det {z a : DFA} {n : Nat} {p : List Nat → Bool} (h : Fac z p) (ha : MinL z.vars n a p) : Det z a := fun u u' hu hu' e => by
  have hva := ha.valid
  have wu : Wd a u := ha.wd.2 hu
  have wu' : Wd a u' := ha.wd.2 hu'
  have hs := runN_lt hva (start_lt hva) u wu
  have ht := runN_lt hva (start_lt hva) u' wu'
  refine Classical.byContradiction fun hne => ?_
  have hT : Tell (minD a) (runN a a.start.toNat u) (runN a a.start.toNat u') none := fun w hw hd => by
    rw [ha.min] at hw hd
    refine hd ?_
    have hwv : WdV z.vars w := ha.wd.1 hw
    have := h u u' w hu hu' hwv e
    rw [← ha.acc _ (hu.append hwv), ← ha.acc _ (hu'.append hwv)] at this
    unfold acc at this
    rw [runN_append, runN_append] at this
    exact this
  have := (minD_apart hva (by rw [ha.min]; exact hs) (by rw [ha.min]; exact ht) hT).2 hne
  exact absurd this (by simp)
theorem order_fact {d z : DFA} (hd : Val d) (hz : Val z) (hv : z.vars = d.vars) (h : Det z d) : (order d).length ≤ z.next.length := by
  classical
  have hr : ∀ o ∈ order d, ∃ w, Wd d w ∧ runN d d.start.toNat w = o := fun o ho => bfsN_reach hd _ o ho
  let g : Nat → Nat := fun o => if hx : ∃ w, Wd d w ∧ runN d d.start.toNat w = o then runN z z.start.toNat (Classical.choose hx) else 0
  have hg : ∀ o ∈ order d, ∃ w, Wd d w ∧ runN d d.start.toNat w = o ∧ g o = runN z z.start.toNat w := fun o ho => by
    have hx := hr o ho
    refine ⟨Classical.choose hx, (Classical.choose_spec hx).1, (Classical.choose_spec hx).2, ?_⟩
    show (if hx : _ then _ else _) = _
    rw [dif_pos hx]
  have wz : ∀ w, Wd d w → WdV z.vars w := fun w hw => by rw [hv]; exact hw
  have hn : ((order d).map g).Nodup := map_nodup (bfsN_ok hd _).1 fun a ha b hb e => by
    obtain ⟨u, hu, rfl, e1⟩ := hg a ha
    obtain ⟨u', hu', rfl, e2⟩ := hg b hb
    exact h u u' (wz u hu) (wz u' hu') (by rw [← e1, ← e2, e])
  have := nodup_bound (n := z.next.length) hn fun x hx => by
    obtain ⟨o, ho, rfl⟩ := List.mem_map.1 hx
    obtain ⟨u, hu, _, e1⟩ := hg o ho
    rw [e1]
    exact runN_lt hz (start_lt hz) u (wz u hu)
  simpa using this
theorem pr_order_factW {f : Bool → Bool → Bool} {a b z : DFA} (ha : Val a) (hb : Val b) (hv : a.vars = b.vars) (hz : Val z) (hzv : z.vars = a.vars) (h1 : Det z a) (h2 : Det z b) : (order (prodD f a b)).length ≤ z.next.length := by
  refine order_fact (prod_val ha hb hv) hz hzv fun u u' hu hu' e => ?_
  rw [show (prodD f a b).start.toNat = a.start.toNat * b.next.length + b.start.toNat from Int.toNat_natCast _,
    prod_run ha hb hv (start_lt ha) (start_lt hb) u (by rw [wd_wdV, ← hzv]; exact hu), prod_run ha hb hv (start_lt ha) (start_lt hb) u' (by rw [wd_wdV, ← hzv]; exact hu'), h1 u u' hu hu' e, h2 u u' hu hu' e]
theorem pr_order_fact {f : Bool → Bool → Bool} {a b z : DFA} (ha : Val a) (hb : Val b) (hv : a.vars = b.vars) (hn : a.next.length * b.next.length ≤ 4096) (hz : Val z) (hzv : z.vars = a.vars) (h1 : Det z a) (h2 : Det z b) : (order (prodD f a b)).length ≤ z.next.length := by
  refine order_fact (prod_val ha hb hv) hz hzv fun u u' hu hu' e => ?_
  rw [show (prodD f a b).start.toNat = a.start.toNat * b.next.length + b.start.toNat from Int.toNat_natCast _,
    prod_run ha hb hv (start_lt ha) (start_lt hb) u (by rw [wd_wdV, ← hzv]; exact hu), prod_run ha hb hv (start_lt ha) (start_lt hb) u' (by rw [wd_wdV, ← hzv]; exact hu'), h1 u u' hu hu' e, h2 u u' hu hu' e]
theorem pr_order_le {f : Bool → Bool → Bool} {a b : DFA} (ha : Val a) (hb : Val b) (hv : a.vars = b.vars) : (order (prodD f a b)).length ≤ a.next.length * b.next.length := pr_bfs_len ha hb hv _
theorem laws_small {v : Int} {n : Nat} {a b c : DFA} {p q r : List Nat → Bool} (ha : HasL v n a p) (hb : HasL v n b q) (hc : HasL v n c r) (hn : n ≤ 4) :
    (order (prodD orB (opD andB a b) (opD andB a c))).length ≤ 64 ∧ (order (prodD orB (opD minusB a b) (opD minusB b a))).length ≤ 64 := by
  have h4 : n * n ≤ 4096 := Nat.le_trans (Nat.mul_le_mul hn hn) (by decide)
  have e1 : a.vars = b.vars := by rw [ha.vars, hb.vars]
  have l16 : a.next.length * b.next.length ≤ 16 := Nat.mul_le_mul (Nat.le_trans ha.len hn) (Nat.le_trans hb.len hn)
  have hy := prod_valid (f := andB) ha.valid hb.valid e1 (by omega)
  have yl := prod_len andB a b
  have e2 : (prodD andB a b).vars = c.vars := by show a.vars = c.vars; rw [ha.vars, hc.vars]
  have l64 : (prodD andB a b).next.length * c.next.length ≤ 64 := by rw [yl]; exact Nat.mul_le_mul l16 (Nat.le_trans hc.len hn)
  have hz := prod_valid (f := andB) hy hc.valid e2 (by omega)
  have zl := prod_len andB (prodD andB a b) c
  have hzv : (prodD andB (prodD andB a b) c).vars = v := ha.vars
  have dy := (Det.prodL (f := andB) hy hc.valid e2).1
  have dc := (Det.prodL (f := andB) hy hc.valid e2).2
  have da := Det.trans (z := prodD andB (prodD andB a b) c) (y := prodD andB a b) rfl dy (Det.prodL (f := andB) ha.valid hb.valid e1).1
  have db := Det.trans (z := prodD andB (prodD andB a b) c) (y := prodD andB a b) rfl dy (Det.prodL (f := andB) ha.valid hb.valid e1).2
  have fa : Fac (prodD andB (prodD andB a b) c) p := da.fac (by rw [hzv]; exact ha)
  have fb : Fac (prodD andB (prodD andB a b) c) q := db.fac (by rw [hzv]; exact hb)
  have fc : Fac (prodD andB (prodD andB a b) c) r := dc.fac (by rw [hzv]; exact hc)
  have go : ∀ {x y : DFA} {P Q : List Nat → Bool}, MinL v (n * n) x P → MinL v (n * n) y Q → Fac (prodD andB (prodD andB a b) c) P → Fac (prodD andB (prodD andB a b) c) Q → (order (prodD orB x y)).length ≤ 64 := fun {x y P Q} hx hyy hP hQ => by
    have hl : x.next.length * y.next.length ≤ 4096 := by
      have hn16 : n * n ≤ 16 := Nat.mul_le_mul hn hn
      exact Nat.le_trans (Nat.mul_le_mul (Nat.le_trans hx.len hn16) (Nat.le_trans hyy.len hn16)) (by decide)
    have := pr_order_fact (f := orB) hx.valid hyy.valid (by rw [hx.vars, hyy.vars]) hl hz (by rw [hzv, hx.vars]) (hP.det (by rw [hzv]; exact hx)) (hQ.det (by rw [hzv]; exact hyy))
    rw [zl] at this
    omega
  exact ⟨go (ha.op hb h4) (ha.op hc h4) (fa.op andB fb) (fa.op andB fc), go (ha.op hb h4) (hb.op ha h4) (fa.op minusB fb) (fb.op minusB fa)⟩
end Go.Lx

namespace Go.Lx
open Go.RowKit
set_option linter.unusedVariables false
def noD : DFA := ⟨0, 0, [], []⟩
def wrongD (a b : DFA) : Nat := if checkD a ≠ 0 then checkD a else if checkD b ≠ 0 then checkD b else if a.vars ≠ b.vars then 7 else 0
def opV (f : Bool → Bool → Bool) (a b : DFA) : DFA := if wrongD a b = 0 then opD f a b else noD
theorem wrongD_zero {a b : DFA} : wrongD a b = 0 ↔ Valid a ∧ Valid b ∧ a.vars = b.vars := by
  unfold wrongD
  rw [← checkD_zero, ← checkD_zero]
  split
  · rename_i h; constructor
    · intro e; exact absurd e h
    · intro e; exact absurd e.1 h
  · rename_i h1; split
    · rename_i h; constructor
      · intro e; exact absurd e h
      · intro e; exact absurd e.2.1 h
    · rename_i h2; split
      · rename_i h; constructor
        · intro e; exact absurd e (by decide)
        · intro e; exact absurd e.2.2 h
      · rename_i h; constructor
        · intro _; exact ⟨by omega, by omega, Classical.not_not.1 h⟩
        · intro _; rfl
theorem wrong_first {a b : DFA} (h : checkD a ≠ 0) : wrongD a b = checkD a := by unfold wrongD; rw [if_pos h]
theorem wrong_second {a b : DFA} (h : checkD a = 0) (h2 : checkD b ≠ 0) : wrongD a b = checkD b := by unfold wrongD; rw [if_neg (by omega), if_pos h2]
theorem wrong_vars {a b : DFA} (h : checkD a = 0) (h2 : checkD b = 0) (h3 : a.vars ≠ b.vars) : wrongD a b = 7 := by unfold wrongD; rw [if_neg (by omega), if_neg (by omega), if_pos h3]
theorem opV_ok {f : Bool → Bool → Bool} {a b : DFA} (h : wrongD a b = 0) : opV f a b = opD f a b := by unfold opV; rw [if_pos h]
theorem opV_bad {f : Bool → Bool → Bool} {a b : DFA} (h : wrongD a b ≠ 0) : opV f a b = noD := by unfold opV; rw [if_neg h]
def un (n c : Nat) : Int × Int := (((c / n : Nat) : Int), ((c % n : Nat) : Int))
theorem un_inj {n c e : Nat} (h : un n c = un n e) : c = e := by
  unfold un at h
  simp only [Prod.mk.injEq] at h
  have h1 : c / n = e / n := by omega
  have h2 : c % n = e % n := by omega
  rw [← Nat.div_add_mod c n, ← Nat.div_add_mod e n, h1, h2]
abbrev unC (n c : Nat) : List Value := [.int .i64 ((c / n : Nat) : Int), .int .i64 ((c % n : Nat) : Int)]
def prs (n : Nat) (ks : List Nat) : List Value := ks.flatMap (unC n)
theorem prs_snoc (n : Nat) (ks : List Nat) (c : Nat) : prs n (ks ++ [c]) = prs n ks ++ unC n c := by simp [prs]
theorem prs_len (n : Nat) : ∀ ks : List Nat, (prs n ks).length = ks.length * 2
  | [] => rfl
  | c :: ks => by
    have := prs_len n ks
    simp only [prs, List.flatMap_cons, List.length_append, List.length_cons, List.length_nil] at this ⊢
    omega
theorem prs_get {n : Nat} : ∀ {ks : List Nat} {i c : Nat}, ks[i]? = some c → ∀ j (h : j < (unC n c).length), (prs n ks)[i * 2 + j]? = some (unC n c)[j]
  | [], i, c, h, _, _ => by simp at h
  | e :: ks, 0, c, h, j, hj => by
    simp only [List.getElem?_cons_zero, Option.some.injEq] at h
    subst h
    rw [Nat.zero_mul, Nat.zero_add, show prs n (e :: ks) = unC n e ++ prs n ks from rfl, List.getElem?_append_left hj]
    exact List.getElem?_eq_getElem hj
  | e :: ks, i + 1, c, h, j, hj => by
    rw [show prs n (e :: ks) = unC n e ++ prs n ks from rfl, List.getElem?_append_right (by show 2 ≤ _; omega), show (i + 1) * 2 + j - (unC n e).length = i * 2 + j by show (i + 1) * 2 + j - 2 = _; omega]
    exact prs_get (by simpa using h) j hj
abbrev pmap (n : Nat) (ks : List Nat) : List ((Int × Int) × Nat) := (ks.map (un n)).zipIdx
theorem un_mem {n c : Nat} {ks : List Nat} : un n c ∈ ks.map (un n) ↔ c ∈ ks := by
  constructor
  · intro h
    obtain ⟨e, he, h2⟩ := List.mem_map.1 h
    rw [← un_inj h2]; exact he
  · exact fun h => List.mem_map_of_mem h
theorem un_ix (n c : Nat) : ∀ ks : List Nat, ix (un n c) (ks.map (un n)) = ix c ks
  | [] => rfl
  | e :: ks => by
    simp only [List.map_cons, ix, un_ix n c ks]
    by_cases h : c = e
    · rw [h]; simp
    · rw [if_neg (fun h2 => h (un_inj h2)), if_neg h]
theorem pmap_snoc (n : Nat) (ks : List Nat) (c : Nat) : pmap n (ks ++ [c]) = pmap n ks ++ [(un n c, ks.length)] := by
  show ((ks ++ [c]).map (un n)).zipIdx = _
  rw [List.map_append, List.zipIdx_append]; simp
theorem pmap_fst (n : Nat) (ks : List Nat) : (pmap n ks).map Prod.fst = ks.map (un n) := zipIdx_fst _ 0
def rnR (d : DFA) (o : Nat) : List Int := (renRow d o).map fun x : Nat => (x : Int)
theorem renum_rows (d : DFA) : (renum d).next = (order d).map (rnR d) := renum_next d
theorem renum_fins (d : DFA) : (renum d).final = (order d).map (finN d) := rfl
theorem bfs_at {d : DFA} {i o : Nat} (h : (bfsN d i)[i]? = some o) (hi : i ≤ d.next.length) : (order d)[i]? = some o := by
  obtain ⟨hl, e⟩ := List.getElem?_eq_some_iff.1 h
  obtain ⟨r, hr⟩ := bfsN_prefix d i d.next.length hi
  show (bfsN d d.next.length)[i]? = _
  rw [← hr, List.getElem?_append_left hl]; exact h
theorem take_at {α : Type} {l : List α} {i : Nat} {o : α} (h : l[i]? = some o) : l.take (i + 1) = l.take i ++ [o] := by
  obtain ⟨hl, e⟩ := List.getElem?_eq_some_iff.1 h
  rw [List.take_succ_eq_append_getElem hl, e]
theorem pr_fin_at {f : Bool → Bool → Bool} {a b : DFA} {o : Nat} (ho : o < a.next.length * b.next.length) : finN (prodD f a b) o = f (finN a (o / b.next.length)) (finN b (o % b.next.length)) := by
  obtain ⟨h1, h2⟩ := pr_split ho
  have := prod_fin (f := f) h1 h2
  rwa [Nat.div_add_mod'] at this
theorem pr_stop {f : Bool → Bool → Bool} {a b : DFA} {N : Nat} (va : Valid a) (vb : Valid b) (hv : a.vars = b.vars) (h : (bfsN (prodD f a b) N).length = N) : order (prodD f a b) = bfsN (prodD f a b) N :=
  order_eq h (by have := pr_bfs_len (f := f) va vb hv N; rw [prod_len]; omega)
theorem itms_snoc (E : TypeId) (qs : List Rec) (r : Rec) : itms E (qs ++ [r]) = itms E qs ++ [r.itm E] := List.map_append
theorem Sub.fold (A : List Item) (x : Item) (B S S' : List Item) (h : S' = S ++ [x]) : Sub ((A ++ S') ++ B) ((A ++ (x :: B)) ++ S) := by
  subst h
  refine ⟨_, ?_, List.Sublist.refl _⟩
  have h1 : (A ++ (S ++ [x])) ++ B = A ++ (S ++ (x :: B)) := by simp
  have h2 : (A ++ (x :: B)) ++ S = A ++ ((x :: B) ++ S) := by simp
  rw [h1, h2]
  exact List.Perm.append_left A List.perm_append_comm
end Go.Lx

namespace Go.Lx
open Go.RowKit
set_option linter.unusedVariables false
def opB (op : Int) : Bool → Bool → Bool := if op = 0 then andB else if op = 1 then orB else if op = 2 then xorB else minusB
theorem wrongD_self {d : DFA} : wrongD d d = checkD d := by
  unfold wrongD
  by_cases h : checkD d = 0 <;> simp [h]
theorem orderNot {d : DFA} (hv : Valid d) (hn : d.next.length * d.next.length ≤ 4096) : (order (prodD notB d d)).length ≤ d.next.length :=
  pr_order_fact hv hv rfl hn hv rfl (Det.refl d) (Det.refl d)
def sinkD (m : DFA) : DFA := ⟨m.vars, m.start, m.next ++ [List.replicate (2 ^ m.vars.toNat) (m.next.length : Int)], m.final ++ [false]⟩
theorem sinkD_both (m : DFA) : both m (stayD m.vars false) = sinkD m := by
  unfold both stayD sinkD
  simp
theorem sinkD_len (m : DFA) : (sinkD m).next.length = m.next.length + 1 := by simp [sinkD]
theorem sinkD_flen (m : DFA) : (sinkD m).final.length = m.final.length + 1 := by simp [sinkD]
theorem sinkD_valid {m : DFA} (hm : Valid m) (hn : m.next.length + 1 ≤ 4096) : Valid (sinkD m) := by
  rw [← sinkD_both]
  exact both_valid hm (stay_valid hm.v0 hm.v6 false) rfl hn
theorem sink_least {m : DFA} (hm : Valid m) (hn : m.next.length + 1 ≤ 4096) {r : Option (List Nat)} (h : TellA (sinkD m) m.start (m.next.length : Int) r) : LeastA m r := by
  have hv := sinkD_valid hm hn
  have e0 : eD (sinkD m) m.start (m.next.length : Int) = 0 := eD_zero.2 ⟨hv, hm.s0, by rw [sinkD_len]; have := hm.s1; omega, by omega, by rw [sinkD_len]; omega⟩
  unfold TellA at h
  rw [if_pos e0, Int.toNat_natCast, ← sinkD_both] at h
  exact tell_least hm hn h
theorem sink_eD {m : DFA} (hm : Valid m) (hn : m.next.length + 1 ≤ 4096) : eD (sinkD m) m.start (m.next.length : Int) = 0 :=
  eD_zero.2 ⟨sinkD_valid hm hn, hm.s0, by rw [sinkD_len]; have := hm.s1; omega, by omega, by rw [sinkD_len]; omega⟩
def InclA (a b : DFA) (r : Option (List Nat)) : Prop := if wrongD a b = 0 then LeastA (opD minusB a b) r else r = none
theorem InclA.unique {a b : DFA} (hn : wrongD a b = 0 → a.next.length * b.next.length ≤ 4096) {r s : Option (List Nat)} (h : InclA a b r) (h2 : InclA a b s) : r = s := by
  unfold InclA at h h2
  by_cases hw : wrongD a b = 0
  · rw [if_pos hw] at h h2
    obtain ⟨va, vb, hv⟩ := wrongD_zero.1 hw
    exact h.unique (opD_valid va vb hv (hn hw)) h2
  · rw [if_neg hw] at h h2; rw [h, h2]
theorem InclA.ok {a b : DFA} (hw : wrongD a b = 0) {r : Option (List Nat)} : InclA a b r ↔ LeastA (opD minusB a b) r := by unfold InclA; rw [if_pos hw]
theorem InclA.of_prod {a b : DFA} (hw : wrongD a b = 0) (hn : a.next.length * b.next.length ≤ 4096) {r : Option (List Nat)} (h : LeastA (prodD minusB a b) r) : InclA a b r := by
  obtain ⟨va, vb, hv⟩ := wrongD_zero.1 hw
  rw [InclA.ok hw]
  exact LeastA.congr (d := prodD minusB a b) (e := opD minusB a b) rfl (fun w hwd => (minD_acc (prod_val va.toVal vb.toVal hv) hwd).symm) h
def eqlA (a b : DFA) : Bool := decide (wrongD a b = 0) && (decide ((opD xorB a b).next.length = 1) && !finN (opD xorB a b) 0)
def allR : DFA → List DFA → DFA × Nat
  | d, [] => (d, 0)
  | d, x :: l => if wrongD d x = 0 then allR (opD andB d x) l else (noD, wrongD d x)
def AllOk : DFA → List DFA → Prop
  | _, [] => True
  | d, x :: l => wrongD d x = 0 → d.next.length * x.next.length ≤ 64 ∧ AllOk (opD andB d x) l
def allV (v : Int) (l : List DFA) : DFA × Nat := if 0 ≤ v ∧ v ≤ 6 then allR (stayD v true) l else (noD, 7)
theorem allR_at {d : DFA} {l : List DFA} {i : Nat} (h : i < l.length) : allR d (l.drop i) = if wrongD d l[i] = 0 then allR (opD andB d l[i]) (l.drop (i + 1)) else (noD, wrongD d l[i]) := by
  rw [List.drop_eq_getElem_cons h]; rfl
theorem allR_end {d : DFA} {l : List DFA} {i : Nat} (h : l.length ≤ i) : allR d (l.drop i) = (d, 0) := by
  rw [List.drop_eq_nil_of_le h]; rfl
theorem AllOk.at {d : DFA} {l : List DFA} {i : Nat} (h : i < l.length) (ha : AllOk d (l.drop i)) (hw : wrongD d l[i] = 0) : d.next.length * l[i].next.length ≤ 64 ∧ AllOk (opD andB d l[i]) (l.drop (i + 1)) := by
  rw [List.drop_eq_getElem_cons h] at ha
  exact ha hw
abbrev k00 : DK := ⟨none, 0, none, 0, []⟩
theorem T.nilD {P : Program} {r : Option Nat} {base : World} {n : Nat} {c : Code} {Q : Post} {ρ : Env} {O : List Item} (II Bo I : TypeId) (h : T P r base n c Q ρ (dI II Bo I noD k00 :: O)) : T P r base n c Q ρ O :=
  T.nilRow Bo 1 (T.nilRow II 1 (T.pack (φ := nums k00.qs = noD.next) (L := [rowI none 0 II 1 [], rowI none 0 Bo 1 []] ++ []) (M := O) rfl h))
theorem CallT.nilD {P : Program} {base : World} {f : FuncId} {args : List Value} {O : List Item} {R : Value → List Item → Prop} (II Bo I : TypeId) (h : CallT P base f args O R) : CallT P base f args O (fun v O' => ∃ O2, O' = dI II Bo I noD k00 :: O2 ∧ R v O2) :=
  (CallT.addNil II 1 (CallT.addNil Bo 1 h)).packR fun v O' hR => by
    obtain ⟨O2, rfl, O3, rfl, h3⟩ := hR
    exact ⟨nums k00.qs = noD.next, [rowI Option.none 0 II 1 [], rowI Option.none 0 Bo 1 []] ++ [], O3, rfl, rfl, O3, rfl, h3⟩
theorem stay_nums (v : Int) (b : Option Addr) (f : Bool) : nums [⟨b, 2 ^ v.toNat, List.replicate (2 ^ v.toNat) 0⟩] = (stayD v f).next := rfl
theorem eqlA_ok {a b : DFA} (h : wrongD a b = 0) : eqlA a b = (decide ((opD xorB a b).next.length = 1) && !finN (opD xorB a b) 0) := by unfold eqlA; rw [decide_eq_true h]; rfl
theorem eqlA_bad {a b : DFA} (h : wrongD a b ≠ 0) : eqlA a b = false := by unfold eqlA; rw [decide_eq_false h]; rfl
theorem Sub.foldN (A : List Item) (x : Item) (S S' : List Item) (h : S' = S ++ [x]) : Sub (A ++ S') ((A ++ [x]) ++ S) := by
  have := Sub.fold A x [] S S' h
  rwa [List.append_nil] at this
theorem prRow_len (a b : DFA) (s t : Nat) : (prRow a b s t).length = letN a := by unfold prRow; simp
theorem prRow_at {a b : DFA} {s t x : Nat} (h : x < letN a) : (prRow a b s t)[x]? = some ((toN a s x * b.next.length + toN b t x : Nat) : Int) := by unfold prRow; rw [List.getElem?_map, List.getElem?_range h]; rfl
theorem prNext_len (a b : DFA) : (prNext a b).length = a.next.length * b.next.length := by unfold prNext; simp
theorem prFin_len (f : Bool → Bool → Bool) (a b : DFA) : (prFin f a b).length = a.next.length * b.next.length := by unfold prFin; simp
theorem prNext_at {a b : DFA} {s t : Nat} (hs : s < a.next.length) (ht : t < b.next.length) : (prNext a b)[s * b.next.length + t]? = some (prRow a b s t) := by
  obtain ⟨h1, h2⟩ := pr_div (s := s) ht
  unfold prNext; rw [List.getElem?_map, List.getElem?_range (pr_lt hs ht)]; simp only [Option.map_some, h1, h2]
theorem prFin_at {f : Bool → Bool → Bool} {a b : DFA} {s t : Nat} (hs : s < a.next.length) (ht : t < b.next.length) : (prFin f a b)[s * b.next.length + t]? = some (f (finN a s) (finN b t)) := by
  obtain ⟨h1, h2⟩ := pr_div (s := s) ht
  unfold prFin; rw [List.getElem?_map, List.getElem?_range (pr_lt hs ht)]; simp only [Option.map_some, h1, h2]
theorem finN_at {d : DFA} (hv : Valid d) {s : Nat} (hs : s < d.next.length) : (bools d.final)[s]? = some (.bool (finN d s)) := by
  have hl : s < d.final.length := by rw [hv.fin]; exact hs
  rw [bools_get hl]; unfold finN; rw [List.getD_eq_getElem?_getD, List.getElem?_eq_getElem hl]; rfl
theorem toN_at {d : DFA} (hv : Valid d) {s x : Nat} (hs : s < d.next.length) (hx : x < 2 ^ d.vars.toNat) : (ints d.next[s])[x]? = some (.int .i64 ((toN d s x : Nat) : Int)) := by
  obtain ⟨_, _, h2, e⟩ := hv.toN_lt hs hx
  rw [ints_get h2, e]
theorem flipV {d : DFA} (hn : Valid d → d.next.length * d.next.length ≤ 4096) (hv : Valid d) : minV (flipD d) = opV notB d d := by
  rw [minV_valid (flip_valid hv), opV_ok (wrongD_zero.2 ⟨hv, hv, rfl⟩)]
  exact notD_flip hv (hn hv)
end Go.Lx

namespace Go.Lx
open Go.RowKit
set_option linter.unusedVariables false
theorem HasL.opW {f : Bool → Bool → Bool} {v : Int} {n m N : Nat} {a b : DFA} {p q : List Nat → Bool} (ha : HasL v n a p) (hb : HasL v m b q) (h : (order (prodD f a b)).length ≤ N) (hN : N ≤ 4096) : MinL v N (opD f a b) (fun w => f (p w) (q w)) := by
  have hv : a.vars = b.vars := by rw [ha.vars, hb.vars]
  have vD : Val (prodD f a b) := prod_val ha.valid.toVal hb.valid.toVal hv
  have vR : Valid (renum (prodD f a b)) := renum_fit vD (Nat.le_trans h hN)
  have e : opD f a b = minD (renum (prodD f a b)) := (minD_renum vD).symm
  have hl : (minD (renum (prodD f a b))).next.length ≤ (renum (prodD f a b)).next.length := minD_len vR.toVal
  have hr : (renum (prodD f a b)).next.length = (order (prodD f a b)).length := by simp [renum]
  refine ⟨⟨?_, ?_, ha.vars, fun w hw => ?_⟩, opD_minW ha.valid.toVal hb.valid.toVal hv⟩
  · rw [e]; exact minD_valid vR
  · rw [e]; omega
  · rw [opD_accW ha.valid.toVal hb.valid.toVal hv (ha.wd.2 hw), ha.acc w hw, hb.acc w hw]
end Go.Lx

namespace Go.Lx
open Go.RowKit
set_option linter.unusedVariables false
def exO : DFA := ⟨1, 0, [[2, 1], [1, 1], [2, 2]], [false, true, false]⟩
def exE : DFA := ⟨1, 0, [[1, 1], [0, 0]], [true, false]⟩
theorem exO_valid : Valid exO := checkD_zero.1 (by decide)
theorem exE_valid : Valid exE := checkD_zero.1 (by decide)
theorem exO_has : HasL 1 3 exO (acc exO) := HasL.of exO_valid (by decide)
theorem exE_has : HasL 1 2 exE (acc exE) := HasL.of exE_valid (by decide)
theorem oe_wrong : wrongD exO exE = 0 := wrongD_zero.2 ⟨exO_valid, exE_valid, rfl⟩
theorem HasL.accV {v : Int} {n : Nat} {d : DFA} {p : List Nat → Bool} (h : HasL v n d p) {w : List Nat} (hw : WdV v w) (hl : w.length ≤ 64) : Lx.accV d w = p w := by
  rw [accV_zero (runE_zero.2 ⟨h.valid, hl, h.wd.2 hw⟩), h.acc w hw]
theorem oe_op (f : Bool → Bool → Bool) : MinL 1 6 (opV f exO exE) (fun w => f (acc exO w) (acc exE w)) := by
  rw [opV_ok oe_wrong]; exact exO_has.op exE_has (by decide)
theorem oe_acc (f : Bool → Bool → Bool) {w : List Nat} (hw : ∀ x ∈ w, x < 2) (hl : w.length ≤ 64) : accV (opV f exO exE) w = f (acc exO w) (acc exE w) := (oe_op f).toHasL.accV hw hl
theorem oe_small (f : Bool → Bool → Bool) : wrongD exO exE = 0 → exO.next.length * exE.next.length ≤ 4096 ∧ (order (prodD f exO exE)).length < 10000 := fun _ =>
  ⟨by decide, Nat.lt_of_le_of_lt (pr_order_le exO_valid exE_valid rfl) (by decide)⟩
theorem code_low {u : List Nat} (h : code u ≤ 1) : u = [] ∨ u = [0] := by
  have c0 : ∀ w : List Nat, code w = 0 → w = [] := by
    refine snocInd (fun _ => rfl) ?_
    intro l x _ h; rw [code_snoc] at h; omega
  revert h
  refine snocInd (p := fun u => code u ≤ 1 → u = [] ∨ u = [0]) (fun _ => .inl rfl) ?_ u
  intro l x _ h
  rw [code_snoc] at h
  have h1 : code l = 0 := by omega
  have h2 : x = 0 := by omega
  rw [c0 l h1, h2]; exact .inr rfl
theorem oe_incl {res : Option (List Nat)} (h : InclA exO exE res) : res = some [1] := by
  have hL : LeastA (opD minusB exO exE) (some [1]) := by
    have hm := oe_op minusB
    rw [opV_ok oe_wrong] at hm
    have w1 : WdV 1 [1] := (show ∀ x ∈ [1], x < 2 ^ (1 : Int).toNat by decide)
    refine ⟨hm.wd.2 w1, by rw [hm.acc [1] w1]; decide, fun u hu ha => ?_⟩
    rw [hm.acc u (hm.wd.1 hu)] at ha
    refine Classical.byContradiction fun hc => ?_
    have h1 : code [1] = 2 := by decide
    rcases code_low (u := u) (by omega) with rfl | rfl
    · exact absurd ha (by decide)
    · exact absurd ha (by decide)
  exact ((InclA.ok oe_wrong).1 h).unique (opD_valid exO_valid.toVal exE_valid.toVal rfl (by decide)) hL
theorem on_wrong : checkD exO = 0 := checkD_zero.2 exO_valid
theorem on_not : opV notB exO exO = notD exO := opV_ok (wrongD_zero.2 ⟨exO_valid, exO_valid, rfl⟩)
theorem on_min : MinL 1 9 (notD exO) (fun w => !acc exO w) := exO_has.not (by decide)
theorem on_len : (notD exO).next.length ≤ 3 := notD_len exO_valid (by decide)
theorem on_has : HasL 1 3 (notD exO) (fun w => !acc exO w) := ⟨on_min.valid, on_len, on_min.vars, on_min.acc⟩
theorem nn_not : opV notB (notD exO) (notD exO) = notD (notD exO) := opV_ok (wrongD_zero.2 ⟨on_min.valid, on_min.valid, rfl⟩)
theorem nn_min : MinL 1 9 (notD (notD exO)) (fun w => !!acc exO w) := on_has.not (by decide)
theorem nn_len : (notD (notD exO)).next.length ≤ 3 := Nat.le_trans (notD_len on_min.valid (by have := on_len; exact Nat.le_trans (Nat.mul_le_mul this this) (by decide))) on_len
theorem nn_has : HasL 1 3 (notD (notD exO)) (acc exO) := ⟨nn_min.valid, nn_len, nn_min.vars, fun w hw => by rw [nn_min.acc w hw]; simp⟩
theorem nn_wrong : wrongD exO (notD (notD exO)) = 0 := wrongD_zero.2 ⟨exO_valid, nn_min.valid, rfl⟩
theorem nn_eql : eqlA exO (notD (notD exO)) = true := by
  rw [eqlA_ok nn_wrong]
  have := (same_iff exO_has nn_has (by decide)).2 fun _ _ => rfl
  rw [this.1, this.2]; rfl
theorem nn_small : wrongD exO (notD (notD exO)) = 0 → exO.next.length * (notD (notD exO)).next.length ≤ 4096 ∧ (order (prodD xorB exO (notD (notD exO)))).length < 10000 := fun _ => by
  have h1 : exO.next.length = 3 := rfl
  have h2 := nn_len
  have h3 := pr_order_le (f := xorB) exO_valid nn_min.valid (show exO.vars = (notD (notD exO)).vars from rfl)
  rw [h1] at h3 ⊢
  exact ⟨by omega, by omega⟩
theorem aw_facts : accV (opV andB exO exE) [1, 0] = true ∧ accV (opV andB exO exE) [1, 1] = true ∧ accV (opV minusB exO exE) [1] = true ∧ accV (opV orB exO exE) [] = true ∧ accV (opV xorB exO exE) [] = true ∧ accV (opV andB exO exE) [] = false := by
  refine ⟨?_, ?_, ?_, ?_, ?_, ?_⟩ <;> (rw [oe_acc _ (by decide) (by decide)]; decide)
theorem min_bounds {v : Int} {n : Nat} {d : DFA} {p : List Nat → Bool} (h : HasL v n d p) : d.next.length < 9223372036854775807 ∧ (∀ r ∈ d.next, r.length < 9223372036854775807) ∧ d.final.length < 9223372036854775807 :=
  ⟨by have := h.valid.n4; omega, h.valid.bound, by have := h.valid.fin; have := h.valid.n4; omega⟩
end Go.Lx

namespace Go.Lx
open Go.RowKit
set_option linter.unusedVariables false
def longB (l : List DFA) : Bool := l.any fun d => longD d || decide (8 < d.next.length)
structure Sh (d : DFA) : Prop where
  n8 : d.next.length ≤ 8
  f40 : d.final.length ≤ 40
  r100 : ∀ r ∈ d.next, r.length ≤ 100
theorem sh_of {d : DFA} (h : ¬ (longD d || decide (8 < d.next.length)) = true) : Sh d := by
  simp only [Bool.or_eq_true, not_or, decide_eq_true_eq] at h
  obtain ⟨h1, h2, h3⟩ := longD_false h.1
  exact ⟨by omega, h2, h3⟩
theorem longB_two {a b : DFA} (h : ¬ longB [a, b] = true) : Sh a ∧ Sh b := by
  simp only [longB, List.any_cons, List.any_nil, Bool.or_false, Bool.or_eq_true, not_or] at h
  exact ⟨sh_of (by simp only [Bool.or_eq_true, not_or]; exact h.1), sh_of (by simp only [Bool.or_eq_true, not_or]; exact h.2)⟩
theorem longB_three {a b c : DFA} (h : ¬ longB [a, b, c] = true) : Sh a ∧ Sh b ∧ Sh c := by
  simp only [longB, List.any_cons, List.any_nil, Bool.or_false, Bool.or_eq_true, not_or] at h
  exact ⟨sh_of (by simp only [Bool.or_eq_true, not_or]; exact h.1), sh_of (by simp only [Bool.or_eq_true, not_or]; exact h.2.1), sh_of (by simp only [Bool.or_eq_true, not_or]; exact h.2.2)⟩
theorem Sh.b1 {d : DFA} (h : Sh d) : d.next.length < 9223372036854775807 := by have := h.n8; omega
theorem Sh.b2 {d : DFA} (h : Sh d) : ∀ r ∈ d.next, r.length < 9223372036854775807 := fun r hr => by have := h.r100 r hr; omega
theorem Sh.b3 {d : DFA} (h : Sh d) : d.final.length < 9223372036854775807 := by have := h.f40; omega
theorem Sh.mul {a b : DFA} (ha : Sh a) (hb : Sh b) : a.next.length * b.next.length ≤ 64 := Nat.mul_le_mul ha.n8 hb.n8
theorem Sh.small {a b : DFA} (ha : Sh a) (hb : Sh b) : wrongD a b = 0 → a.next.length * b.next.length ≤ 4096 ∧ ∀ f, (order (prodD f a b)).length < 10000 := fun hw => by
  obtain ⟨va, vb, hv⟩ := wrongD_zero.1 hw
  have := ha.mul hb
  exact ⟨by omega, fun f => Nat.lt_of_le_of_lt (pr_order_le va vb hv) (by omega)⟩
theorem Sh.has {d : DFA} (h : Sh d) (hv : Valid d) : HasL d.vars 8 d (acc d) := HasL.of hv h.n8
theorem opV_bounds {f : Bool → Bool → Bool} {a b : DFA} (hn : wrongD a b = 0 → a.next.length * b.next.length ≤ 4096) : (opV f a b).next.length < 9223372036854775807 ∧ (∀ r ∈ (opV f a b).next, r.length < 9223372036854775807) ∧ (opV f a b).final.length < 9223372036854775807 := by
  by_cases hw : wrongD a b = 0
  · rw [opV_ok hw]
    obtain ⟨va, vb, hv⟩ := wrongD_zero.1 hw
    have hV := opD_valid (f := f) va vb hv (hn hw)
    exact ⟨by have := hV.n4; omega, hV.bound, by have := hV.fin; have := hV.n4; omega⟩
  · rw [opV_bad hw]
    exact ⟨by decide, fun r hr => by simp [noD] at hr, by decide⟩
theorem HasL.small {f : Bool → Bool → Bool} {v : Int} {n m : Nat} {a b : DFA} {p q : List Nat → Bool} (ha : HasL v n a p) (hb : HasL v m b q) (h : n * m < 10000) : (order (prodD f a b)).length < 10000 :=
  Nat.lt_of_le_of_lt (pr_order_le ha.valid hb.valid (by rw [ha.vars, hb.vars])) (Nat.lt_of_le_of_lt (Nat.mul_le_mul ha.len hb.len) h)
theorem HasL.wrong {v : Int} {n m : Nat} {a b : DFA} {p q : List Nat → Bool} (ha : HasL v n a p) (hb : HasL v m b q) : wrongD a b = 0 := wrongD_zero.2 ⟨ha.valid, hb.valid, by rw [ha.vars, hb.vars]⟩
theorem HasL.mulLe {v : Int} {n m : Nat} {a b : DFA} {p q : List Nat → Bool} (ha : HasL v n a p) (hb : HasL v m b q) {N : Nat} (h : n * m ≤ N) : a.next.length * b.next.length ≤ N := Nat.le_trans (Nat.mul_le_mul ha.len hb.len) h
theorem HasL.le {v : Int} {n m : Nat} {a : DFA} {p : List Nat → Bool} (ha : HasL v n a p) (h : a.next.length ≤ m) : HasL v m a p := ⟨ha.valid, h, ha.vars, ha.acc⟩
end Go.Lx

namespace Go.Lx
open Go.RowKit
set_option linter.unusedVariables false
theorem HasL.acc_true {v : Int} {n : Nat} {d : DFA} {p : List Nat → Bool} (h : HasL v n d p) {w : List Nat} (ha : Lx.accV d w = true) : WdV v w ∧ w.length ≤ 64 ∧ p w = true := by
  unfold Lx.accV at ha
  by_cases he : runE d w = 0
  · rw [if_pos he] at ha
    obtain ⟨_, hl, hw⟩ := runE_zero.1 he
    exact ⟨h.wd.1 hw, hl, by rw [← h.acc w (h.wd.1 hw)]; exact ha⟩
  · rw [if_neg he] at ha; exact absurd ha (by decide)
theorem HasL.acc_false {v : Int} {n : Nat} {d : DFA} {p : List Nat → Bool} (h : HasL v n d p) {w : List Nat} (hw : WdV v w) (hl : w.length ≤ 64) (ha : Lx.accV d w = false) : p w = false := by
  rw [← ha]; exact (h.accV hw hl).symm
theorem HasL.v6 {v : Int} {n : Nat} {d : DFA} {p : List Nat → Bool} (h : HasL v n d p) : 2 ^ v.toNat ≤ 64 := by
  have := h.valid.width; rw [h.vars] at this; exact this
theorem WdV.lt {v : Int} {w : List Nat} (h : WdV v w) (h6 : 2 ^ v.toNat ≤ 64) : ∀ x ∈ w, x < 64 := fun x hx => by have := h x hx; omega
structure InFacts (a b : DFA) (o u : List Nat) (is1 is2 eq1 : Bool) : Prop where
  andM : is1 = decide (opD andB a b = minD a)
  minusM : is1 = (decide (((opD minusB a b).next.length : Int) = 1) && !finN (opD minusB a b) 0)
  both : eq1 = (is1 && is2)
  yes : is1 = true → u = [] ∧ (accV a o = true → accV b o = true)
  no : is1 = false → u.length ≤ 64 → accV a u = true ∧ accV b u = false ∧ (∀ x ∈ u, x < 64) ∧ (accV a o = true → accV b o = false → (∀ x ∈ o, x < 64) ∧ code u ≤ code o)
theorem in_facts {v : Int} {n m : Nat} {a b : DFA} {p q : List Nat → Bool} (ha : HasL v n a p) (hb : HasL v m b q) (hn : n * m ≤ 4096) (hn2 : m * n ≤ 4096) {res res2 : Option (List Nat)} (h1 : LeastA (opD minusB a b) res) (h2 : LeastA (opD minusB b a) res2) {u : List Nat} (hu : u = res.getD []) {is1 is2 eq1 : Bool} (e1 : is1 = !res.isSome) (e2 : is2 = !res2.isSome)
    (e3 : eq1 = (decide ((opD xorB a b).next.length = 1) && !finN (opD xorB a b) 0)) (o : List Nat) : InFacts a b o u is1 is2 eq1 := by
  obtain ⟨i1, i2, i3⟩ := incl_iff ha hb hn h1
  obtain ⟨_, _, j3⟩ := incl_iff hb ha hn2 h2
  have hnone : ∀ (r : Option (List Nat)), (!r.isSome) = decide (r = none) := fun r => by cases r <;> simp
  have hs := same_iff ha hb hn
  have hm : MinL v (n * m) (opD minusB a b) _ := ha.op (f := minusB) hb hn
  refine ⟨?_, ?_, ?_, ?_, ?_⟩
  · rw [e1, hnone]; exact decide_eq_decide.2 i1
  · rw [e1, hnone]
    by_cases hr : res = none
    · obtain ⟨x1, x2⟩ := i2.1 hr
      rw [decide_eq_true hr, decide_eq_true (show (((opD minusB a b).next.length : Int) = 1) by omega), x2]; rfl
    · rw [decide_eq_false hr]
      by_cases hl : (opD minusB a b).next.length = 1
      · have : finN (opD minusB a b) 0 ≠ false := fun h => hr (i2.2 ⟨hl, h⟩)
        have h9 : finN (opD minusB a b) 0 = true := by simpa using this
        rw [h9]; simp
      · rw [decide_eq_false (show ¬ (((opD minusB a b).next.length : Int) = 1) by omega)]; rfl
  · have hx : (eq1 = true) ↔ (is1 = true ∧ is2 = true) := by
      rw [e1, e2, e3, hnone, hnone]
      simp only [Bool.and_eq_true, decide_eq_true_eq, Bool.not_eq_true']
      rw [hs, i3, j3]
      constructor
      · intro h; exact ⟨fun w hw hp => by rw [← h w hw]; exact hp, fun w hw hq => by rw [h w hw]; exact hq⟩
      · rintro ⟨x1, x2⟩ w hw
        have y1 := x1 w hw; have y2 := x2 w hw
        cases hp : p w <;> cases hq : q w <;> simp_all
    rw [Bool.eq_iff_iff, Bool.and_eq_true]; exact hx
  · intro h
    have hr : res = none := by rw [e1, hnone] at h; exact of_decide_eq_true h
    refine ⟨by rw [hu, hr]; rfl, fun hA => ?_⟩
    obtain ⟨w1, w2, w3⟩ := ha.acc_true hA
    rw [hb.accV w1 w2]
    exact (i3.1 hr) o w1 w3
  · intro h hl
    obtain ⟨u', hr⟩ : ∃ u', res = some u' := by
      rw [e1] at h
      cases res with
      | none => exact absurd h (by decide)
      | some u' => exact ⟨u', rfl⟩
    subst hr
    obtain rfl : u = u' := hu
    obtain ⟨l1, l2, l3⟩ := (show LeastA (opD minusB a b) (some u) from h1)
    have wv : WdV v u := hm.toHasL.wd.1 l1
    rw [hm.acc u wv] at l2
    have hpq : p u = true ∧ q u = false := by
      unfold minusB at l2; simpa using l2
    refine ⟨by rw [ha.accV wv hl]; exact hpq.1, by rw [hb.accV wv hl]; exact hpq.2, wv.lt ha.v6, fun hA hB => ?_⟩
    obtain ⟨w1, w2, w3⟩ := ha.acc_true hA
    refine ⟨w1.lt ha.v6, l3 o (hm.toHasL.wd.2 w1) ?_⟩
    rw [hm.acc o w1, w3, hb.acc_false w1 w2 hB]; rfl
theorem op_runE {f : Bool → Bool → Bool} {v : Int} {n m : Nat} {a b : DFA} {p q : List Nat → Bool} (ha : HasL v n a p) (hb : HasL v m b q) (hn : n * m ≤ 4096) (w : List Nat) : runE (opD f a b) w = runE a w := both_runE (ha.op (f := f) hb hn).valid ha.valid (by rw [(ha.op (f := f) hb hn).vars, ha.vars]) w
theorem op_accV {f : Bool → Bool → Bool} {v : Int} {n m : Nat} {a b : DFA} {p q : List Nat → Bool} (ha : HasL v n a p) (hb : HasL v m b q) (hn : n * m ≤ 4096) {w : List Nat} (he : runE a w = 0) : accV (opD f a b) w = f (accV a w) (accV b w) := by
  obtain ⟨_, hl, hw⟩ := runE_zero.1 he
  have hv := ha.wd.1 hw
  rw [(ha.op (f := f) hb hn).toHasL.accV hv hl, ha.accV hv hl, hb.accV hv hl]
theorem not_runE {v : Int} {n : Nat} {a : DFA} {p : List Nat → Bool} (ha : HasL v n a p) (hn : n * n ≤ 4096) (w : List Nat) : runE (notD a) w = runE a w := both_runE (ha.not hn).valid ha.valid (by rw [(ha.not hn).vars, ha.vars]) w
theorem not_accV {v : Int} {n : Nat} {a : DFA} {p : List Nat → Bool} (ha : HasL v n a p) (hn : n * n ≤ 4096) {w : List Nat} (he : runE a w = 0) : accV (notD a) w = !accV a w := by
  obtain ⟨_, hl, hw⟩ := runE_zero.1 he
  have hv := ha.wd.1 hw
  rw [(ha.not hn).toHasL.accV hv hl, ha.accV hv hl]
theorem Sh.allOk2 {n : Int} {a b : DFA} (h0 : 0 ≤ n) (h6 : n ≤ 6) (sa : Sh a) (sb : Sh b) : AllOk (stayD n true) [a, b] := fun hw => by
  obtain ⟨_, va, hv⟩ := wrongD_zero.1 hw
  have hs := stay_valid h0 h6 true
  have hl : (stayD n true).next.length = 1 := rfl
  have := sa.n8
  refine ⟨by rw [hl]; omega, fun hw2 => ⟨?_, trivial⟩⟩
  have hk := opD_len (f := andB) hs va hv (by rw [hl]; omega)
  rw [hl] at hk
  exact Nat.mul_le_mul (show (opD andB (stayD n true) a).next.length ≤ 8 by omega) sb.n8
theorem allOk0 (n : Int) : AllOk (stayD n true) [] := trivial
theorem dec_facts {a b : DFA} (sa : Sh a) (sb : Sh b) {r1 r2 : Option (List Nat)} (h1 : InclA a b r1) (h2 : InclA b a r2) :
    eqlA a b = ((decide (wrongD a b = 0) && !r1.isSome) && (decide (wrongD b a = 0) && !r2.isSome)) ∧ (eqlA a b = true → (r2.getD []).length = 0) := by
  by_cases hw : wrongD a b = 0
  · obtain ⟨va, vb, hv⟩ := wrongD_zero.1 hw
    have hw2 : wrongD b a = 0 := wrongD_zero.2 ⟨vb, va, hv.symm⟩
    have Ha := sa.has va
    have Hb : HasL a.vars 8 b (acc b) := by rw [hv]; exact sb.has vb
    have F := in_facts Ha Hb (by decide) (by decide) ((InclA.ok hw).1 h1) ((InclA.ok hw2).1 h2) (u := r1.getD []) rfl rfl rfl (eqlA_ok hw) []
    have G := in_facts Hb Ha (by decide) (by decide) ((InclA.ok hw2).1 h2) ((InclA.ok hw).1 h1) (u := r2.getD []) rfl rfl rfl rfl []
    rw [decide_eq_true hw, decide_eq_true hw2, F.both]
    refine ⟨by simp, fun h => ?_⟩
    rw [Bool.and_eq_true] at h
    rw [(G.yes h.2).1]; rfl
  · rw [eqlA_bad hw, decide_eq_false hw]
    exact ⟨by simp, fun h => absurd h (by decide)⟩
theorem Sh.allOk3 {n : Int} {a b c : DFA} (h0 : 0 ≤ n) (h6 : n ≤ 6) (la : a.next.length ≤ 4) (lb : b.next.length ≤ 4) (lc : c.next.length ≤ 4) : AllOk (stayD n true) [a, b, c] := fun hw => by
  obtain ⟨_, va, hv⟩ := wrongD_zero.1 hw
  have hs := stay_valid h0 h6 true
  have hl : (stayD n true).next.length = 1 := rfl
  refine ⟨by rw [hl]; omega, fun hw2 => ?_⟩
  have hk := opD_len (f := andB) hs va hv (by rw [hl]; omega)
  rw [hl] at hk
  obtain ⟨vd, vb, hv2⟩ := wrongD_zero.1 hw2
  have h16 : (opD andB (stayD n true) a).next.length * b.next.length ≤ 4 * 4 := Nat.mul_le_mul (by omega) lb
  refine ⟨by omega, fun hw3 => ⟨?_, trivial⟩⟩
  have hk2 := opD_len (f := andB) vd vb hv2 (by omega)
  exact Nat.mul_le_mul (show (opD andB (opD andB (stayD n true) a) b).next.length ≤ 16 by omega) lc
theorem all_three {v : Int} {a b c : DFA} (la : a.next.length ≤ 4) (lb : b.next.length ≤ 4) (lc : c.next.length ≤ 4) :
    ((allV v [a, b, c]).2 = 0 ↔ (0 ≤ v ∧ v ≤ 6) ∧ (Valid a ∧ a.vars = v) ∧ (Valid b ∧ b.vars = v) ∧ (Valid c ∧ c.vars = v)) ∧
    ((allV v [a, b, c]).2 ≠ 0 → (allV v [a, b, c]).1 = noD) ∧
    ((allV v [a, b, c]).2 = 0 → MinL v 64 (allV v [a, b, c]).1 (fun w => (acc a w && acc b w) && acc c w)) := by
  unfold allV
  by_cases h06 : 0 ≤ v ∧ v ≤ 6
  · rw [if_pos h06]
    obtain ⟨h0, h6⟩ := h06
    have hs : HasL v 1 (stayD v true) (fun _ => true) := ⟨stay_valid h0 h6 true, Nat.le_refl _, rfl, fun w hw => stay_acc h0 h6 true hw⟩
    have wv : ∀ {d x : DFA}, Valid d → d.vars = v → (wrongD d x = 0 ↔ Valid x ∧ x.vars = v) := fun {d x} hd hdv => by
      rw [wrongD_zero]
      constructor
      · rintro ⟨_, h1, h2⟩; exact ⟨h1, by rw [← h2, hdv]⟩
      · rintro ⟨h1, h2⟩; exact ⟨hd, h1, by rw [hdv, h2]⟩
    by_cases ha : Valid a ∧ a.vars = v
    · have Ha : HasL v 4 a (acc a) := ha.2 ▸ HasL.of ha.1 la
      have H1 : MinL v (1 * 4) (opD andB (stayD v true) a) _ := hs.op (f := andB) Ha (by decide)
      by_cases hb : Valid b ∧ b.vars = v
      · have Hb : HasL v 4 b (acc b) := hb.2 ▸ HasL.of hb.1 lb
        have H2 : MinL v (1 * 4 * 4) (opD andB (opD andB (stayD v true) a) b) _ := H1.toHasL.op (f := andB) Hb (by decide)
        by_cases hc : Valid c ∧ c.vars = v
        · have Hc : HasL v 4 c (acc c) := hc.2 ▸ HasL.of hc.1 lc
          have H3 : MinL v (1 * 4 * 4 * 4) (opD andB (opD andB (opD andB (stayD v true) a) b) c) _ := H2.toHasL.op (f := andB) Hc (by decide)
          simp only [allR, if_pos ((wv hs.valid hs.vars).2 ha), if_pos ((wv H1.valid H1.vars).2 hb), if_pos ((wv H2.valid H2.vars).2 hc)]
          refine ⟨⟨fun _ => ⟨⟨h0, h6⟩, ha, hb, hc⟩, fun _ => trivial⟩, fun h => absurd rfl h, fun _ => ⟨⟨H3.valid, H3.len, H3.vars, fun w hw => ?_⟩, H3.min⟩⟩
          rw [H3.acc w hw]; simp [andB]
        · simp only [allR, if_pos ((wv hs.valid hs.vars).2 ha), if_pos ((wv H1.valid H1.vars).2 hb), if_neg (fun h => hc ((wv H2.valid H2.vars).1 h))]
          have hne : wrongD (opD andB (opD andB (stayD v true) a) b) c ≠ 0 := fun h => hc ((wv H2.valid H2.vars).1 h)
          exact ⟨⟨fun h => absurd h hne, fun h => absurd h.2.2.2 hc⟩, fun _ => trivial, fun h => absurd h hne⟩
      · simp only [allR, if_pos ((wv hs.valid hs.vars).2 ha), if_neg (fun h => hb ((wv H1.valid H1.vars).1 h))]
        have hne : wrongD (opD andB (stayD v true) a) b ≠ 0 := fun h => hb ((wv H1.valid H1.vars).1 h)
        exact ⟨⟨fun h => absurd h hne, fun h => absurd h.2.2.1 hb⟩, fun _ => trivial, fun h => absurd h hne⟩
    · simp only [allR, if_neg (fun h => ha ((wv hs.valid hs.vars).1 h))]
      have hne : wrongD (stayD v true) a ≠ 0 := fun h => ha ((wv hs.valid hs.vars).1 h)
      exact ⟨⟨fun h => absurd h hne, fun h => absurd h.2.1 ha⟩, fun _ => trivial, fun h => absurd h hne⟩
  · rw [if_neg h06]
    exact ⟨⟨fun h => absurd h (by decide), fun h => absurd h.1 h06⟩, fun _ => rfl, fun h => absurd h (by decide)⟩
theorem all_facts {a b c : DFA} (la : a.next.length ≤ 4) (lb : b.next.length ≤ 4) (lc : c.next.length ≤ 4) (w : List Nat) :
    ((allV a.vars [a, b, c]).2 ≠ 0 → (allV a.vars [c, a, b]).2 ≠ 0 ∧ (allV a.vars [a, b, c]).1.next.length = 0) ∧
    ((allV a.vars [a, b, c]).2 = 0 → (allV a.vars [c, a, b]).2 = 0 ∧ (allV a.vars [c, a, b]).1 = (allV a.vars [a, b, c]).1 ∧ accV (allV a.vars [a, b, c]).1 w = ((accV a w && accV b w) && accV c w)) := by
  obtain ⟨p1, p2, p3⟩ := all_three (v := a.vars) la lb lc
  obtain ⟨q1, q2, q3⟩ := all_three (v := a.vars) (a := c) (b := a) (c := b) lc la lb
  refine ⟨fun h => ⟨fun h2 => h (p1.2 ?_), by rw [p2 h]; rfl⟩, fun h => ?_⟩
  · obtain ⟨x1, x2, x3, x4⟩ := q1.1 h2
    exact ⟨x1, x3, x4, x2⟩
  · obtain ⟨x1, x2, x3, x4⟩ := p1.1 h
    have h2 := q1.2 ⟨x1, x4, x2, x3⟩
    have m1 := p3 h
    have m2 := q3 h2
    refine ⟨h2, m2.ext m1 fun w _ => ?_, ?_⟩
    · cases acc a w <;> cases acc b w <;> cases acc c w <;> rfl
    · have Ha : HasL a.vars 4 a (acc a) := HasL.of x2.1 la
      have Hb : HasL a.vars 4 b (acc b) := x3.2 ▸ HasL.of x3.1 lb
      have Hc : HasL a.vars 4 c (acc c) := x4.2 ▸ HasL.of x4.1 lc
      by_cases hw : WdV a.vars w ∧ w.length ≤ 64
      · rw [m1.toHasL.accV hw.1 hw.2, Ha.accV hw.1 hw.2, Hb.accV hw.1 hw.2, Hc.accV hw.1 hw.2]
      · have f1 : accV (allV a.vars [a, b, c]).1 w = false := by
          refine Bool.eq_false_iff.2 fun h9 => hw ?_
          obtain ⟨y1, y2, _⟩ := m1.toHasL.acc_true h9; exact ⟨y1, y2⟩
        have f2 : accV a w = false := by
          refine Bool.eq_false_iff.2 fun h9 => hw ?_
          obtain ⟨y1, y2, _⟩ := Ha.acc_true h9; exact ⟨y1, y2⟩
        rw [f1, f2]; rfl
theorem allR_end_ok : ∀ (l : List DFA) (d : DFA), Valid d → AllOk d l → Valid (allR d l).1 ∨ (allR d l).1 = noD
  | [], d, hv, _ => .inl hv
  | x :: l, d, hv, ho => by
    unfold allR
    by_cases hw : wrongD d x = 0
    · rw [if_pos hw]
      obtain ⟨_, vx, hvx⟩ := wrongD_zero.1 hw
      obtain ⟨h1, h2⟩ := ho hw
      exact allR_end_ok l _ (opD_valid hv vx hvx (by omega)) h2
    · rw [if_neg hw]; exact .inr rfl
theorem allV_bounds {n : Int} {l : List DFA} (ho : 0 ≤ n → n ≤ 6 → AllOk (stayD n true) l) : (allV n l).1.next.length < 9223372036854775807 ∧ (∀ r ∈ (allV n l).1.next, r.length < 9223372036854775807) ∧ (allV n l).1.final.length < 9223372036854775807 := by
  have hno : noD.next.length < 9223372036854775807 ∧ (∀ r ∈ noD.next, r.length < 9223372036854775807) ∧ noD.final.length < 9223372036854775807 := ⟨by decide, fun r hr => by simp [noD] at hr, by decide⟩
  unfold allV
  by_cases h : 0 ≤ n ∧ n ≤ 6
  · rw [if_pos h]
    rcases allR_end_ok l _ (stay_valid h.1 h.2 true) (ho h.1 h.2) with hv | e
    · exact ⟨by have := hv.n4; omega, hv.bound, by have := hv.fin; have := hv.n4; omega⟩
    · rw [e]; exact hno
  · rw [if_neg h]; exact hno
theorem LeastA.lt {m : DFA} (hm : Valid m) (hn : m.next.length + 1 ≤ 4096) {u : List Nat} (h : LeastA m (some u)) : u.length ≤ m.next.length := by
  have hs := stay_valid hm.v0 hm.v6 false
  have hd : ∀ w, Wd m w → (dst (both m (stayD m.vars false)) m.start.toNat m.next.length w ↔ acc m w = true) := fun w hw => by
    have h1 := both_dst (a := m) (b := stayD m.vars false) hm hs rfl hw
    rw [show m.next.length + (stayD m.vars false).start.toNat = m.next.length from rfl] at h1
    rw [h1, stay_acc hm.v0 hm.v6 false (show Wd (stayD m.vars false) w from hw)]
    cases acc m w <;> simp
  obtain ⟨h1, h2, h3⟩ := h
  have hT : Tell (both m (stayD m.vars false)) m.start.toNat m.next.length (some u) := ⟨h1, (hd u h1).2 h2, fun x hx hxd => h3 x hx ((hd x hx).1 hxd)⟩
  have hlen := both_len m (stayD m.vars false)
  have h1' : (stayD m.vars false).next.length = 1 := rfl
  have := Tell.lt (both_valid hm hs rfl hn) (by rw [hlen]; have := start_lt hm.toVal; omega) (by rw [hlen]; omega) hT
  omega
theorem incl_len {a b : DFA} (sa : Sh a) (sb : Sh b) {r : Option (List Nat)} (h : InclA a b r) {u : List Nat} (hu : u = r.getD []) : u.length < 9223372036854775807 := by
  cases r with
  | none => subst hu; decide
  | some x =>
    obtain rfl : u = x := hu
    by_cases hw : wrongD a b = 0
    · obtain ⟨va, vb, hv⟩ := wrongD_zero.1 hw
      have h64 := sa.mul sb
      have hm := opD_valid (f := minusB) va vb hv (by omega)
      have hl := opD_len (f := minusB) va vb hv (by omega)
      have := LeastA.lt hm (by omega) ((InclA.ok hw).1 h)
      omega
    · unfold InclA at h; rw [if_neg hw] at h; cases h
theorem words_not {a mN : DFA} (sa : Sh a) (hc : checkD a = 0) (hN : opV notB a a = mN) (o : List Nat) : runE mN o = runE a o ∧ (runE a o = 0 → accV mN o = !accV a o) := by
  have va := checkD_zero.1 hc
  have Ha := sa.has va
  have hw : wrongD a a = 0 := by rw [wrongD_self]; exact hc
  rw [opV_ok hw, show opD notB a a = notD a from rfl] at hN
  subst hN
  exact ⟨not_runE Ha (by decide) o, fun he => not_accV Ha (by decide) he⟩
theorem op_four {p : Nat} (hp : p < 4) (x y : Bool) : [Value.bool (x && y), .bool (x || y), .bool (x != y), .bool (x && !y)][p]? = some (.bool (opB (p : Int) x y)) := by
  have : p = 0 ∨ p = 1 ∨ p = 2 ∨ p = 3 := by omega
  rcases this with rfl | rfl | rfl | rfl <;> rfl
theorem dec_facts2 {a b : DFA} (sa : Sh a) (sb : Sh b) {r1 r2 : Option (List Nat)} (h1 : InclA a b r1) (h2 : InclA b a r2) {eq1 is1 is2 : Bool} {u2 : List Nat} (e : eqlA a b = eq1) (e1 : is1 = (decide (wrongD a b = 0) && !r1.isSome)) (e2 : is2 = (decide (wrongD b a = 0) && !r2.isSome)) (eu : u2 = r2.getD []) :
    eq1 = (is1 && is2) ∧ (eq1 = true → u2.length = 0) := by
  subst e; subst e1; subst e2; subst eu
  exact dec_facts sa sb h1 h2
end Go.Lx

namespace Go.Lx
open Go.RowKit
set_option linter.unusedVariables false
structure InL (z d : DFA) (p : List Nat → Bool) : Prop where
  has : HasL z.vars z.next.length d p
  det : Det z d
theorem InL.fac {z d : DFA} {p : List Nat → Bool} (h : InL z d p) : Fac z p := h.det.fac h.has
theorem InL.order {z a b : DFA} {p q : List Nat → Bool} {f : Bool → Bool → Bool} (hz : Valid z) (ha : InL z a p) (hb : InL z b q) : (order (prodD f a b)).length ≤ z.next.length :=
  pr_order_factW ha.has.valid.toVal hb.has.valid.toVal (by rw [ha.has.vars, hb.has.vars]) hz.toVal ha.has.vars.symm ha.det hb.det
theorem InL.op {z a b : DFA} {p q : List Nat → Bool} {f : Bool → Bool → Bool} (hz : Valid z) (ha : InL z a p) (hb : InL z b q) : MinL z.vars z.next.length (opD f a b) (fun w => f (p w) (q w)) ∧ InL z (opD f a b) (fun w => f (p w) (q w)) := by
  have hm := ha.has.opW hb.has (InL.order (f := f) hz ha hb) hz.n4
  exact ⟨hm, hm.toHasL, (ha.fac.op f hb.fac).det hm⟩
theorem InL.min {z d : DFA} {p : List Nat → Bool} (hz : Valid z) (h : InL z d p) : MinL z.vars z.next.length (minD d) p ∧ InL z (minD d) p :=
  ⟨h.has.minim, h.has.minim.toHasL, h.fac.det h.has.minim⟩
theorem InL.of {z d : DFA} (hz : Valid z) (hd : Valid d) (hv : z.vars = d.vars) (hl : d.next.length ≤ z.next.length) (h : Det z d) : InL z d (acc d) := ⟨⟨hd, hl, hv.symm, fun _ _ => rfl⟩, h⟩
def zP (v : Int) : List DFA → DFA
  | [] => stayD v true
  | d :: l => prodD andB d (zP v l)
def zN : List DFA → Nat
  | [] => 1
  | d :: l => d.next.length * zN l
theorem zP_ok {v : Int} (h0 : 0 ≤ v) (h6 : v ≤ 6) : ∀ {l : List DFA}, (∀ d ∈ l, Val d ∧ d.vars = v) → Val (zP v l) ∧ (zP v l).vars = v ∧ (zP v l).next.length = zN l ∧ ∀ d ∈ l, Det (zP v l) d ∧ d.next.length ≤ zN l
  | [], _ => ⟨(stay_valid h0 h6 true).toVal, rfl, rfl, fun d hd => by cases hd⟩
  | d :: l, h => by
    obtain ⟨hd, hdv⟩ := h d (by simp)
    obtain ⟨i1, i2, i3, i4⟩ := zP_ok h0 h6 (l := l) fun x hx => h x (by simp [hx])
    have hv : d.vars = (zP v l).vars := by rw [hdv, i2]
    obtain ⟨d1, d2⟩ := Det.prodL (f := andB) hd i1 hv
    have hn0 := i1.n0
    have hd0 := hd.n0
    refine ⟨prod_val hd i1 hv, hdv, by show (prodD andB d (zP v l)).next.length = _; rw [prod_len, i3]; rfl, fun x hx => ?_⟩
    rcases List.mem_cons.1 hx with rfl | hx
    · exact ⟨d1, Nat.le_mul_of_pos_right _ (by omega)⟩
    · obtain ⟨e1, e2⟩ := i4 x hx
      exact ⟨Det.trans (z := zP v (d :: l)) (y := zP v l) (by show d.vars = _; rw [hdv, i2]) d2 e1, Nat.le_trans e2 (Nat.le_mul_of_pos_left _ hd0)⟩
theorem zN_le : ∀ {l : List DFA} {ns : List Nat}, l.length = ns.length → (∀ i (h : i < l.length) (h2 : i < ns.length), l[i].next.length ≤ ns[i]) → zN l ≤ ns.foldr (· * ·) 1
  | [], [], _, _ => Nat.le_refl _
  | d :: l, n :: ns, he, h => Nat.mul_le_mul (h 0 (by simp) (by simp)) (zN_le (by simpa using he) fun i hi h2 => h (i + 1) (by simpa using hi) (by simpa using h2))
  | [], _ :: _, he, _ => by simp at he
  | _ :: _, [], he, _ => by simp at he
theorem exists_z {v : Int} {l : List DFA} (ns : List Nat) (hlen : l.length = ns.length) (h : ∀ d ∈ l, Valid d ∧ d.vars = v) (h0 : 0 ≤ v) (h6 : v ≤ 6) (hns : ∀ i (h : i < l.length) (h2 : i < ns.length), l[i].next.length ≤ ns[i]) (hN : ns.foldr (· * ·) 1 ≤ 4096) :
    ∃ z, Valid z ∧ z.vars = v ∧ ∀ d ∈ l, InL z d (acc d) := by
  obtain ⟨h1, h2, h3, h4⟩ := zP_ok h0 h6 (l := l) fun d hd => ⟨(h d hd).1.toVal, (h d hd).2⟩
  have hz : Valid (zP v l) := ⟨h1, by rw [h3]; exact Nat.le_trans (zN_le hlen hns) hN⟩
  refine ⟨zP v l, hz, h2, fun d hd => InL.of hz (h d hd).1 (by rw [h2, (h d hd).2]) (by rw [h3]; exact (h4 d hd).2) (h4 d hd).1⟩
end Go.Lx

namespace Go.Lx
open Go.RowKit
set_option linter.unusedVariables false
theorem bq_diag {d : DFA} (hv : Val d) {s : Nat} : ∀ i, (∀ j, j < i → j < (bq d s s j).length) → BfsI d s s i (bq d s s i)
  | 0, _ => BfsI.zero d s s
  | i + 1, h => (bq_diag hv i fun j hj => h j (by omega)).step hv (List.getElem?_eq_getElem (h i (by omega)))
theorem BfsI.diag {d : DFA} {s i : Nat} {A : List Stp} (h : BfsI d s s i A) {q : Stp} (hq : q ∈ A) : q.1 = (q.1.1, q.1.1) := by rw [(h.run q hq).2]
abbrev shq (d : DFA) (i : Nat) : List Stp := bq d d.start.toNat d.start.toNat i
def ShR (d : DFA) (res : Option (List Nat)) : Prop :=
  ∃ i, (∀ j, j < i → ∃ q, (shq d j)[j]? = some q ∧ finN d q.1.1 = false) ∧
    match res with
    | some w => ∃ q, (shq d i)[i]? = some q ∧ finN d q.1.1 = true ∧ q.2 = w
    | none => (shq d i).length ≤ i
theorem shq_inv {d : DFA} (hv : Val d) {i : Nat} (h : ∀ j, j < i → ∃ q, (shq d j)[j]? = some q ∧ finN d q.1.1 = false) : BfsI d d.start.toNat d.start.toNat i (shq d i) :=
  bq_diag hv i fun j hj => by obtain ⟨q, hq, _⟩ := h j hj; exact (List.getElem?_eq_some_iff.1 hq).1
theorem ShR.least {d : DFA} (hv : Val d) {res : Option (List Nat)} (h : ShR d res) : LeastA d res := by
  obtain ⟨i, hj, hr⟩ := h
  have hI := shq_inv hv hj
  have hsame : ∀ j q, j < i → (shq d i)[j]? = some q → finN d q.1.1 = false := fun j q hji hq => by
    obtain ⟨q', h1, h2⟩ := hj j hji
    have := bq_get (i := i) h1 (by omega)
    rw [hq] at this; cases this; exact h2
  have key : ∀ u, Wd d u → (∃ q ∈ shq d i, q.1 = (runN d d.start.toNat u, runN d d.start.toNat u) ∧ code q.2 ≤ code u) ∨ ∃ q, (shq d i)[i]? = some q ∧ code q.2 ≤ code u := by
    refine snocInd ?_ ?_
    · intro _
      obtain ⟨q, h1, h2, h3⟩ := hI.first
      exact .inl ⟨q, List.mem_of_getElem? h1, h2, by rw [h3]; exact Nat.le_refl _⟩
    · intro u x ih hw
      rw [code_snoc]
      rcases ih (fun z hz => hw z (by simp [hz])) with ⟨q, h1, h2, h3⟩ | ⟨q, h1, h3⟩
      · obtain ⟨j, hjq⟩ := List.getElem?_of_mem h1
        by_cases hji : j < i
        · obtain ⟨q', g1, g2, g3⟩ := hI.suc j q hji hjq x (hw x (by simp))
          refine .inl ⟨q', g1, ?_, by omega⟩
          rw [g2, runN_snoc, h2]; rfl
        · by_cases e : j = i
          · subst e; exact .inr ⟨q, hjq, by omega⟩
          · have hil : i < (shq d i).length := by have := (List.getElem?_eq_some_iff.1 hjq).1; omega
            have := hI.mono i j _ q (by omega) (List.getElem?_eq_getElem hil) hjq
            exact .inr ⟨_, List.getElem?_eq_getElem hil, by omega⟩
      · exact .inr ⟨q, h1, by omega⟩
  cases res with
  | some w =>
    obtain ⟨q, hq, hf, rfl⟩ := hr
    obtain ⟨h1, h2⟩ := hI.run q (List.mem_of_getElem? hq)
    refine ⟨h1, ?_, ?_⟩
    · unfold acc; rw [h2] at hf; exact hf
    · intro u hu hd
      rcases key u hu with ⟨p, g1, g2, g3⟩ | ⟨p, g1, g3⟩
      · obtain ⟨j, hjp⟩ := List.getElem?_of_mem g1
        by_cases hji : j < i
        · have := hsame j p hji hjp
          rw [g2] at this
          have hd' : finN d (runN d d.start.toNat u) = true := hd
          rw [hd'] at this; cases this
        · by_cases e : j = i
          · subst e; rw [hq] at hjp; cases hjp; exact g3
          · have := hI.mono i j q p (by omega) hq hjp
            omega
      · rw [hq] at g1; cases g1; exact g3
  | none =>
    intro u hu
    have hlen : (shq d i).length ≤ i := hr
    rcases key u hu with ⟨p, g1, g2, g3⟩ | ⟨p, g1, g3⟩
    · obtain ⟨j, hjp⟩ := List.getElem?_of_mem g1
      have hji := (List.getElem?_eq_some_iff.1 hjp).1
      have := hsame j p (by omega) hjp
      rw [g2] at this; exact this
    · have := (List.getElem?_eq_some_iff.1 g1).1; omega
theorem BfsI.states {d : DFA} (hv : Val d) {s i : Nat} (hs : s < d.next.length) {A : List Stp} (h : BfsI d s s i A) : (A.map (·.1.1)).Nodup ∧ ∀ q ∈ A, q.1.1 < d.next.length := by
  refine ⟨?_, fun q hq => ?_⟩
  · have hn := h.nd
    rw [List.nodup_iff_pairwise_ne, List.pairwise_map] at hn ⊢
    exact hn.imp_of_mem fun ha hb hne e => hne (by rw [h.diag ha, h.diag hb, e])
  · obtain ⟨h1, h2⟩ := h.run q hq
    rw [h2]; exact runN_lt hv hs q.2 h1
theorem BfsI.size {d : DFA} (hv : Val d) {s i : Nat} (hs : s < d.next.length) {A : List Stp} (h : BfsI d s s i A) : A.length ≤ d.next.length := by
  obtain ⟨h1, h2⟩ := h.states hv hs
  have := nodup_bound (n := d.next.length) h1 fun x hx => by
    obtain ⟨q, hq, rfl⟩ := List.mem_map.1 hx
    exact h2 q hq
  simpa using this
def Ds (d : DFA) (s k : Nat) : Prop := (∃ u, Wd d u ∧ u.length = k ∧ finN d (runN d s u) = true) ∧ ∀ u, Wd d u → finN d (runN d s u) = true → k ≤ u.length
theorem Ds.unique {d : DFA} {s k m : Nat} (h : Ds d s k) (h2 : Ds d s m) : k = m := by
  obtain ⟨u, hu, e, hf⟩ := h.1
  obtain ⟨x, hx, e2, hf2⟩ := h2.1
  have a := h.2 x hx hf2
  have b := h2.2 u hu hf
  omega
theorem Ds.some {d : DFA} {s : Nat} : ∀ (m : Nat) (u : List Nat), Wd d u → finN d (runN d s u) = true → u.length ≤ m → ∃ k, k ≤ u.length ∧ Ds d s k
  | 0, u, hu, hf, h0 => ⟨0, by omega, ⟨u, hu, by omega, hf⟩, fun _ _ _ => Nat.zero_le _⟩
  | m + 1, u, hu, hf, hl => by
    by_cases h : ∃ x, Wd d x ∧ finN d (runN d s x) = true ∧ x.length < u.length
    · obtain ⟨x, hx, hxf, hxl⟩ := h
      obtain ⟨k, hk, hD⟩ := Ds.some m x hx hxf (by omega)
      exact ⟨k, by omega, hD⟩
    · exact ⟨u.length, Nat.le_refl _, ⟨u, hu, rfl, hf⟩, fun x hx hxf => by
        refine Classical.byContradiction fun hlt => h ⟨x, hx, hxf, by omega⟩⟩
theorem runN_cons (d : DFA) (s x : Nat) (u : List Nat) : runN d s (x :: u) = runN d (toN d s x) u := rfl
theorem Wd.cons {d : DFA} {x : Nat} {u : List Nat} : Wd d (x :: u) ↔ x < letN d ∧ Wd d u := by unfold Wd; simp
theorem Ds.down {d : DFA} {s k : Nat} (h : Ds d s (k + 1)) : ∃ x, x < letN d ∧ Ds d (toN d s x) k := by
  obtain ⟨u, hu, e, hf⟩ := h.1
  cases u with
  | nil => simp at e
  | cons x u =>
    obtain ⟨hx, hu⟩ := Wd.cons.1 hu
    refine ⟨x, hx, ⟨u, hu, by simpa using e, hf⟩, fun y hy hyf => ?_⟩
    have := h.2 (x :: y) (Wd.cons.2 ⟨hx, hy⟩) hyf
    simpa using this
theorem Ds.up {d : DFA} {s k x : Nat} (hx : x < letN d) (h : Ds d (toN d s x) k) (hn : ∀ m, m ≤ k → ¬ Ds d s m) : Ds d s (k + 1) := by
  obtain ⟨u, hu, e, hf⟩ := h.1
  refine ⟨⟨x :: u, Wd.cons.2 ⟨hx, hu⟩, by simp [e], hf⟩, fun y hy hyf => ?_⟩
  obtain ⟨m, hm, hD⟩ := Ds.some y.length y hy hyf (Nat.le_refl _)
  refine Classical.byContradiction fun hlt => hn m (by omega) hD
theorem Ds.lt {d : DFA} (hv : Val d) {s k : Nat} (hs : s < d.next.length) (h : Ds d s k) : k < d.next.length := by
  obtain ⟨u, hu, e, hf⟩ := h.1
  have htk : ∀ i, Wd d (u.take i) := fun i x hx => hu x (List.mem_of_mem_take hx)
  have hinj : ∀ i j, i < j → j ≤ k → runN d s (u.take i) ≠ runN d s (u.take j) := fun i j hij hjk hr => by
    have h1 : runN d s (u.take i ++ u.drop j) = runN d s u := by
      rw [runN_append, hr, ← runN_append, List.take_append_drop]
    have := h.2 (u.take i ++ u.drop j) (fun x hx => (List.mem_append.1 hx).elim (htk i x) fun h => hu x (List.mem_of_mem_drop h)) (by rw [h1]; exact hf)
    rw [List.length_append, List.length_take, List.length_drop] at this
    omega
  have hn : ((List.range (k + 1)).map fun i => runN d s (u.take i)).Nodup := map_nodup List.nodup_range fun a ha b hb e => by
    rw [List.mem_range] at ha hb
    rcases Nat.lt_trichotomy a b with h1 | h1 | h1
    · exact absurd e (hinj a b h1 (by omega))
    · exact h1
    · exact absurd e.symm (hinj b a h1 (by omega))
  have := nodup_bound (n := d.next.length) hn fun x hx => by
    obtain ⟨i, _, rfl⟩ := List.mem_map.1 hx
    exact runN_lt hv hs _ (htk i)
  simp at this; omega
def lnN (d : DFA) : Nat → Nat → Int
  | 0, s => if finN d s = true then 0 else -1
  | n + 1, s => if lnN d n s < 0 ∧ ((List.range (letN d)).any fun x => decide (lnN d n (toN d s x) = (n : Int))) = true then ((n + 1 : Nat) : Int) else lnN d n s
theorem lnN_spec {d : DFA} : ∀ n s, (∃ k, k ≤ n ∧ Ds d s k ∧ lnN d n s = (k : Int)) ∨ ((∀ k, k ≤ n → ¬ Ds d s k) ∧ lnN d n s = -1)
  | 0, s => by
    by_cases hf : finN d s = true
    · exact .inl ⟨0, Nat.le_refl _, ⟨⟨[], fun x hx => (by cases hx), rfl, hf⟩, fun _ _ _ => Nat.zero_le _⟩, by simp [lnN, hf]⟩
    · refine .inr ⟨fun k hk hD => hf ?_, by simp [lnN, hf]⟩
      obtain ⟨u, hu, e, hf⟩ := hD.1
      have : u = [] := List.eq_nil_of_length_eq_zero (by omega)
      subst this; exact hf
  | n + 1, s => by
    rcases lnN_spec (d := d) n s with ⟨k, hk, hD, e⟩ | ⟨hno, e⟩
    · refine .inl ⟨k, by omega, hD, ?_⟩
      rw [lnN, if_neg (by rw [e]; omega), e]
    · by_cases h : ((List.range (letN d)).any fun x => decide (lnN d n (toN d s x) = (n : Int))) = true
      · refine .inl ⟨n + 1, Nat.le_refl _, ?_, by rw [lnN, if_pos ⟨by rw [e]; omega, h⟩]⟩
        obtain ⟨x, hx, hxe⟩ := List.any_eq_true.1 h
        rw [List.mem_range] at hx
        have hxe := of_decide_eq_true hxe
        rcases lnN_spec (d := d) n (toN d s x) with ⟨k, hk, hD, e2⟩ | ⟨_, e2⟩
        · have : k = n := by rw [hxe] at e2; omega
          subst this
          exact Ds.up hx hD hno
        · rw [hxe] at e2; omega
      · refine .inr ⟨fun k hk hD => ?_, by rw [lnN, if_neg (fun hh => h hh.2), e]⟩
        by_cases ek : k ≤ n
        · exact hno k ek hD
        · have : k = n + 1 := by omega
          subst this
          obtain ⟨x, hx, hDx⟩ := hD.down
          refine h (List.any_eq_true.2 ⟨x, List.mem_range.2 hx, decide_eq_true ?_⟩)
          rcases lnN_spec (d := d) n (toN d s x) with ⟨k, hk, hD2, e2⟩ | ⟨hn2, e2⟩
          · rw [e2, hD2.unique hDx]
          · exact absurd hDx (hn2 n (Nat.le_refl _))
def lnD (d : DFA) (s : Nat) : Int := lnN d (d.next.length - 1) s
theorem lnD_iff {d : DFA} (hv : Val d) {s k : Nat} (hs : s < d.next.length) : lnD d s = (k : Int) ↔ Ds d s k := by
  unfold lnD
  rcases lnN_spec (d := d) (d.next.length - 1) s with ⟨m, hm, hD, e⟩ | ⟨hno, e⟩
  · rw [e]
    exact ⟨fun h => by have : m = k := by omega
                       subst this; exact hD, fun h => by rw [hD.unique h]⟩
  · rw [e]
    exact ⟨fun h => by omega, fun h => absurd h (hno k (by have := h.lt hv hs; omega))⟩
theorem lnD_neg {d : DFA} (hv : Val d) {s : Nat} (hs : s < d.next.length) : (∃ k : Nat, lnD d s = (k : Int)) ∨ (lnD d s = -1 ∧ ∀ u, Wd d u → finN d (runN d s u) = false) := by
  unfold lnD
  rcases lnN_spec (d := d) (d.next.length - 1) s with ⟨m, hm, hD, e⟩ | ⟨hno, e⟩
  · exact .inl ⟨m, e⟩
  · refine .inr ⟨e, fun u hu => ?_⟩
    cases hf : finN d (runN d s u) with
    | false => rfl
    | true =>
      obtain ⟨k, hk, hD⟩ := Ds.some u.length u hu hf (Nat.le_refl _)
      exact absurd hD (hno k (by have := hD.lt hv hs; omega))
structure GI (d : DFA) (K : Nat) (w : List Nat) (s : Nat) : Prop where
  wd : Wd d w
  run : runN d d.start.toNat w = s
  len : w.length ≤ K
  dist : Ds d s (K - w.length)
  le : ∀ u, Wd d u → acc d u = true → u.length = K → code w ≤ code (u.take w.length)
theorem GI.zero {d : DFA} {K : Nat} (h : Ds d d.start.toNat K) : GI d K [] d.start.toNat := ⟨fun x hx => (by cases hx), rfl, Nat.zero_le _, by simpa using h, fun u _ _ _ => by simp [code]⟩
theorem GI.step {d : DFA} (hv : Val d) {K : Nat} {w : List Nat} {s x : Nat} (h : GI d K w s) (hl : w.length < K) (hx : x < letN d) (hD : Ds d (toN d s x) (K - w.length - 1)) (hmin : ∀ y, y < x → ¬ Ds d (toN d s y) (K - w.length - 1)) : GI d K (w ++ [x]) (toN d s x) := by
  have hwx : Wd d (w ++ [x]) := fun y hy => (List.mem_append.1 hy).elim (h.wd y) fun hy => by rw [List.mem_singleton.1 hy]; exact hx
  refine ⟨hwx, by rw [runN_snoc, h.run], by simp; omega, by simpa [Nat.sub_sub] using hD, fun u hu ha hul => ?_⟩
  have hlu : w.length < u.length := by omega
  rw [List.length_append, List.length_singleton, List.take_succ_eq_append_getElem hlu, code_snoc, code_snoc]
  have h1 := h.le u hu ha hul
  have hy := hu _ (List.getElem_mem hlu)
  have hx64 : x < 64 := by have := hv.width; unfold letN at hx; omega
  by_cases e : code w = code (u.take w.length)
  · have htk : Wd d (u.take w.length) := fun x hx => hu x (List.mem_of_mem_take hx)
    have ew := code_inj w (u.take w.length) (hv.wd64 h.wd) (hv.wd64 htk) e
    have hge : x ≤ u[w.length] := by
      refine Classical.byContradiction fun hlt => hmin u[w.length] (by omega) ?_
      have hdr : u = (u.take w.length ++ [u[w.length]]) ++ u.drop (w.length + 1) := by
        rw [← List.take_succ_eq_append_getElem hlu, List.take_append_drop]
      have hrun : runN d d.start.toNat u = runN d (toN d s u[w.length]) (u.drop (w.length + 1)) := by
        conv => lhs; rw [hdr]
        rw [runN_append, runN_snoc, ← ew, h.run]
      have hwdr : Wd d (u.drop (w.length + 1)) := fun x hx => hu x (List.mem_of_mem_drop hx)
      have hf : finN d (runN d (toN d s u[w.length]) (u.drop (w.length + 1))) = true := by rw [← hrun]; exact ha
      refine ⟨⟨u.drop (w.length + 1), hwdr, by rw [List.length_drop]; omega, hf⟩, fun y' hy' hyf => ?_⟩
      have := h.dist.2 (u[w.length] :: y') (Wd.cons.2 ⟨hy, hy'⟩) hyf
      simp at this; omega
    omega
  · omega
theorem GI.least {d : DFA} (hv : Val d) {w : List Nat} {s : Nat} (h : GI d w.length w s) (hK : Ds d d.start.toNat w.length) : LeastA d (some w) := by
  have h0 := h.dist
  rw [Nat.sub_self] at h0
  obtain ⟨u, _, e, hf⟩ := h0.1
  have : u = [] := List.eq_nil_of_length_eq_zero e
  subst this
  have hacc : acc d w = true := by unfold acc; rw [h.run]; exact hf
  refine ⟨h.wd, hacc, fun u hu ha => ?_⟩
  have hl := hK.2 u hu ha
  by_cases e : u.length = w.length
  · have := h.le u hu ha e
    rwa [List.take_of_length_le (by omega)] at this
  · refine Classical.byContradiction fun hlt => ?_
    have := code_len u w (hv.wd64 hu) (hv.wd64 h.wd) (by omega)
    omega
theorem GI.next {d : DFA} {K : Nat} {w : List Nat} {s : Nat} (h : GI d K w s) (hl : w.length < K) : ∃ x, x < letN d ∧ Ds d (toN d s x) (K - w.length - 1) := by
  have := h.dist
  rw [show K - w.length = (K - w.length - 1) + 1 by omega] at this
  exact this.down
end Go.Lx

namespace Go.Lx
open Go.RowKit
set_option linter.unusedVariables false
def QRec.cel (q : QRec) : List Value := [.int .i64 ((q.p.1 : Nat) : Int), .slice q.b q.xs.length q.c]
abbrev rcells (rs : List QRec) : List Value := rs.flatMap QRec.cel
theorem rcells_len : ∀ rs : List QRec, (rcells rs).length = rs.length * 2
  | [] => rfl
  | q :: rs => by
    have := rcells_len rs
    simp only [rcells] at this
    simp only [rcells, List.flatMap_cons, List.length_append, this, List.length_cons, QRec.cel, List.length_nil]
    omega
def seenB (d : DFA) (A : List Stp) : List Bool := (List.range d.next.length).map fun t => decide ((t, t) ∈ A.map Prod.fst)
theorem seenB_len (d : DFA) (A : List Stp) : (seenB d A).length = d.next.length := by simp [seenB]
theorem seenB_at {d : DFA} {A : List Stp} {t : Nat} (h : t < d.next.length) : (bools (seenB d A))[t]? = some (.bool (decide ((t, t) ∈ A.map Prod.fst))) := by
  rw [List.getElem?_map, seenB, List.getElem?_map, List.getElem?_range h]; rfl
theorem seenB_set {d : DFA} {A : List Stp} {t : Nat} (w : List Nat) : (seenB d A).set t true = seenB d (A ++ [((t, t), w)]) := by
  apply List.ext_getElem?
  intro i
  by_cases hi : i < d.next.length
  · by_cases e : t = i
    · subst e
      rw [List.getElem?_set_self (by rw [seenB_len]; exact hi), seenB, List.getElem?_map, List.getElem?_range hi]
      simp
    · rw [List.getElem?_set_ne e, seenB, seenB, List.getElem?_map, List.getElem?_map, List.getElem?_range hi]
      have e' : ¬ i = t := fun h => e h.symm
      simp [e']
  · rw [List.getElem?_eq_none (by rw [List.length_set, seenB_len]; omega), List.getElem?_eq_none (by rw [seenB_len]; omega)]
theorem seenB_put {d : DFA} {A : List Stp} {t : Nat} (w : List Nat) (h : t < d.next.length) : putL (bools (seenB d A)) t [.bool true] = bools (seenB d (A ++ [((t, t), w)])) := by
  rw [← seenB_set]; simp [putL]
theorem seenB_zero (d : DFA) : bools (seenB d []) = List.replicate d.next.length (.bool false) := by
  apply List.ext_getElem?
  intro i
  by_cases hi : i < d.next.length
  · rw [seenB_at hi, List.getElem?_replicate, if_pos hi]; simp
  · rw [List.getElem?_eq_none (by rw [List.length_map, seenB_len]; omega), List.getElem?_replicate, if_neg hi]
theorem shq_same {d : DFA} (hv : Val d) {i : Nat} (h : ∀ j, j < i → ∃ q, (shq d j)[j]? = some q ∧ finN d q.1.1 = false) : ∀ j, j < i → ∃ q, (shq d j)[j]? = some q ∧ finN d q.1.1 = finN d q.1.2 := fun j hj => by
  obtain ⟨q, hq, _⟩ := h j hj
  have hI := shq_inv hv (i := j) fun k hk => h k (by omega)
  exact ⟨q, hq, by rw [hI.diag (List.mem_of_getElem? hq)]⟩
theorem sho_mid {d : DFA} (hv : Val d) {i : Nat} {q : Stp} (h : ∀ j, j < i → ∃ q, (shq d j)[j]? = some q ∧ finN d q.1.1 = false) (hq : (shq d i)[i]? = some q) {x : Nat} (hx : x ≤ letN d) :
    (pushN d q (shq d i) x).length ≤ d.next.length ∧ q.1 = (q.1.1, q.1.1) ∧ q.1.1 < d.next.length ∧ q.2.length ≤ i ∧ i < d.next.length ∧ i < (pushN d q (shq d i) x).length := by
  have hI := shq_inv hv h
  have hs := start_lt hv
  have hm := hI.mid hq x hx
  have hd : ∀ r ∈ pushN d q (shq d i) x, r.1 = (r.1.1, r.1.1) ∧ r.1.1 < d.next.length := fun r hr => by
    obtain ⟨h1, h2⟩ := hm.run r hr
    exact ⟨by rw [h2], by rw [h2]; exact runN_lt hv hs _ h1⟩
  have hnd : ((pushN d q (shq d i) x).map (·.1.1)).Nodup := by
    have hn := hm.nd
    rw [List.nodup_iff_pairwise_ne, List.pairwise_map] at hn ⊢
    exact hn.imp_of_mem fun ha hb hne e => hne (by rw [(hd _ ha).1, (hd _ hb).1, e])
  have hl := nodup_bound (n := d.next.length) hnd fun y hy => by
    obtain ⟨r, hr, rfl⟩ := List.mem_map.1 hy
    exact (hd r hr).2
  rw [List.length_map] at hl
  have hil := (List.getElem?_eq_some_iff.1 hm.at_).1
  have := hd q (List.mem_of_getElem? hm.at_)
  exact ⟨hl, this.1, this.2, bq_wlen d _ _ i q (List.mem_of_getElem? hq), by omega, hil⟩
def ShoV (E : TypeId) (e : Nat) (v : Value) (N : List Item) : Option (List Nat) → Prop
  | some u => ∃ b c, v = .tuple #[.slice b u.length c, .bool true, .int .i64 (e : Int)] ∧ N = [rowI b c E 1 (byts u)]
  | none => v = .tuple #[.slice none 0 0, .bool false, .int .i64 (e : Int)] ∧ N = []
end Go.Lx

namespace Go.Lx
open Go.RowKit
set_option linter.unusedVariables false
abbrev cC (a g : DFA) (j k : DK) : List Value := [.int .i64 a.vars, .int .i64 a.start, .slice j.nb a.next.length j.nc, .slice j.fb a.final.length j.fc, .int .i64 g.vars, .int .i64 g.start, .slice k.nb g.next.length k.nc, .slice k.fb g.final.length k.fc]
abbrev cV (a g : DFA) (j k : DK) : Value := .agg (cC a g j k).toArray
abbrev bC (e : Value) (a g : DFA) (j k : DK) : List Value := e :: cC a g j k
def satD (a g : DFA) : DFA := opD orB g (notD a)
theorem InL.not {z a : DFA} {p : List Nat → Bool} (hz : Valid z) (ha : InL z a p) : MinL z.vars z.next.length (notD a) (fun w => !p w) ∧ InL z (notD a) (fun w => !p w) := InL.op (f := notB) hz ha ha
theorem InL.sat {z a g : DFA} {p q : List Nat → Bool} (hz : Valid z) (ha : InL z a p) (hg : InL z g q) : MinL z.vars z.next.length (satD a g) (fun w => q w || !p w) ∧ InL z (satD a g) (fun w => q w || !p w) := InL.op (f := orB) hz hg (InL.not hz ha).2
theorem InL.wrong {z a b : DFA} {p q : List Nat → Bool} (ha : InL z a p) (hb : InL z b q) : wrongD a b = 0 := wrongD_zero.2 ⟨ha.has.valid, hb.has.valid, by rw [ha.has.vars, hb.has.vars]⟩
theorem InL.ord {z a b : DFA} {p q : List Nat → Bool} {f : Bool → Bool → Bool} (hz : Valid z) (ha : InL z a p) (hb : InL z b q) : (Lx.order (prodD f a b)).length ≤ 4096 := Nat.le_trans (InL.order hz ha hb) hz.n4
theorem InL.bds {z d : DFA} {p : List Nat → Bool} (h : InL z d p) : d.next.length < 9223372036854775807 ∧ (∀ r ∈ d.next, r.length < 9223372036854775807) ∧ d.final.length < 9223372036854775807 := min_bounds h.has
end Go.Lx
namespace Go.Lx
def cE (a g : DFA) : Nat := if checkD a ≠ 0 then checkD a else if checkD g ≠ 0 then checkD g else if a.vars ≠ g.vars then 7 else 0
theorem cE_first {a g : DFA} (h : checkD a ≠ 0) : cE a g = checkD a := by unfold cE; rw [if_pos h]
theorem cE_second {a g : DFA} (h : checkD a = 0) (h2 : checkD g ≠ 0) : cE a g = checkD g := by unfold cE; rw [if_neg (by omega), if_pos h2]
theorem cE_vars {a g : DFA} (h : checkD a = 0) (h2 : checkD g = 0) (h3 : a.vars ≠ g.vars) : cE a g = 7 := by unfold cE; rw [if_neg (by omega), if_neg (by omega), if_pos h3]
theorem cE_ok {a g : DFA} (h : checkD a = 0) (h2 : checkD g = 0) (h3 : a.vars = g.vars) : cE a g = 0 := by unfold cE; rw [if_neg (by omega), if_neg (by omega), if_neg (fun h => h h3)]
end Go.Lx

namespace Go.Lx
open Go.RowKit
set_option linter.unusedVariables false
def subX (x : Int) (m : Nat) : Int := (x.tmod (m : Int) + (m : Int)).tmod (m : Int)
theorem tm_bd (x : Int) {m : Nat} (h1 : 1 ≤ m) : -(m : Int) < x.tmod (m : Int) ∧ x.tmod (m : Int) < (m : Int) := by
  have h := Int.tmod_lt_of_pos x (show (0 : Int) < (m : Int) by omega)
  have h2 := Int.tmod_lt_of_pos (-x) (show (0 : Int) < (m : Int) by omega)
  rw [Int.neg_tmod] at h2
  omega
theorem subX_bd (x : Int) {m : Nat} (h1 : 1 ≤ m) : 0 ≤ subX x m ∧ subX x m < (m : Int) := by
  have h := tm_bd x h1
  have h2 := tm_bd (x.tmod (m : Int) + (m : Int)) h1
  unfold subX
  refine ⟨?_, h2.2⟩
  exact Int.tmod_nonneg _ (by omega)
def subM (d : DFA) (n : Nat) : Nat := max (min n d.next.length) 1
def subC (d : DFA) (m s x : Nat) : Int := if s < d.next.length ∧ x < (d.next.getD s []).length then subX ((d.next.getD s []).getD x 0) m else 0
def subR (d : DFA) (m s x : Nat) : List Int := (List.range 2).map fun y => if y < x then subC d m s y else 0
def subF (d : DFA) (s : Nat) : Bool := decide (s < d.final.length) && d.final.getD s false
def subD (d : DFA) (n : Nat) : DFA := ⟨1, subX d.start (subM d n), (List.range (subM d n)).map fun s => subR d (subM d n) s 2, (List.range (subM d n)).map fun s => subF d s⟩
theorem subC_at {d : DFA} {m s x : Nat} (hs : s < d.next.length) (hx : x < d.next[s].length) : subC d m s x = subX d.next[s][x] m := by
  have e : d.next.getD s [] = d.next[s] := by rw [List.getD_eq_getElem?_getD, List.getElem?_eq_getElem hs]; rfl
  unfold subC
  rw [e, if_pos ⟨hs, hx⟩, List.getD_eq_getElem?_getD, List.getElem?_eq_getElem hx]; rfl
theorem subC_no {d : DFA} {m s x : Nat} (h : ¬ s < d.next.length) : subC d m s x = 0 := by unfold subC; rw [if_neg (fun hh => h hh.1)]
theorem subC_no2 {d : DFA} {m s x : Nat} (hs : s < d.next.length) (h : ¬ x < d.next[s].length) : subC d m s x = 0 := by
  have e : d.next.getD s [] = d.next[s] := by rw [List.getD_eq_getElem?_getD, List.getElem?_eq_getElem hs]; rfl
  unfold subC; rw [e, if_neg (fun hh => h hh.2)]
theorem subR_len (d : DFA) (m s x : Nat) : (subR d m s x).length = 2 := by simp [subR]
theorem subR_set {d : DFA} {m s x : Nat} (hx : x < 2) : (subR d m s x).set x (subC d m s x) = subR d m s (x + 1) := by
  have : x = 0 ∨ x = 1 := by omega
  rcases this with rfl | rfl <;> rfl
theorem subR_put {d : DFA} {m s x : Nat} (hx : x < 2) : putL (ints (subR d m s x)) x [.int .i64 (subC d m s x)] = ints (subR d m s (x + 1)) := by
  have : x = 0 ∨ x = 1 := by omega
  rcases this with rfl | rfl <;> rfl
theorem subR_stay {d : DFA} {m s x : Nat} (hx : x < 2) (h : subC d m s x = 0) : subR d m s x = subR d m s (x + 1) := by
  have : x = 0 ∨ x = 1 := by omega
  rcases this with rfl | rfl
  · show [0, 0] = [subC d m s 0, 0]; rw [h]
  · show [subC d m s 0, 0] = [subC d m s 0, subC d m s 1]; rw [h]
theorem subC_bd (d : DFA) {m s x : Nat} (h1 : 1 ≤ m) : 0 ≤ subC d m s x ∧ subC d m s x < (m : Int) := by
  unfold subC
  split
  · exact subX_bd _ h1
  · omega
theorem subF_at {d : DFA} {s : Nat} (h : s < d.final.length) : subF d s = d.final[s] := by unfold subF; rw [decide_eq_true h, List.getD_eq_getElem?_getD, List.getElem?_eq_getElem h]; rfl
theorem subF_no {d : DFA} {s : Nat} (h : ¬ s < d.final.length) : subF d s = false := by unfold subF; rw [decide_eq_false h]; rfl
theorem subM_bd (d : DFA) {n : Nat} (h : 1 ≤ n) : 1 ≤ subM d n ∧ subM d n ≤ n := by unfold subM; omega
theorem subD_len (d : DFA) (n : Nat) : (subD d n).next.length = subM d n ∧ (subD d n).final.length = subM d n := by simp [subD]
theorem subD_valid (d : DFA) {n : Nat} (h1 : 1 ≤ n) (h4 : n ≤ 4096) : Valid (subD d n) := by
  obtain ⟨l1, l2⟩ := subD_len d n
  obtain ⟨m1, m2⟩ := subM_bd d h1
  have n0 : 0 < (subD d n).next.length := by omega
  have fin : (subD d n).final.length = (subD d n).next.length := by omega
  have s0 : 0 ≤ (subD d n).start := (subX_bd d.start m1).1
  have s1 : (subD d n).start < ((subD d n).next.length : Int) := by rw [l1]; exact (subX_bd d.start m1).2
  have len : ∀ r ∈ (subD d n).next, r.length = 2 ^ (subD d n).vars.toNat := fun r hr => by
    obtain ⟨s, _, rfl⟩ := List.mem_map.1 (show r ∈ (List.range (subM d n)).map fun s => subR d (subM d n) s 2 from hr)
    rw [subR_len]; rfl
  have ok : ∀ r ∈ (subD d n).next, ∀ x ∈ r, 0 ≤ x ∧ x < ((subD d n).next.length : Int) := fun r hr x hx => by
    obtain ⟨s, _, rfl⟩ := List.mem_map.1 (show r ∈ (List.range (subM d n)).map fun s => subR d (subM d n) s 2 from hr)
    obtain ⟨y, hy, rfl⟩ := List.mem_map.1 hx
    rw [l1]
    split
    · exact subC_bd d m1
    · omega
  exact ⟨{ v0 := (show (0 : Int) ≤ 1 by decide), v6 := (show (1 : Int) ≤ 6 by decide), n0 := n0, fin := fin, s0 := s0, s1 := s1, len := len, ok := ok }, by omega⟩
def letL (l : List Nat) : List Nat := (l.take 8).map (· % 2)
theorem letL_len (l : List Nat) : (letL l).length ≤ 8 := by simp [letL]; omega
theorem letL_wd (l : List Nat) : WdV 1 (letL l) := fun x hx => by
  obtain ⟨y, _, rfl⟩ := List.mem_map.1 hx
  exact Nat.mod_lt _ (by decide)
theorem letL_256 (l : List Nat) : ∀ x ∈ letL l, x < 256 := fun x hx => by have : x < 2 := letL_wd l x hx; omega
def conO : DFA := ⟨1, 0, [[1, 0], [1, 1]], [true, false]⟩
def conS : DFA := ⟨1, 0, [[1, 1], [2, 2], [2, 2]], [true, true, false]⟩
theorem conO_valid : Valid conO := checkD_zero.1 (by decide)
theorem conS_valid : Valid conS := checkD_zero.1 (by decide)
theorem conA_valid : Valid (stayD 1 true) := stay_valid (by decide) (by decide) true
theorem conA2_valid : Valid (stayD 2 true) := stay_valid (by decide) (by decide) true
theorem conO_min : minD conO = conO := by kernel_rfl
theorem conA_min : minD (stayD 1 true) = stayD 1 true := by kernel_rfl
theorem stay_accT {w : List Nat} (hw : WdV 1 w) : acc (stayD 1 true) w = true := stay_acc (by decide) (by decide) true hw
theorem ones_iff : ∀ u : List Nat, (∀ x ∈ u, x < 2) → (acc conO u = true ↔ ∀ x ∈ u, x = 1) := by
  have key : ∀ u : List Nat, (∀ x ∈ u, x < 2) → runN conO 1 u = 1 := by
    intro u
    induction u with
    | nil => intro _; rfl
    | cons x l ih =>
      intro h
      have hx : x = 0 ∨ x = 1 := by have := h x (by simp); omega
      have hl := ih (fun y hy => h y (by simp [hy]))
      rcases hx with rfl | rfl <;> exact hl
  intro u
  induction u with
  | nil => intro _; exact ⟨fun _ x hx => by simp at hx, fun _ => rfl⟩
  | cons x l ih =>
    intro h
    have hx : x = 0 ∨ x = 1 := by have := h x (by simp); omega
    have hl := ih (fun y hy => h y (by simp [hy]))
    have kl := key l (fun y hy => h y (by simp [hy]))
    rcases hx with rfl | rfl
    · have e : acc conO (0 :: l) = finN conO (runN conO 1 l) := rfl
      rw [e, kl]
      refine ⟨fun hh => absurd hh (by decide), fun hh => ?_⟩
      have := hh 0 (by simp)
      omega
    · have e : acc conO (1 :: l) = acc conO l := rfl
      rw [e, hl]
      refine ⟨fun hh y hy => ?_, fun hh y hy => hh y (by simp [hy])⟩
      rcases List.mem_cons.1 hy with rfl | hy
      · rfl
      · exact hh y hy
theorem short_iff : ∀ u : List Nat, (∀ x ∈ u, x < 2) → (acc conS u = true ↔ u.length ≤ 1) := by
  have key : ∀ u : List Nat, (∀ x ∈ u, x < 2) → runN conS 2 u = 2 := by
    intro u
    induction u with
    | nil => intro _; rfl
    | cons x l ih =>
      intro h
      have hx : x = 0 ∨ x = 1 := by have := h x (by simp); omega
      have hl := ih (fun y hy => h y (by simp [hy]))
      rcases hx with rfl | rfl <;> exact hl
  intro u h
  match u, h with
  | [], _ => exact ⟨fun _ => by simp, fun _ => rfl⟩
  | [x], h =>
    have hx : x = 0 ∨ x = 1 := by have := h x (by simp); omega
    rcases hx with rfl | rfl
    · exact ⟨fun _ => by simp, fun _ => rfl⟩
    · exact ⟨fun _ => by simp, fun _ => rfl⟩
  | x :: y :: l, h =>
    have hx : x = 0 ∨ x = 1 := by have := h x (by simp); omega
    have hy : y = 0 ∨ y = 1 := by have := h y (by simp); omega
    have kl := key l (fun z hz => h z (by simp [hz]))
    have e : acc conS (x :: y :: l) = finN conS 2 := by
      have e1 : acc conS (x :: y :: l) = finN conS (runN conS 2 l) := by rcases hx with rfl | rfl <;> rcases hy with rfl | rfl <;> rfl
      rw [e1, kl]
    rw [e]
    exact ⟨fun hh => absurd hh (by decide), fun hh => absurd hh (by simp)⟩
theorem least_of {v : Int} {n : Nat} {d : DFA} {p : List Nat → Bool} (h : HasL v n d p) {w : List Nat} (hw : WdV v w) (hp : p w = true) (hle : ∀ u, WdV v u → p u = true → code w ≤ code u) {res : Option (List Nat)} (hr : LeastA d res) : res = some w :=
  hr.unique h.valid (b := some w) ⟨h.wd.2 hw, by rw [h.acc w hw]; exact hp, fun u hu ha => hle u (h.wd.1 hu) (by rw [← h.acc u (h.wd.1 hu)]; exact ha)⟩
theorem code_ge2 {u : List Nat} (h : ∀ x ∈ u, x = 1) (hl : ¬ u.length ≤ 1) : code [1, 1] ≤ code u := by
  by_cases h2 : u.length = 2
  · match u, h2 with
    | [x, y], _ =>
      have := h x (by simp); have := h y (by simp)
      subst x; subst y
      exact Nat.le_refl _
  · rcases Nat.lt_or_ge (code u) (code [1, 1]) with h3 | h3
    · have := code_len u [1, 1] (fun x hx => by have := h x hx; omega) (fun x hx => by simp at hx; omega) (by omega)
      have e : [1, 1].length = 2 := rfl
      omega
    · exact h3
theorem code_ge1 {u : List Nat} (h : u ≠ []) : code [0] ≤ code u := by
  have e : code [0] = 1 := rfl
  rw [e]
  have : ∀ u : List Nat, u ≠ [] → 1 ≤ code u := by
    intro u
    refine snocInd (p := fun u => u ≠ [] → 1 ≤ code u) (fun h => absurd rfl h) (fun l x _ _ => ?_) u
    rw [code_snoc]; omega
  exact this u h
end Go.Lx

namespace Go.Proofs.YtnpehjpookcfkaaDoor
open Go.Lx Go.RowKit
theorem mixed : Tryd.prog.follows .mixedOrders = true := by kernel_rfl
theorem inf1 : Inf Tryd.prog 1 (.nilFunc) 1 8 := by unfold Inf; kernel_rfl
theorem inf2 : Inf Tryd.prog 2 (.int .i64 0) 1 8 := by unfold Inf; kernel_rfl
theorem inf3 : Inf Tryd.prog 3 (.int .i64 0) 1 8 := by unfold Inf; kernel_rfl
theorem inf4 : Inf Tryd.prog 4 (.bool false) 1 1 := by unfold Inf; kernel_rfl
theorem inf5 : Inf Tryd.prog 5 (.int .u8 0) 1 1 := by unfold Inf; kernel_rfl
theorem inf6 : Inf Tryd.prog 6 (.int .u8 0) 1 1 := by unfold Inf; kernel_rfl
theorem inf7 : Inf Tryd.prog 7 ((.agg #[(.int .i64 0), (.int .i64 0), (.bool false), (.int .u8 0)])) 4 24 := by unfold Inf; kernel_rfl
theorem inf8 : Inf Tryd.prog 8 ((.agg #[(.int .i64 0), (.int .i64 0), (.bool false), (.int .u8 0)])) 4 24 := by unfold Inf; kernel_rfl
theorem inf9 : Inf Tryd.prog 9 (.string ByteArray.empty) 1 16 := by unfold Inf; kernel_rfl
theorem inf10 : Inf Tryd.prog 10 (.string ByteArray.empty) 1 16 := by unfold Inf; kernel_rfl
theorem inf11 : Inf Tryd.prog 11 (.string ByteArray.empty) 1 16 := by unfold Inf; kernel_rfl
theorem inf12 : Inf Tryd.prog 12 (.int .u64 0) 1 8 := by unfold Inf; kernel_rfl
theorem inf13 : Inf Tryd.prog 13 ((.agg #[(.string ByteArray.empty), (.int .u64 0)])) 2 24 := by unfold Inf; kernel_rfl
theorem inf14 : Inf Tryd.prog 14 ((.agg #[(.string ByteArray.empty), (.int .u64 0)])) 2 24 := by unfold Inf; kernel_rfl
theorem inf15 : Inf Tryd.prog 15 (.pointer none) 1 8 := by unfold Inf; kernel_rfl
theorem inf16 : Inf Tryd.prog 16 (.pointer none) 1 8 := by unfold Inf; kernel_rfl
theorem inf17 : Inf Tryd.prog 17 (.pointer none) 1 8 := by unfold Inf; kernel_rfl
theorem inf18 : Inf Tryd.prog 18 ((.agg #[(.pointer none)])) 1 8 := by unfold Inf; kernel_rfl
theorem inf19 : Inf Tryd.prog 19 ((.agg #[(.pointer none)])) 1 8 := by unfold Inf; kernel_rfl
theorem inf20 : Inf Tryd.prog 20 (.nilIface) 1 16 := by unfold Inf; kernel_rfl
theorem inf21 : Inf Tryd.prog 21 (.int .i32 0) 1 4 := by unfold Inf; kernel_rfl
theorem inf22 : Inf Tryd.prog 22 ((.slice none 0 0)) 1 24 := by unfold Inf; kernel_rfl
theorem inf23 : Inf Tryd.prog 23 ((.slice none 0 0)) 1 24 := by unfold Inf; kernel_rfl
theorem inf24 : Inf Tryd.prog 24 ((.agg #[(.int .i64 0), (.int .i64 0), (.slice none 0 0), (.slice none 0 0)])) 4 64 := by unfold Inf; kernel_rfl
theorem inf25 : Inf Tryd.prog 25 ((.agg #[(.int .i64 0), (.int .i64 0), (.slice none 0 0), (.slice none 0 0)])) 4 64 := by unfold Inf; kernel_rfl
theorem inf26 : Inf Tryd.prog 26 ((.agg #[(.int .i64 0), (.int .i64 0), (.slice none 0 0), (.slice none 0 0), (.int .i64 0), (.int .i64 0), (.slice none 0 0), (.slice none 0 0)])) 8 128 := by unfold Inf; kernel_rfl
theorem inf27 : Inf Tryd.prog 27 ((.agg #[(.int .i64 0), (.int .i64 0), (.slice none 0 0), (.slice none 0 0), (.int .i64 0), (.int .i64 0), (.slice none 0 0), (.slice none 0 0)])) 8 128 := by unfold Inf; kernel_rfl
theorem inf28 : Inf Tryd.prog 28 ((.agg #[(.int .i64 0), (.int .i64 0), (.slice none 0 0), (.slice none 0 0), (.int .i64 0), (.int .i64 0), (.slice none 0 0), (.slice none 0 0), (.int .i64 0), (.int .i64 0), (.slice none 0 0), (.slice none 0 0), (.int .i64 0), (.int .i64 0), (.slice none 0 0), (.slice none 0 0)])) 16 256 := by unfold Inf; kernel_rfl
theorem inf29 : Inf Tryd.prog 29 ((.slice none 0 0)) 1 24 := by unfold Inf; kernel_rfl
theorem inf30 : Inf Tryd.prog 30 (.nilFunc) 1 8 := by unfold Inf; kernel_rfl
theorem inf31 : Inf Tryd.prog 31 (.nilFunc) 1 8 := by unfold Inf; kernel_rfl
theorem inf32 : Inf Tryd.prog 32 (.nilFunc) 1 8 := by unfold Inf; kernel_rfl
theorem inf33 : Inf Tryd.prog 33 (.int .i64 0) 1 8 := by unfold Inf; kernel_rfl
theorem inf35 : Inf Tryd.prog 35 (.nilFunc) 1 8 := by unfold Inf; kernel_rfl
theorem inf36 : Inf Tryd.prog 36 (.nilFunc) 1 8 := by unfold Inf; kernel_rfl
theorem inf37 : Inf Tryd.prog 37 (.nilFunc) 1 8 := by unfold Inf; kernel_rfl
theorem inf38 : Inf Tryd.prog 38 (.nilFunc) 1 8 := by unfold Inf; kernel_rfl
theorem inf39 : Inf Tryd.prog 39 (.nilFunc) 1 8 := by unfold Inf; kernel_rfl
theorem inf40 : Inf Tryd.prog 40 ((.agg #[(.int .i64 0), (.int .i64 0), (.slice none 0 0), (.slice none 0 0), (.int .i64 0), (.int .i64 0), (.slice none 0 0), (.slice none 0 0), (.int .i64 0), (.int .i64 0), (.slice none 0 0), (.slice none 0 0), (.int .i64 0), (.int .i64 0), (.slice none 0 0), (.slice none 0 0), (.int .i64 0), (.int .i64 0), (.slice none 0 0), (.slice none 0 0), (.int .i64 0), (.int .i64 0), (.slice none 0 0), (.slice none 0 0)])) 24 384 := by unfold Inf; kernel_rfl
theorem inf42 : Inf Tryd.prog 42 (.nilFunc) 1 8 := by unfold Inf; kernel_rfl
theorem inf44 : Inf Tryd.prog 44 (.nilFunc) 1 8 := by unfold Inf; kernel_rfl
theorem inf45 : Inf Tryd.prog 45 (.nilFunc) 1 8 := by unfold Inf; kernel_rfl
theorem inf46 : Inf Tryd.prog 46 (.nilFunc) 1 8 := by unfold Inf; kernel_rfl
theorem inf47 : Inf Tryd.prog 47 (.nilFunc) 1 8 := by unfold Inf; kernel_rfl
theorem inf48 : Inf Tryd.prog 48 (.nilFunc) 1 8 := by unfold Inf; kernel_rfl
theorem inf49 : Inf Tryd.prog 49 (.nilFunc) 1 8 := by unfold Inf; kernel_rfl
theorem inf50 : Inf Tryd.prog 50 (.nilFunc) 1 8 := by unfold Inf; kernel_rfl
theorem inf51 : Inf Tryd.prog 51 ((.agg #[(.int .i64 0), (.int .i64 0), (.slice none 0 0), (.slice none 0 0), (.int .i64 0), (.int .i64 0), (.slice none 0 0), (.slice none 0 0)])) 8 128 := by unfold Inf; kernel_rfl
theorem inf52 : Inf Tryd.prog 52 (.nilFunc) 1 8 := by unfold Inf; kernel_rfl
theorem inf53 : Inf Tryd.prog 53 (.nilFunc) 1 8 := by unfold Inf; kernel_rfl
theorem inf54 : Inf Tryd.prog 54 ((.slice none 0 0)) 1 24 := by unfold Inf; kernel_rfl
theorem inf55 : Inf Tryd.prog 55 (.nilFunc) 1 8 := by unfold Inf; kernel_rfl
theorem inf56 : Inf Tryd.prog 56 (.nilFunc) 1 8 := by unfold Inf; kernel_rfl
theorem inf57 : Inf Tryd.prog 57 (.pointer none) 1 8 := by unfold Inf; kernel_rfl
theorem inf58 : Inf Tryd.prog 58 ((.agg #[(.int .i64 0)])) 1 8 := by unfold Inf; kernel_rfl
theorem inf59 : Inf Tryd.prog 59 ((.agg #[(.int .i64 0)])) 1 8 := by unfold Inf; kernel_rfl
theorem inf60 : Inf Tryd.prog 60 (.nilFunc) 1 8 := by unfold Inf; kernel_rfl
theorem inf61 : Inf Tryd.prog 61 (.nilFunc) 1 8 := by unfold Inf; kernel_rfl
theorem inf62 : Inf Tryd.prog 62 (.pointer none) 1 8 := by unfold Inf; kernel_rfl
theorem inf63 : Inf Tryd.prog 63 (.nilFunc) 1 8 := by unfold Inf; kernel_rfl
theorem inf64 : Inf Tryd.prog 64 ((.agg #[(.int .i64 0), (.int .i64 0), (.int .i64 0), (.slice none 0 0), (.slice none 0 0), (.int .i64 0), (.int .i64 0), (.slice none 0 0), (.slice none 0 0)])) 9 136 := by unfold Inf; kernel_rfl
theorem inf65 : Inf Tryd.prog 65 ((.agg #[(.int .i64 0), (.int .i64 0), (.int .i64 0), (.slice none 0 0), (.slice none 0 0), (.int .i64 0), (.int .i64 0), (.slice none 0 0), (.slice none 0 0)])) 9 136 := by unfold Inf; kernel_rfl
theorem inf67 : Inf Tryd.prog 67 (.nilFunc) 1 8 := by unfold Inf; kernel_rfl
theorem inf68 : Inf Tryd.prog 68 (.nilFunc) 1 8 := by unfold Inf; kernel_rfl
theorem inf69 : Inf Tryd.prog 69 (.nilFunc) 1 8 := by unfold Inf; kernel_rfl
theorem inf70 : Inf Tryd.prog 70 (.nilFunc) 1 8 := by unfold Inf; kernel_rfl
theorem inf71 : Inf Tryd.prog 71 (.nilFunc) 1 8 := by unfold Inf; kernel_rfl
theorem inf72 : Inf Tryd.prog 72 (.nilFunc) 1 8 := by unfold Inf; kernel_rfl
theorem inf73 : Inf Tryd.prog 73 (.nilFunc) 1 8 := by unfold Inf; kernel_rfl
theorem inf75 : Inf Tryd.prog 75 (.nilFunc) 1 8 := by unfold Inf; kernel_rfl
theorem inf76 : Inf Tryd.prog 76 (.nilFunc) 1 8 := by unfold Inf; kernel_rfl
theorem inf77 : Inf Tryd.prog 77 (.nilFunc) 1 8 := by unfold Inf; kernel_rfl
theorem inf78 : Inf Tryd.prog 78 (.nilFunc) 1 8 := by unfold Inf; kernel_rfl
theorem inf79 : Inf Tryd.prog 79 (.nilFunc) 1 8 := by unfold Inf; kernel_rfl
theorem inf80 : Inf Tryd.prog 80 (.nilFunc) 1 8 := by unfold Inf; kernel_rfl
theorem inf81 : Inf Tryd.prog 81 (.nilFunc) 1 8 := by unfold Inf; kernel_rfl
theorem inf82 : Inf Tryd.prog 82 (.nilFunc) 1 8 := by unfold Inf; kernel_rfl
theorem inf83 : Inf Tryd.prog 83 (.nilFunc) 1 8 := by unfold Inf; kernel_rfl
theorem inf84 : Inf Tryd.prog 84 (.nilFunc) 1 8 := by unfold Inf; kernel_rfl
theorem inf85 : Inf Tryd.prog 85 (.nilFunc) 1 8 := by unfold Inf; kernel_rfl
theorem inf87 : Inf Tryd.prog 87 (.nilFunc) 1 8 := by unfold Inf; kernel_rfl
theorem inf88 : Inf Tryd.prog 88 (.nilFunc) 1 8 := by unfold Inf; kernel_rfl
theorem inf89 : Inf Tryd.prog 89 (.nilFunc) 1 8 := by unfold Inf; kernel_rfl
theorem inf90 : Inf Tryd.prog 90 (.nilFunc) 1 8 := by unfold Inf; kernel_rfl
theorem inf91 : Inf Tryd.prog 91 (.nilFunc) 1 8 := by unfold Inf; kernel_rfl
theorem inf92 : Inf Tryd.prog 92 (.nilFunc) 1 8 := by unfold Inf; kernel_rfl
theorem inf93 : Inf Tryd.prog 93 (.nilFunc) 1 8 := by unfold Inf; kernel_rfl
theorem inf94 : Inf Tryd.prog 94 (.nilFunc) 1 8 := by unfold Inf; kernel_rfl
theorem inf96 : Inf Tryd.prog 96 (.nilFunc) 1 8 := by unfold Inf; kernel_rfl
theorem inf97 : Inf Tryd.prog 97 (.map none) 1 8 := by unfold Inf; kernel_rfl
theorem inf99 : Inf Tryd.prog 99 ((.agg #[(.int .i64 0), (.int .i64 0)])) 2 16 := by unfold Inf; kernel_rfl
theorem inf100 : Inf Tryd.prog 100 ((.agg #[(.int .i64 0), (.int .i64 0)])) 2 16 := by unfold Inf; kernel_rfl
theorem inf101 : Inf Tryd.prog 101 (.map none) 1 8 := by unfold Inf; kernel_rfl
theorem inf102 : Inf Tryd.prog 102 ((.agg #[(.int .i64 0), (.int .i64 0), (.slice none 0 0)])) 3 40 := by unfold Inf; kernel_rfl
theorem inf103 : Inf Tryd.prog 103 ((.agg #[(.int .i64 0), (.int .i64 0), (.slice none 0 0)])) 3 40 := by unfold Inf; kernel_rfl
theorem inf104 : Inf Tryd.prog 104 ((.slice none 0 0)) 1 24 := by unfold Inf; kernel_rfl
theorem inf105 : Inf Tryd.prog 105 (.pointer none) 1 8 := by unfold Inf; kernel_rfl
theorem inf107 : Inf Tryd.prog 107 (.nilFunc) 1 8 := by unfold Inf; kernel_rfl
theorem inf108 : Inf Tryd.prog 108 (.nilFunc) 1 8 := by unfold Inf; kernel_rfl
theorem inf109 : Inf Tryd.prog 109 (.nilFunc) 1 8 := by unfold Inf; kernel_rfl
theorem inf110 : Inf Tryd.prog 110 (.nilFunc) 1 8 := by unfold Inf; kernel_rfl
theorem inf111 : Inf Tryd.prog 111 ((.agg #[(.int .i64 0), (.int .i64 0)])) 2 16 := by unfold Inf; kernel_rfl
theorem inf112 : Inf Tryd.prog 112 ((.agg #[(.int .i64 0), (.int .i64 0)])) 2 16 := by unfold Inf; kernel_rfl
theorem inf113 : Inf Tryd.prog 113 ((.slice none 0 0)) 1 24 := by unfold Inf; kernel_rfl
theorem inf114 : Inf Tryd.prog 114 (.map none) 1 8 := by unfold Inf; kernel_rfl
theorem inf115 : Inf Tryd.prog 115 ((.agg #[(.int .i64 0), (.int .i64 0), (.slice none 0 0), (.slice none 0 0), (.int .i64 0), (.int .i64 0), (.slice none 0 0), (.slice none 0 0), (.slice none 0 0), (.map none)])) 10 160 := by unfold Inf; kernel_rfl
theorem inf116 : Inf Tryd.prog 116 ((.agg #[(.int .i64 0), (.int .i64 0), (.slice none 0 0), (.slice none 0 0), (.int .i64 0), (.int .i64 0), (.slice none 0 0), (.slice none 0 0), (.slice none 0 0), (.map none)])) 10 160 := by unfold Inf; kernel_rfl
theorem inf117 : Inf Tryd.prog 117 ((.agg #[(.int .i64 0), (.slice none 0 0)])) 2 32 := by unfold Inf; kernel_rfl
theorem inf118 : Inf Tryd.prog 118 ((.agg #[(.int .i64 0), (.slice none 0 0)])) 2 32 := by unfold Inf; kernel_rfl
theorem inf119 : Inf Tryd.prog 119 ((.slice none 0 0)) 1 24 := by unfold Inf; kernel_rfl
theorem inf120 : Inf Tryd.prog 120 (.nilFunc) 1 8 := by unfold Inf; kernel_rfl
theorem inf121 : Inf Tryd.prog 121 (.nilFunc) 1 8 := by unfold Inf; kernel_rfl
theorem inf122 : Inf Tryd.prog 122 (.nilFunc) 1 8 := by unfold Inf; kernel_rfl
theorem inf123 : Inf Tryd.prog 123 ((.agg #[(.int .i64 0), (.int .i64 0), (.slice none 0 0), (.slice none 0 0)])) 4 64 := by unfold Inf; kernel_rfl
theorem inf124 : Inf Tryd.prog 124 ((.agg #[(.int .i64 0), (.int .i64 0), (.slice none 0 0), (.slice none 0 0)])) 4 64 := by unfold Inf; kernel_rfl
theorem inf125 : Inf Tryd.prog 125 (.nilFunc) 1 8 := by unfold Inf; kernel_rfl
theorem inf126 : Inf Tryd.prog 126 (.nilFunc) 1 8 := by unfold Inf; kernel_rfl
theorem inf127 : Inf Tryd.prog 127 (.nilFunc) 1 8 := by unfold Inf; kernel_rfl
theorem inf128 : Inf Tryd.prog 128 (.map none) 1 8 := by unfold Inf; kernel_rfl
theorem inf130 : Inf Tryd.prog 130 (.nilFunc) 1 8 := by unfold Inf; kernel_rfl
theorem inf131 : Inf Tryd.prog 131 (.nilFunc) 1 8 := by unfold Inf; kernel_rfl
theorem inf132 : Inf Tryd.prog 132 (.nilFunc) 1 8 := by unfold Inf; kernel_rfl
theorem inf133 : Inf Tryd.prog 133 (.nilFunc) 1 8 := by unfold Inf; kernel_rfl
theorem inf134 : Inf Tryd.prog 134 (.nilFunc) 1 8 := by unfold Inf; kernel_rfl
theorem inf135 : Inf Tryd.prog 135 (.nilFunc) 1 8 := by unfold Inf; kernel_rfl
theorem inf136 : Inf Tryd.prog 136 ((.agg #[(.int .u8 0), (.int .u8 0), (.int .u8 0), (.int .u8 0), (.int .u8 0), (.int .u8 0), (.int .u8 0), (.int .u8 0), (.int .u8 0), (.int .u8 0), (.int .u8 0), (.int .u8 0), (.int .u8 0), (.int .u8 0), (.int .u8 0), (.int .u8 0), (.int .u8 0), (.int .u8 0), (.int .u8 0), (.int .u8 0), (.int .u8 0), (.int .u8 0), (.int .u8 0), (.int .u8 0)])) 24 24 := by unfold Inf; kernel_rfl
theorem inf137 : Inf Tryd.prog 137 (.int .u64 0) 1 8 := by unfold Inf; kernel_rfl
theorem inf138 : Inf Tryd.prog 138 (.nilFunc) 1 8 := by unfold Inf; kernel_rfl
theorem inf139 : Inf Tryd.prog 139 (.nilFunc) 1 8 := by unfold Inf; kernel_rfl
theorem inf141 : Inf Tryd.prog 141 (.nilFunc) 1 8 := by unfold Inf; kernel_rfl
theorem inf142 : Inf Tryd.prog 142 (.nilFunc) 1 8 := by unfold Inf; kernel_rfl
theorem inf143 : Inf Tryd.prog 143 (.nilFunc) 1 8 := by unfold Inf; kernel_rfl
theorem inf144 : Inf Tryd.prog 144 (.nilFunc) 1 8 := by unfold Inf; kernel_rfl
theorem inf145 : Inf Tryd.prog 145 ((.agg #[(.int .u64 0), (.int .u64 0), (.int .u64 0), (.int .u64 0), (.int .u64 0), (.int .u64 0), (.int .u64 0), (.int .u64 0), (.int .u64 0), (.int .u64 0), (.int .u64 0), (.int .u64 0), (.int .u64 0), (.int .u64 0), (.int .u64 0), (.int .u64 0), (.int .u64 0), (.int .u64 0), (.int .u64 0), (.int .u64 0)])) 20 160 := by unfold Inf; kernel_rfl
theorem inf146 : Inf Tryd.prog 146 (.int .u32 0) 1 4 := by unfold Inf; kernel_rfl
theorem inf147 : Inf Tryd.prog 147 ((.agg #[(.int .u8 0), (.int .u8 0), (.int .u8 0), (.int .u8 0), (.int .u8 0), (.int .u8 0), (.int .u8 0), (.int .u8 0), (.int .u8 0), (.int .u8 0), (.int .u8 0), (.int .u8 0), (.int .u8 0), (.int .u8 0), (.int .u8 0), (.int .u8 0), (.int .u8 0), (.int .u8 0), (.int .u8 0), (.int .u8 0), (.int .u8 0), (.int .u8 0), (.int .u8 0), (.int .u8 0), (.int .u8 0), (.int .u8 0), (.int .u8 0), (.int .u8 0), (.int .u8 0), (.int .u8 0), (.int .u8 0), (.int .u8 0), (.int .u8 0), (.int .u8 0), (.int .u8 0), (.int .u8 0), (.int .u8 0), (.int .u8 0), (.int .u8 0), (.int .u8 0), (.int .u8 0), (.int .u8 0), (.int .u8 0), (.int .u8 0), (.int .u8 0), (.int .u8 0), (.int .u8 0), (.int .u8 0), (.int .u8 0), (.int .u8 0), (.int .u8 0), (.int .u8 0), (.int .u8 0), (.int .u8 0), (.int .u8 0), (.int .u8 0), (.int .u8 0), (.int .u8 0), (.int .u8 0), (.int .u8 0), (.int .u8 0), (.int .u8 0), (.int .u8 0), (.int .u8 0), (.int .u8 0)])) 65 65 := by unfold Inf; kernel_rfl
theorem inf148 : Inf Tryd.prog 148 (.nilFunc) 1 8 := by unfold Inf; kernel_rfl
theorem inf149 : Inf Tryd.prog 149 (.int .u64 0) 1 8 := by unfold Inf; kernel_rfl
theorem inf150 : Inf Tryd.prog 150 (.nilFunc) 1 8 := by unfold Inf; kernel_rfl
theorem inf151 : Inf Tryd.prog 151 (.nilFunc) 1 8 := by unfold Inf; kernel_rfl
theorem inf152 : Inf Tryd.prog 152 ((.agg #[(.int .u8 0), (.int .u8 0), (.int .u8 0), (.int .u8 0), (.int .u8 0), (.int .u8 0), (.int .u8 0), (.int .u8 0), (.int .u8 0), (.int .u8 0), (.int .u8 0), (.int .u8 0), (.int .u8 0), (.int .u8 0), (.int .u8 0), (.int .u8 0), (.int .u8 0), (.int .u8 0), (.int .u8 0), (.int .u8 0), (.int .u8 0), (.int .u8 0), (.int .u8 0), (.int .u8 0), (.int .u8 0), (.int .u8 0), (.int .u8 0), (.int .u8 0), (.int .u8 0), (.int .u8 0), (.int .u8 0), (.int .u8 0)])) 32 32 := by unfold Inf; kernel_rfl
theorem inf153 : Inf Tryd.prog 153 ((.agg #[(.int .u8 0), (.int .u8 0), (.int .u8 0), (.int .u8 0), (.int .u8 0), (.int .u8 0), (.int .u8 0), (.int .u8 0), (.int .u8 0), (.int .u8 0), (.int .u8 0), (.int .u8 0), (.int .u8 0), (.int .u8 0), (.int .u8 0), (.int .u8 0), (.int .u8 0), (.int .u8 0), (.int .u8 0), (.int .u8 0), (.int .u8 0), (.int .u8 0), (.int .u8 0), (.int .u8 0), (.int .u8 0), (.int .u8 0), (.int .u8 0), (.int .u8 0), (.int .u8 0), (.int .u8 0), (.int .u8 0), (.int .u8 0), (.int .u8 0), (.int .u8 0), (.int .u8 0), (.int .u8 0), (.int .u8 0), (.int .u8 0), (.int .u8 0), (.int .u8 0), (.int .u8 0), (.int .u8 0), (.int .u8 0), (.int .u8 0), (.int .u8 0), (.int .u8 0), (.int .u8 0), (.int .u8 0), (.int .u8 0), (.int .u8 0), (.int .u8 0), (.int .u8 0), (.int .u8 0), (.int .u8 0), (.int .u8 0), (.int .u8 0), (.int .u8 0), (.int .u8 0), (.int .u8 0), (.int .u8 0), (.int .u8 0), (.int .u8 0), (.int .u8 0), (.int .u8 0)])) 64 64 := by unfold Inf; kernel_rfl
theorem inf154 : Inf Tryd.prog 154 (.nilFunc) 1 8 := by unfold Inf; kernel_rfl
theorem inf155 : Inf Tryd.prog 155 ((.agg #[(.pointer none), (.pointer none), (.pointer none), (.string ByteArray.empty)])) 4 40 := by unfold Inf; kernel_rfl
theorem inf156 : Inf Tryd.prog 156 ((.agg #[(.pointer none), (.pointer none), (.pointer none), (.string ByteArray.empty)])) 4 40 := by unfold Inf; kernel_rfl
theorem inf157 : Inf Tryd.prog 157 ((.agg #[])) 0 0 := by unfold Inf; kernel_rfl
theorem inf158 : Inf Tryd.prog 158 ((.agg #[])) 0 0 := by unfold Inf; kernel_rfl
theorem inf159 : Inf Tryd.prog 159 ((.agg #[])) 0 0 := by unfold Inf; kernel_rfl
theorem inf160 : Inf Tryd.prog 160 (.nilFunc) 1 8 := by unfold Inf; kernel_rfl
theorem inf161 : Inf Tryd.prog 161 (.int .u8 0) 1 1 := by unfold Inf; kernel_rfl
theorem inf162 : Inf Tryd.prog 162 (.int .u8 0) 1 1 := by unfold Inf; kernel_rfl
theorem inf163 : Inf Tryd.prog 163 (.nilFunc) 1 8 := by unfold Inf; kernel_rfl
theorem inf164 : Inf Tryd.prog 164 (.pointer none) 1 8 := by unfold Inf; kernel_rfl
theorem inf165 : Inf Tryd.prog 165 (.int .i32 0) 1 4 := by unfold Inf; kernel_rfl
theorem inf166 : Inf Tryd.prog 166 (.int .i32 0) 1 4 := by unfold Inf; kernel_rfl
theorem inf167 : Inf Tryd.prog 167 ((.agg #[(.int .u64 0), (.int .u64 0), (.int .u32 0), (.int .u8 0), (.int .u8 0), (.int .u8 0), (.int .u8 0), .nilFunc, (.pointer none), (.int .i32 0), (.int .i32 0)])) 11 48 := by unfold Inf; kernel_rfl
theorem inf168 : Inf Tryd.prog 168 ((.agg #[(.int .u64 0), (.int .u64 0), (.int .u32 0), (.int .u8 0), (.int .u8 0), (.int .u8 0), (.int .u8 0), .nilFunc, (.pointer none), (.int .i32 0), (.int .i32 0)])) 11 48 := by unfold Inf; kernel_rfl
theorem inf169 : Inf Tryd.prog 169 (.pointer none) 1 8 := by unfold Inf; kernel_rfl
theorem plan7 : Plan Tryd.prog 7 [(0, 1), (1, 1), (2, 1), (3, 1)] := ⟨_, Tryd.underlying7, fun w => by simp [run_sizeOf' inf2, run_sizeOf' inf3, run_sizeOf' inf4, run_sizeOf' inf6]⟩
theorem plan8 : Plan Tryd.prog 8 [(0, 1), (1, 1), (2, 1), (3, 1)] := ⟨_, Tryd.underlying8, fun w => by simp [run_sizeOf' inf2, run_sizeOf' inf3, run_sizeOf' inf4, run_sizeOf' inf6]⟩
theorem plan13 : Plan Tryd.prog 13 [(0, 1), (1, 1)] := ⟨_, Tryd.underlying13, fun w => by simp [run_sizeOf' inf9, run_sizeOf' inf12]⟩
theorem plan14 : Plan Tryd.prog 14 [(0, 1), (1, 1)] := ⟨_, Tryd.underlying14, fun w => by simp [run_sizeOf' inf9, run_sizeOf' inf12]⟩
theorem plan18 : Plan Tryd.prog 18 [(0, 1)] := ⟨_, Tryd.underlying18, fun w => by simp [run_sizeOf' inf17]⟩
theorem plan19 : Plan Tryd.prog 19 [(0, 1)] := ⟨_, Tryd.underlying19, fun w => by simp [run_sizeOf' inf17]⟩
theorem plan24 : Plan Tryd.prog 24 [(0, 1), (1, 1), (2, 1), (3, 1)] := ⟨_, Tryd.underlying24, fun w => by simp [run_sizeOf' inf3, run_sizeOf' inf22, run_sizeOf' inf23]⟩
theorem plan25 : Plan Tryd.prog 25 [(0, 1), (1, 1), (2, 1), (3, 1)] := ⟨_, Tryd.underlying25, fun w => by simp [run_sizeOf' inf3, run_sizeOf' inf22, run_sizeOf' inf23]⟩
theorem plan26 : Plan Tryd.prog 26 [(0, 4), (4, 4)] := ⟨_, Tryd.underlying26, fun w => by simp [run_sizeOf' inf25]⟩
theorem plan27 : Plan Tryd.prog 27 [(0, 4), (4, 4)] := ⟨_, Tryd.underlying27, fun w => by simp [run_sizeOf' inf25]⟩
theorem plan58 : Plan Tryd.prog 58 [(0, 1)] := ⟨_, Tryd.underlying58, fun w => by simp [run_sizeOf' inf33]⟩
theorem plan59 : Plan Tryd.prog 59 [(0, 1)] := ⟨_, Tryd.underlying59, fun w => by simp [run_sizeOf' inf33]⟩
theorem plan64 : Plan Tryd.prog 64 [(0, 1), (1, 4), (5, 4)] := ⟨_, Tryd.underlying64, fun w => by simp [run_sizeOf' inf25, run_sizeOf' inf59]⟩
theorem plan65 : Plan Tryd.prog 65 [(0, 1), (1, 4), (5, 4)] := ⟨_, Tryd.underlying65, fun w => by simp [run_sizeOf' inf25, run_sizeOf' inf59]⟩
theorem plan99 : Plan Tryd.prog 99 [(0, 1), (1, 1)] := ⟨_, Tryd.underlying99, fun w => by simp [run_sizeOf' inf3]⟩
theorem plan100 : Plan Tryd.prog 100 [(0, 1), (1, 1)] := ⟨_, Tryd.underlying100, fun w => by simp [run_sizeOf' inf3]⟩
theorem plan102 : Plan Tryd.prog 102 [(0, 2), (2, 1)] := ⟨_, Tryd.underlying102, fun w => by simp [run_sizeOf' inf29, run_sizeOf' inf100]⟩
theorem plan103 : Plan Tryd.prog 103 [(0, 2), (2, 1)] := ⟨_, Tryd.underlying103, fun w => by simp [run_sizeOf' inf29, run_sizeOf' inf100]⟩
theorem plan111 : Plan Tryd.prog 111 [(0, 1), (1, 1)] := ⟨_, Tryd.underlying111, fun w => by simp [run_sizeOf' inf3]⟩
theorem plan112 : Plan Tryd.prog 112 [(0, 1), (1, 1)] := ⟨_, Tryd.underlying112, fun w => by simp [run_sizeOf' inf3]⟩
theorem plan115 : Plan Tryd.prog 115 [(0, 4), (4, 4), (8, 1), (9, 1)] := ⟨_, Tryd.underlying115, fun w => by simp [run_sizeOf' inf25, run_sizeOf' inf113, run_sizeOf' inf114]⟩
theorem plan116 : Plan Tryd.prog 116 [(0, 4), (4, 4), (8, 1), (9, 1)] := ⟨_, Tryd.underlying116, fun w => by simp [run_sizeOf' inf25, run_sizeOf' inf113, run_sizeOf' inf114]⟩
theorem plan117 : Plan Tryd.prog 117 [(0, 1), (1, 1)] := ⟨_, Tryd.underlying117, fun w => by simp [run_sizeOf' inf3, run_sizeOf' inf29]⟩
theorem plan118 : Plan Tryd.prog 118 [(0, 1), (1, 1)] := ⟨_, Tryd.underlying118, fun w => by simp [run_sizeOf' inf3, run_sizeOf' inf29]⟩
theorem plan123 : Plan Tryd.prog 123 [(0, 4)] := ⟨_, Tryd.underlying123, fun w => by simp [run_sizeOf' inf25]⟩
theorem plan124 : Plan Tryd.prog 124 [(0, 4)] := ⟨_, Tryd.underlying124, fun w => by simp [run_sizeOf' inf25]⟩
theorem plan155 : Plan Tryd.prog 155 [(0, 1), (1, 1), (2, 1), (3, 1)] := ⟨_, Tryd.underlying155, fun w => by simp [run_sizeOf' inf9, run_sizeOf' inf17]⟩
theorem plan156 : Plan Tryd.prog 156 [(0, 1), (1, 1), (2, 1), (3, 1)] := ⟨_, Tryd.underlying156, fun w => by simp [run_sizeOf' inf9, run_sizeOf' inf17]⟩
theorem plan158 : Plan Tryd.prog 158 [(0, 0)] := ⟨_, Tryd.underlying158, fun w => by simp [run_sizeOf' inf157]⟩
theorem plan159 : Plan Tryd.prog 159 [(0, 0)] := ⟨_, Tryd.underlying159, fun w => by simp [run_sizeOf' inf157]⟩
theorem plan167 : Plan Tryd.prog 167 [(0, 1), (1, 1), (2, 1), (3, 1), (4, 1), (5, 1), (6, 1), (7, 1), (8, 1), (9, 1), (10, 1)] := ⟨_, Tryd.underlying167, fun w => by simp [run_sizeOf' inf5, run_sizeOf' inf12, run_sizeOf' inf146, run_sizeOf' inf161, run_sizeOf' inf162, run_sizeOf' inf163, run_sizeOf' inf164, run_sizeOf' inf165, run_sizeOf' inf166]⟩
theorem plan168 : Plan Tryd.prog 168 [(0, 1), (1, 1), (2, 1), (3, 1), (4, 1), (5, 1), (6, 1), (7, 1), (8, 1), (9, 1), (10, 1)] := ⟨_, Tryd.underlying168, fun w => by simp [run_sizeOf' inf5, run_sizeOf' inf12, run_sizeOf' inf146, run_sizeOf' inf161, run_sizeOf' inf162, run_sizeOf' inf163, run_sizeOf' inf164, run_sizeOf' inf165, run_sizeOf' inf166]⟩
theorem ent2 : Lx.Enters Tryd.prog 2 Tryd.f2 := ⟨Tryd.func2, by kernel_rfl, rfl⟩
theorem ent3 : Lx.Enters Tryd.prog 3 Tryd.f3 := ⟨Tryd.func3, by kernel_rfl, rfl⟩
theorem ent4 : Lx.Enters Tryd.prog 4 Tryd.f4 := ⟨Tryd.func4, by kernel_rfl, rfl⟩
theorem ent5 : Lx.Enters Tryd.prog 5 Tryd.f5 := ⟨Tryd.func5, by kernel_rfl, rfl⟩
theorem ent6 : Lx.Enters Tryd.prog 6 Tryd.f6 := ⟨Tryd.func6, by kernel_rfl, rfl⟩
theorem ent7 : Lx.Enters Tryd.prog 7 Tryd.f7 := ⟨Tryd.func7, by kernel_rfl, rfl⟩
theorem ent8 : Lx.Enters Tryd.prog 8 Tryd.f8 := ⟨Tryd.func8, by kernel_rfl, rfl⟩
theorem ent9 : Lx.Enters Tryd.prog 9 Tryd.f9 := ⟨Tryd.func9, by kernel_rfl, rfl⟩
theorem ent10 : Lx.Enters Tryd.prog 10 Tryd.f10 := ⟨Tryd.func10, by kernel_rfl, rfl⟩
theorem ent11 : Lx.Enters Tryd.prog 11 Tryd.f11 := ⟨Tryd.func11, by kernel_rfl, rfl⟩
theorem ent12 : Lx.Enters Tryd.prog 12 Tryd.f12 := ⟨Tryd.func12, by kernel_rfl, rfl⟩
theorem ent13 : Lx.Enters Tryd.prog 13 Tryd.f13 := ⟨Tryd.func13, by kernel_rfl, rfl⟩
theorem ent14 : Lx.Enters Tryd.prog 14 Tryd.f14 := ⟨Tryd.func14, by kernel_rfl, rfl⟩
theorem ent15 : Lx.Enters Tryd.prog 15 Tryd.f15 := ⟨Tryd.func15, by kernel_rfl, rfl⟩
theorem ent16 : Lx.Enters Tryd.prog 16 Tryd.f16 := ⟨Tryd.func16, by kernel_rfl, rfl⟩
theorem ent17 : Lx.Enters Tryd.prog 17 Tryd.f17 := ⟨Tryd.func17, by kernel_rfl, rfl⟩
theorem ent18 : Lx.Enters Tryd.prog 18 Tryd.f18 := ⟨Tryd.func18, by kernel_rfl, rfl⟩
theorem ent19 : Lx.Enters Tryd.prog 19 Tryd.f19 := ⟨Tryd.func19, by kernel_rfl, rfl⟩
theorem ent20 : Lx.Enters Tryd.prog 20 Tryd.f20 := ⟨Tryd.func20, by kernel_rfl, rfl⟩
theorem ent21 : Lx.Enters Tryd.prog 21 Tryd.f21 := ⟨Tryd.func21, by kernel_rfl, rfl⟩
theorem ent22 : Lx.Enters Tryd.prog 22 Tryd.f22 := ⟨Tryd.func22, by kernel_rfl, rfl⟩
theorem ent23 : Lx.Enters Tryd.prog 23 Tryd.f23 := ⟨Tryd.func23, by kernel_rfl, rfl⟩
theorem ent24 : Lx.Enters Tryd.prog 24 Tryd.f24 := ⟨Tryd.func24, by kernel_rfl, rfl⟩
theorem ent25 : Lx.Enters Tryd.prog 25 Tryd.f25 := ⟨Tryd.func25, by kernel_rfl, rfl⟩
theorem ent26 : Lx.Enters Tryd.prog 26 Tryd.f26 := ⟨Tryd.func26, by kernel_rfl, rfl⟩
theorem ent27 : Lx.Enters Tryd.prog 27 Tryd.f27 := ⟨Tryd.func27, by kernel_rfl, rfl⟩
theorem ent28 : Lx.Enters Tryd.prog 28 Tryd.f28 := ⟨Tryd.func28, by kernel_rfl, rfl⟩
theorem ent29 : Lx.Enters Tryd.prog 29 Tryd.f29 := ⟨Tryd.func29, by kernel_rfl, rfl⟩
theorem ent30 : Lx.Enters Tryd.prog 30 Tryd.f30 := ⟨Tryd.func30, by kernel_rfl, rfl⟩
theorem ent31 : Lx.Enters Tryd.prog 31 Tryd.f31 := ⟨Tryd.func31, by kernel_rfl, rfl⟩
theorem ent32 : Lx.Enters Tryd.prog 32 Tryd.f32 := ⟨Tryd.func32, by kernel_rfl, rfl⟩
theorem ent33 : Lx.Enters Tryd.prog 33 Tryd.f33 := ⟨Tryd.func33, by kernel_rfl, rfl⟩
theorem ent34 : Lx.Enters Tryd.prog 34 Tryd.f34 := ⟨Tryd.func34, by kernel_rfl, rfl⟩
theorem ent35 : Lx.Enters Tryd.prog 35 Tryd.f35 := ⟨Tryd.func35, by kernel_rfl, rfl⟩
theorem ent36 : Lx.Enters Tryd.prog 36 Tryd.f36 := ⟨Tryd.func36, by kernel_rfl, rfl⟩
theorem ent37 : Lx.Enters Tryd.prog 37 Tryd.f37 := ⟨Tryd.func37, by kernel_rfl, rfl⟩
theorem ent38 : Lx.Enters Tryd.prog 38 Tryd.f38 := ⟨Tryd.func38, by kernel_rfl, rfl⟩
theorem ent39 : Lx.Enters Tryd.prog 39 Tryd.f39 := ⟨Tryd.func39, by kernel_rfl, rfl⟩
theorem ent40 : Lx.Enters Tryd.prog 40 Tryd.f40 := ⟨Tryd.func40, by kernel_rfl, rfl⟩
theorem ent41 : Lx.Enters Tryd.prog 41 Tryd.f41 := ⟨Tryd.func41, by kernel_rfl, rfl⟩
theorem ent42 : Lx.Enters Tryd.prog 42 Tryd.f42 := ⟨Tryd.func42, by kernel_rfl, rfl⟩
theorem ent43 : Lx.Enters Tryd.prog 43 Tryd.f43 := ⟨Tryd.func43, by kernel_rfl, rfl⟩
theorem ent44 : Lx.Enters Tryd.prog 44 Tryd.f44 := ⟨Tryd.func44, by kernel_rfl, rfl⟩
theorem ent45 : Lx.Enters Tryd.prog 45 Tryd.f45 := ⟨Tryd.func45, by kernel_rfl, rfl⟩
theorem ent46 : Lx.Enters Tryd.prog 46 Tryd.f46 := ⟨Tryd.func46, by kernel_rfl, rfl⟩
theorem ent47 : Lx.Enters Tryd.prog 47 Tryd.f47 := ⟨Tryd.func47, by kernel_rfl, rfl⟩
theorem ent48 : Lx.Enters Tryd.prog 48 Tryd.f48 := ⟨Tryd.func48, by kernel_rfl, rfl⟩
theorem ent49 : Lx.Enters Tryd.prog 49 Tryd.f49 := ⟨Tryd.func49, by kernel_rfl, rfl⟩
theorem ent50 : Lx.Enters Tryd.prog 50 Tryd.f50 := ⟨Tryd.func50, by kernel_rfl, rfl⟩
theorem ent51 : Lx.Enters Tryd.prog 51 Tryd.f51 := ⟨Tryd.func51, by kernel_rfl, rfl⟩
theorem ent52 : Lx.Enters Tryd.prog 52 Tryd.f52 := ⟨Tryd.func52, by kernel_rfl, rfl⟩
theorem ent53 : Lx.Enters Tryd.prog 53 Tryd.f53 := ⟨Tryd.func53, by kernel_rfl, rfl⟩
theorem ent54 : Lx.Enters Tryd.prog 54 Tryd.f54 := ⟨Tryd.func54, by kernel_rfl, rfl⟩
theorem ent55 : Lx.Enters Tryd.prog 55 Tryd.f55 := ⟨Tryd.func55, by kernel_rfl, rfl⟩
theorem ent56 : Lx.Enters Tryd.prog 56 Tryd.f56 := ⟨Tryd.func56, by kernel_rfl, rfl⟩
theorem ent57 : Lx.Enters Tryd.prog 57 Tryd.f57 := ⟨Tryd.func57, by kernel_rfl, rfl⟩
theorem ent58 : Lx.Enters Tryd.prog 58 Tryd.f58 := ⟨Tryd.func58, by kernel_rfl, rfl⟩
theorem ent59 : Lx.Enters Tryd.prog 59 Tryd.f59 := ⟨Tryd.func59, by kernel_rfl, rfl⟩
theorem ent60 : Lx.Enters Tryd.prog 60 Tryd.f60 := ⟨Tryd.func60, by kernel_rfl, rfl⟩
theorem ent61 : Lx.Enters Tryd.prog 61 Tryd.f61 := ⟨Tryd.func61, by kernel_rfl, rfl⟩
theorem ent62 : Lx.Enters Tryd.prog 62 Tryd.f62 := ⟨Tryd.func62, by kernel_rfl, rfl⟩
theorem ent63 : Lx.Enters Tryd.prog 63 Tryd.f63 := ⟨Tryd.func63, by kernel_rfl, rfl⟩
theorem ent64 : Lx.Enters Tryd.prog 64 Tryd.f64 := ⟨Tryd.func64, by kernel_rfl, rfl⟩
theorem ent65 : Lx.Enters Tryd.prog 65 Tryd.f65 := ⟨Tryd.func65, by kernel_rfl, rfl⟩
theorem ent66 : Lx.Enters Tryd.prog 66 Tryd.f66 := ⟨Tryd.func66, by kernel_rfl, rfl⟩
theorem ent67 : Lx.Enters Tryd.prog 67 Tryd.f67 := ⟨Tryd.func67, by kernel_rfl, rfl⟩
theorem ent68 : Lx.Enters Tryd.prog 68 Tryd.f68 := ⟨Tryd.func68, by kernel_rfl, rfl⟩
theorem ent69 : Lx.Enters Tryd.prog 69 Tryd.f69 := ⟨Tryd.func69, by kernel_rfl, rfl⟩
theorem ent70 : Lx.Enters Tryd.prog 70 Tryd.f70 := ⟨Tryd.func70, by kernel_rfl, rfl⟩
theorem ent71 : Lx.Enters Tryd.prog 71 Tryd.f71 := ⟨Tryd.func71, by kernel_rfl, rfl⟩
theorem ent72 : Lx.Enters Tryd.prog 72 Tryd.f72 := ⟨Tryd.func72, by kernel_rfl, rfl⟩
theorem ent73 : Lx.Enters Tryd.prog 73 Tryd.f73 := ⟨Tryd.func73, by kernel_rfl, rfl⟩
theorem ent74 : Lx.Enters Tryd.prog 74 Tryd.f74 := ⟨Tryd.func74, by kernel_rfl, rfl⟩
theorem ent75 : Lx.Enters Tryd.prog 75 Tryd.f75 := ⟨Tryd.func75, by kernel_rfl, rfl⟩
theorem ent76 : Lx.Enters Tryd.prog 76 Tryd.f76 := ⟨Tryd.func76, by kernel_rfl, rfl⟩
theorem ent77 : Lx.Enters Tryd.prog 77 Tryd.f77 := ⟨Tryd.func77, by kernel_rfl, rfl⟩
theorem ent78 : Lx.Enters Tryd.prog 78 Tryd.f78 := ⟨Tryd.func78, by kernel_rfl, rfl⟩
theorem ent79 : Lx.Enters Tryd.prog 79 Tryd.f79 := ⟨Tryd.func79, by kernel_rfl, rfl⟩
theorem ent80 : Lx.Enters Tryd.prog 80 Tryd.f80 := ⟨Tryd.func80, by kernel_rfl, rfl⟩
theorem ent81 : Lx.Enters Tryd.prog 81 Tryd.f81 := ⟨Tryd.func81, by kernel_rfl, rfl⟩
theorem ent82 : Lx.Enters Tryd.prog 82 Tryd.f82 := ⟨Tryd.func82, by kernel_rfl, rfl⟩
theorem ent83 : Lx.Enters Tryd.prog 83 Tryd.f83 := ⟨Tryd.func83, by kernel_rfl, rfl⟩
theorem ent84 : Lx.Enters Tryd.prog 84 Tryd.f84 := ⟨Tryd.func84, by kernel_rfl, rfl⟩
theorem ent85 : Lx.Enters Tryd.prog 85 Tryd.f85 := ⟨Tryd.func85, by kernel_rfl, rfl⟩
theorem ent86 : Lx.Enters Tryd.prog 86 Tryd.f86 := ⟨Tryd.func86, by kernel_rfl, rfl⟩
theorem ent87 : Lx.Enters Tryd.prog 87 Tryd.f87 := ⟨Tryd.func87, by kernel_rfl, rfl⟩
theorem ent88 : Lx.Enters Tryd.prog 88 Tryd.f88 := ⟨Tryd.func88, by kernel_rfl, rfl⟩
theorem ent89 : Lx.Enters Tryd.prog 89 Tryd.f89 := ⟨Tryd.func89, by kernel_rfl, rfl⟩
theorem ent90 : Lx.Enters Tryd.prog 90 Tryd.f90 := ⟨Tryd.func90, by kernel_rfl, rfl⟩
theorem ent91 : Lx.Enters Tryd.prog 91 Tryd.f91 := ⟨Tryd.func91, by kernel_rfl, rfl⟩
theorem ent92 : Lx.Enters Tryd.prog 92 Tryd.f92 := ⟨Tryd.func92, by kernel_rfl, rfl⟩
theorem ent93 : Lx.Enters Tryd.prog 93 Tryd.f93 := ⟨Tryd.func93, by kernel_rfl, rfl⟩
theorem ent94 : Lx.Enters Tryd.prog 94 Tryd.f94 := ⟨Tryd.func94, by kernel_rfl, rfl⟩
theorem ent95 : Lx.Enters Tryd.prog 95 Tryd.f95 := ⟨Tryd.func95, by kernel_rfl, rfl⟩
theorem ent96 : Lx.Enters Tryd.prog 96 Tryd.f96 := ⟨Tryd.func96, by kernel_rfl, rfl⟩
theorem ent97 : Lx.Enters Tryd.prog 97 Tryd.f97 := ⟨Tryd.func97, by kernel_rfl, rfl⟩
theorem ent119 : Lx.Enters Tryd.prog 119 Tryd.f119 := ⟨Tryd.func119, by kernel_rfl, rfl⟩
end Go.Proofs.YtnpehjpookcfkaaDoor
