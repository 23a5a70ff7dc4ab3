/- Contracts of functions of the program (Y5): what each call answers and that it leaves memory as it was. Conditions: those each theorem names. -/
import Derived.Test.YtnikhiohindggaaDoorY3
import Derived.Test.YtnikhiohindggaaDoorZ3
set_option linter.unusedSectionVars false
set_option linter.unusedSimpArgs false
set_option linter.unusedVariables false
set_option linter.unnecessarySimpa false
set_option maxHeartbeats 8000000
set_option maxRecDepth 20000
namespace Go.Lx
def tabB (n : Nat) (f : Nat → Bool) : List Bool := (List.range n).map f
theorem tabB_len (n : Nat) (f : Nat → Bool) : (tabB n f).length = n := by simp [tabB]
theorem tabB_at {n : Nat} {f : Nat → Bool} {v : Nat} (h : v < n) : (tabB n f).getD v false = f v := by
 unfold tabB
 rw [List.getD_eq_getElem?_getD, List.getElem?_map, List.getElem?_range h]; rfl
theorem tabB_out {n : Nat} {f : Nat → Bool} {v : Nat} (h : ¬ v < n) : (tabB n f).getD v false = false := by
 rw [List.getD_eq_getElem?_getD, List.getElem?_eq_none (by rw [tabB_len]; omega)]; rfl
theorem tabB_get {n : Nat} {f : Nat → Bool} {v : Nat} (h : v < n) : (bools (tabB n f))[v]? = some (.bool (f v)) := by
 rw [bools_atD (by rw [tabB_len]; exact h), tabB_at h]
theorem tabB_ext {n : Nat} {f g : Nat → Bool} (h : ∀ v, v < n → f v = g v) : tabB n f = tabB n g := List.map_congr_left fun v hv => h v (List.mem_range.1 hv)
theorem tabB_set {n : Nat} {f : Nat → Bool} {t : Nat} {b : Bool} (h : t < n) : (tabB n f).set t b = tabB n (fun v => if v = t then b else f v) := by
 apply List.ext_getElem?
 intro i
 unfold tabB
 rw [List.getElem?_set, List.getElem?_map]
 by_cases e : t = i
 ·subst e
  rw [if_pos rfl, if_pos (by simpa using h), List.getElem?_map, List.getElem?_range h, Option.map_some, if_pos rfl]
 ·rw [if_neg e, List.getElem?_map]
  by_cases hi : i < n
  ·rw [List.getElem?_range hi, Option.map_some, Option.map_some, if_neg (fun q => e q.symm)]
  ·rw [List.getElem?_eq_none (by simp; omega)]; rfl
theorem tabB_of {n : Nat} {l : List Bool} (h : l.length = n) : l = tabB n (fun v => l.getD v false) := by
 apply List.ext_getElem?
 intro i
 by_cases hi : i < n
 ·unfold tabB
  rw [List.getElem?_map, List.getElem?_range hi, Option.map_some, List.getD_eq_getElem?_getD, List.getElem?_eq_getElem (by omega)]; rfl
 ·rw [List.getElem?_eq_none (by omega), List.getElem?_eq_none (by rw [tabB_len]; omega)]
theorem tabB_rep (n : Nat) : List.replicate n false = tabB n (fun _ => false) := by
 rw [tabB_of (l := List.replicate n false) (n := n) (by simp)]
 refine tabB_ext fun v hv => ?_
 rw [List.getD_eq_getElem?_getD, List.getElem?_replicate, if_pos hv]; rfl
def mxN (pr : Nat → Nat) (f : Nat → Bool) (t : Nat) : Nat := mxP pr ((List.range t).filter f)
theorem mxN_yes {pr : Nat → Nat} {f : Nat → Bool} {t : Nat} (h : f t = true) : mxN pr f (t + 1) = max (mxN pr f t) (pr t) := by
 unfold mxN; rw [List.range_succ, List.filter_append, List.filter_cons_of_pos h, List.filter_nil, mxP_snoc]
theorem mxN_no {pr : Nat → Nat} {f : Nat → Bool} {t : Nat} (h : ¬ f t = true) : mxN pr f (t + 1) = mxN pr f t := by
 unfold mxN; rw [List.range_succ, List.filter_append, List.filter_cons_of_neg h, List.filter_nil, List.append_nil]
theorem mxN_is {pr : Nat → Nat} {f : Nat → Bool} {n : Nat} {P : Nat → Prop} (hP : ∀ v, P v ↔ v < n ∧ f v = true) (hne : ∃ v, P v) : IsMax pr P (mxN pr f n) := by
 have e : P = fun u => u ∈ (List.range n).filter f := funext fun u => propext ((hP u).trans ⟨fun h => List.mem_filter.2 ⟨List.mem_range.2 h.1, h.2⟩, fun h => ⟨List.mem_range.1 (List.mem_filter.1 h).1, (List.mem_filter.1 h).2⟩⟩)
 have hl : (List.range n).filter f ≠ [] := fun h => by
  obtain ⟨v, hv⟩ := hne
  rw [e] at hv
  have h9 : v ∈ (List.range n).filter f := hv
  rw [h] at h9; cases h9
 rw [e]; exact mxP_is hl
theorem mxN_max0 {pr : Nat → Nat} {f : Nat → Bool} {n : Nat} {P : Nat → Prop} (hP : ∀ v, P v ↔ v < n ∧ f v = true) : Max0 pr P (mxN pr f n) := by
 by_cases hne : ∃ v, P v
 ·obtain ⟨⟨u, hu, e⟩, h2⟩ := mxN_is (pr := pr) hP hne
  exact ⟨h2, .inr ⟨u, hu, e⟩⟩
 ·have hl : (List.range n).filter f = [] := List.filter_eq_nil_iff.2 fun u hu hf => hne ⟨u, (hP u).2 ⟨List.mem_range.1 hu, hf⟩⟩
  exact ⟨fun u hu => absurd ⟨u, hu⟩ hne, .inl (by unfold mxN; rw [hl]; rfl)⟩
def cmS (qs : List BRec) (s v : Nat) : Bool := gB qs s v && gB qs v s
section
variable {E : Nat → Nat → Prop} {S : Nat → Prop} {n s : Nat} {qs : List BRec}
theorem cyc_gB (hr : ∀ a b, a < n → b < n → (gB qs a b = true ↔ Pp (InS E S) a b)) (hs : s < n) : gB qs s s = true ↔ Cyc E S s := (hr s s hs hs).trans cyc_pp.symm
theorem cmS_iff (hq : SqM n qs) (hr : ∀ a b, a < n → b < n → (gB qs a b = true ↔ Pp (InS E S) a b)) (hn : ∀ v, S v → v < n) (hS : S s) (hc : Cyc E S s) (v : Nat) : Cmp E S s v ↔ v < n ∧ cmS qs s v = true := by
 have hs := hn s hS
 rw [cmp_pp hS hc]
 unfold cmS
 rw [Bool.and_eq_true]
 constructor
 ·rintro ⟨h1, h2⟩
  have hv : v < n := by
   obtain ⟨c, h3, _⟩ := h2
   exact hn v h3.2.1
  exact ⟨hv, (hr s v hs hv).2 h1, (hr v s hv hs).2 h2⟩
 ·rintro ⟨hv, h1, h2⟩
  exact ⟨(hr s v hs hv).1 h1, (hr v s hv hs).1 h2⟩
end
theorem RefI.comp {E : Nat → Nat → Prop} {pr : Nat → Nat} {S : Nat → Prop} {o0 o o3 o5 : Nat → Nat} {n s : Nat} {qs : List BRec} {ds : List Bool} (h : RefI E pr S o0 o (sB ds)) (hq : SqM n qs) (hr : ∀ a b, a < n → b < n → (gB qs a b = true ↔ Pp (InS E S) a b)) (hn : ∀ v, S v → v < n) (hS : S s) (hd : ¬ sB ds s) (hc : Cyc E S s)
  (h1 : IsRed E pr o3 (fun u => u < n ∧ (cmS qs s u && !decide (pr u = mxN pr (cmS qs s) n)) = true)) (hout : ∀ v, ¬ (v < n ∧ (cmS qs s v && !decide (pr v = mxN pr (cmS qs s) n)) = true) → o3 v = o v)
  (h5 : ∀ v, o5 v = if v < n ∧ (cmS qs s v && decide (pr v = mxN pr (cmS qs s) n)) = true then mxN o3 (fun u => cmS qs s u && !decide (pr u = mxN pr (cmS qs s) n)) n + (mxN o3 (fun u => cmS qs s u && !decide (pr u = mxN pr (cmS qs s) n)) n + mxN pr (cmS qs s) n) % 2 else o3 v) :
  RefI E pr S o0 o5 (sB (tabB n fun v => ds.getD v false || cmS qs s v)) := by
 have hcm := cmS_iff hq hr hn hS hc
 have hm : IsMax pr (Cmp E S s) (mxN pr (cmS qs s) n) := mxN_is hcm ⟨s, .refl hS⟩
 have eqv : ∀ v, (Cmp E S s v ∧ pr v < mxN pr (cmS qs s) n) ↔ v < n ∧ (cmS qs s v && !decide (pr v = mxN pr (cmS qs s) n)) = true := fun v => by
  rw [hcm v, Bool.and_eq_true, Bool.not_eq_true', decide_eq_false_iff_not]
  constructor
  ·rintro ⟨⟨h1, h2⟩, h3⟩; exact ⟨h1, h2, by omega⟩
  ·rintro ⟨h1, h2, h3⟩
   have := hm.2 v ((hcm v).2 ⟨h1, h2⟩)
   exact ⟨⟨h1, h2⟩, by omega⟩
 have eS : (fun u => Cmp E S s u ∧ pr u < mxN pr (cmS qs s) n) = fun u => u < n ∧ (cmS qs s u && !decide (pr u = mxN pr (cmS qs s) n)) = true := funext fun u => propext (eqv u)
 have hk : Max0 o3 (fun u => Cmp E S s u ∧ pr u < mxN pr (cmS qs s) n) (mxN o3 (fun u => cmS qs s u && !decide (pr u = mxN pr (cmS qs s) n)) n) := mxN_max0 eqv
 refine h.step hS hd hc hm (by rw [eS]; exact h1) (fun v hv => hout v fun g => hv ((eqv v).2 g)) hk (fun v hv hlt => ?_) (fun v hv => ?_) (fun v => ?_)
 ·have h2 := (hcm v).1 hv
  have h3 := hm.2 v hv
  rw [h5 v, if_pos ⟨h2.1, by rw [h2.2, Bool.true_and]; exact decide_eq_true (by omega)⟩]
 ·rw [h5 v, if_neg (fun g => hv ?_)]
  rw [Bool.and_eq_true, decide_eq_true_eq] at g
  exact ⟨(hcm v).2 ⟨g.1, g.2.1⟩, by omega⟩
 ·by_cases hv : v < n
  ·show (tabB n _).getD v false = true ↔ _
   rw [tabB_at hv, Bool.or_eq_true, hcm v]
   exact ⟨fun g => g.elim (fun g => .inr g) (fun g => .inl ⟨hv, g⟩), fun g => g.elim (fun g => .inr g.2) (fun g => .inl g)⟩
  ·show (tabB n _).getD v false = true ↔ _
   rw [tabB_out hv]
   refine ⟨fun g => (by cases g), fun g => absurd ?_ hv⟩
   rcases g with g | g
   ·exact hn v g.1
   ·exact hn v (h.sub v g)
theorem RefI.lone {E : Nat → Nat → Prop} {pr : Nat → Nat} {S : Nat → Prop} {o0 : Nat → Nat} {o : List Nat} {n s : Nat} {ds : List Bool} (h : RefI E pr S o0 (fn o) (sB ds)) (hl : ds.length = n) (ho : o.length = n) (hs : s < n) (hS : S s) (hd : ¬ sB ds s) (hc : ¬ Cyc E S s) : RefI E pr S o0 (fn (o.set s 0)) (sB (ds.set s true)) :=
 h.none hS hd hc (fun v => by
  unfold fn
  rw [List.getD_eq_getElem?_getD, List.getElem?_set]
  by_cases e : s = v
  ·subst e; rw [if_pos rfl, if_pos rfl, if_pos (by omega)]; rfl
  ·rw [if_neg e, if_neg (fun q => e q.symm), List.getD_eq_getElem?_getD]) (fun v => by
  show (ds.set s true).getD v false = true ↔ _
  rw [List.getD_eq_getElem?_getD, List.getElem?_set]
  by_cases e : s = v
  ·subst e; rw [if_pos rfl, if_pos (by omega)]; exact ⟨fun _ => .inl rfl, fun _ => rfl⟩
  ·rw [if_neg e]
   exact ⟨fun g => .inr (by show ds.getD v false = true; rw [List.getD_eq_getElem?_getD]; exact g), fun g => g.elim (fun q => absurd q.symm e) (fun g => by
    have g2 : ds.getD v false = true := g
    rwa [List.getD_eq_getElem?_getD] at g2)⟩)
theorem red_none {E : Nat → Nat → Prop} {pr o : Nat → Nat} {S : Nat → Prop} (h : ∀ v, ¬ S v) : IsRed E pr o S := .mk (fun v hv => absurd hv (h v)) (fun v hv => absurd hv (h v)) (fun v hv => absurd hv (h v))
theorem sB_lt {ss : List Bool} {n : Nat} (h : ss.length = n) {v : Nat} (hv : sB ss v) : v < n := by
 rcases Nat.lt_or_ge v n with g | g
 ·exact g
 ·have h9 : ss.getD v false = true := hv
  rw [List.getD_eq_getElem?_getD, List.getElem?_eq_none (by omega)] at h9
  cases h9
theorem sB_none (n : Nat) : sB (List.replicate n false) = fun _ => False := funext fun v => propext ⟨fun h => (by
 have h9 : (List.replicate n false).getD v false = true := h
 rw [List.getD_eq_getElem?_getD, List.getElem?_replicate] at h9
 split at h9
 ·cases h9
 ·cases h9), fun h => h.elim⟩
theorem sB_set {ds : List Bool} {s : Nat} (h : s < ds.length) (v : Nat) : sB (ds.set s true) v ↔ v = s ∨ sB ds v := by
 show (ds.set s true).getD v false = true ↔ v = s ∨ ds.getD v false = true
 rw [List.getD_eq_getElem?_getD, List.getElem?_set, List.getD_eq_getElem?_getD]
 by_cases e : s = v
 ·subst e; rw [if_pos rfl, if_pos h]; exact ⟨fun _ => .inl rfl, fun _ => rfl⟩
 ·rw [if_neg e]; exact ⟨fun g => .inr g, fun g => g.elim (fun q => absurd q.symm e) id⟩
def paF (n : Nat) (qs : List BRec) (s u : Nat) : List Bool := tabB n fun v => decide (v < u) && cmS qs s v
def dnF (n : Nat) (ds : List Bool) (qs : List BRec) (s u : Nat) : List Bool := tabB n fun v => ds.getD v false || (decide (v < u) && cmS qs s v)
def toF (n : Nat) (pr : Nat → Nat) (m : Nat) (qs : List BRec) (s u : Nat) : List Bool := tabB n fun v => decide (v < u) && (cmS qs s v && decide (pr v = m))
def reF (n : Nat) (pr : Nat → Nat) (m : Nat) (qs : List BRec) (s u : Nat) : List Bool := tabB n fun v => cmS qs s v && !(decide (v < u) && decide (pr v = m))
def anF (pr : Nat → Nat) (m : Nat) (qs : List BRec) (s u : Nat) : Bool := (List.range u).any fun v => cmS qs s v && !decide (pr v = m)
theorem bools_rep (n : Nat) : bools (List.replicate n false) = List.replicate n (.bool false) := List.map_replicate
section
variable {n : Nat} {pr : Nat → Nat} {m : Nat} {ds : List Bool} {qs : List BRec} {s u : Nat}
theorem lt_step (v u : Nat) : decide (v < u + 1) = if v = u then true else decide (v < u) := by
 by_cases e : v = u
 ·rw [if_pos e]; exact decide_eq_true (by omega)
 ·rw [if_neg e]; exact decide_eq_decide.2 ⟨fun g => by omega, fun g => by omega⟩
theorem paF_zero : paF n qs s 0 = List.replicate n false := by rw [tabB_rep]; exact tabB_ext fun v _ => rfl
theorem paF_yes (h : u < n) (hc : cmS qs s u = true) : (paF n qs s u).set u true = paF n qs s (u + 1) := by
 unfold paF; rw [tabB_set h]; refine tabB_ext fun v _ => ?_
 rw [lt_step]; split
 ·rename_i e; rw [e, hc]; rfl
 ·rfl
theorem paF_no (hc : ¬ cmS qs s u = true) : paF n qs s (u + 1) = paF n qs s u := tabB_ext fun v _ => by
 rw [lt_step]; split
 ·rename_i e; rw [e, Bool.eq_false_iff.2 hc, Bool.and_false, Bool.and_false]
 ·rfl
theorem dnF_zero (h : ds.length = n) : dnF n ds qs s 0 = ds := by
 rw [tabB_of h]; refine tabB_ext fun v hv => ?_
 rw [tabB_at hv]; show (ds.getD v false || false) = _; rw [Bool.or_false]
theorem dnF_yes (h : u < n) (hc : cmS qs s u = true) : (dnF n ds qs s u).set u true = dnF n ds qs s (u + 1) := by
 unfold dnF; rw [tabB_set h]; refine tabB_ext fun v _ => ?_
 rw [lt_step]; split
 ·rename_i e; rw [e, hc]; show true = (_ || true); rw [Bool.or_true]
 ·rfl
theorem dnF_no (hc : ¬ cmS qs s u = true) : dnF n ds qs s (u + 1) = dnF n ds qs s u := tabB_ext fun v _ => by
 rw [lt_step]; split
 ·rename_i e; rw [e, Bool.eq_false_iff.2 hc, Bool.and_false, Bool.and_false]
 ·rfl
theorem dnF_end : dnF n ds qs s n = tabB n fun v => ds.getD v false || cmS qs s v := tabB_ext fun v hv => by rw [decide_eq_true hv, Bool.true_and]
theorem toF_zero : toF n pr m qs s 0 = List.replicate n false := by rw [tabB_rep]; exact tabB_ext fun v _ => rfl
theorem toF_yes (h : u < n) (hc : cmS qs s u = true) (hp : pr u = m) : (toF n pr m qs s u).set u true = toF n pr m qs s (u + 1) := by
 unfold toF; rw [tabB_set h]; refine tabB_ext fun v _ => ?_
 rw [lt_step]; split
 ·rename_i e; rw [e, hc, decide_eq_true hp]; rfl
 ·rfl
theorem toF_no (hc : ¬ (cmS qs s u = true ∧ pr u = m)) : toF n pr m qs s (u + 1) = toF n pr m qs s u := tabB_ext fun v _ => by
 rw [lt_step]; split
 ·rename_i e
  have h9 : (cmS qs s u && decide (pr u = m)) = false := Bool.eq_false_iff.2 fun g => by
   rw [Bool.and_eq_true, decide_eq_true_eq] at g; exact hc g
  rw [e, h9, Bool.and_false, Bool.and_false]
 ·rfl
theorem reF_zero : reF n pr m qs s 0 = paF n qs s n := tabB_ext fun v hv => by
 rw [decide_eq_true hv, Bool.true_and]; show (cmS qs s v && true) = _; rw [Bool.and_true]
theorem reF_yes (h : u < n) (hc : cmS qs s u = true) (hp : pr u = m) : (reF n pr m qs s u).set u false = reF n pr m qs s (u + 1) := by
 unfold reF; rw [tabB_set h]; refine tabB_ext fun v _ => ?_
 rw [lt_step]; split
 ·rename_i e; rw [e, hc, decide_eq_true hp]; rfl
 ·rfl
theorem reF_no (hc : ¬ (cmS qs s u = true ∧ pr u = m)) : reF n pr m qs s (u + 1) = reF n pr m qs s u := tabB_ext fun v _ => by
 rw [lt_step]; split
 ·rename_i e
  rw [e]
  by_cases h1 : cmS qs s u = true
  ·rw [decide_eq_false (fun g => hc ⟨h1, g⟩), Bool.and_false, Bool.and_false]
  ·rw [Bool.eq_false_iff.2 h1, Bool.false_and, Bool.false_and]
 ·rfl
theorem reF_at (h : u < n) : (reF n pr m qs s u).getD u false = cmS qs s u := by unfold reF; rw [tabB_at h, decide_eq_false (Nat.lt_irrefl u), Bool.false_and]; exact Bool.and_true _
theorem reF_next (h : u < n) : (reF n pr m qs s (u + 1)).getD u false = (cmS qs s u && !decide (pr u = m)) := by unfold reF; rw [tabB_at h, decide_eq_true (Nat.lt_succ_self u), Bool.true_and]
theorem reF_end (v : Nat) : sB (reF n pr m qs s n) v ↔ v < n ∧ (cmS qs s v && !decide (pr v = m)) = true := by
 show (reF n pr m qs s n).getD v false = true ↔ _
 by_cases hv : v < n
 ·unfold reF; rw [tabB_at hv, decide_eq_true hv, Bool.true_and]; exact ⟨fun g => ⟨hv, g⟩, fun g => g.2⟩
 ·unfold reF; rw [tabB_out hv]; exact ⟨fun g => (by cases g), fun g => absurd g.1 hv⟩
theorem anF_step : anF pr m qs s (u + 1) = (anF pr m qs s u || (cmS qs s u && !decide (pr u = m))) := by
 unfold anF; rw [List.range_succ, List.any_append]; simp
theorem anF_no (h : ¬ anF pr m qs s n = true) (v : Nat) : ¬ sB (reF n pr m qs s n) v := fun g => h (by
 have g2 := (reF_end v).1 g
 exact List.any_eq_true.2 ⟨v, List.mem_range.2 g2.1, g2.2⟩)
end
theorem reF_get {n : Nat} {pr : Nat → Nat} {m : Nat} {qs : List BRec} {s u : Nat} (h : u < n) : (bools (reF n pr m qs s u))[u]? = some (.bool (cmS qs s u)) := by
 rw [bools_atD (by unfold reF; rw [tabB_len]; exact h), reF_at h]
theorem reF_get2 {n : Nat} {pr : Nat → Nat} {m : Nat} {qs : List BRec} {s u : Nat} (h : u < n) : (bools (reF n pr m qs s (u + 1)))[u]? = some (.bool (cmS qs s u && !decide (pr u = m))) := by
 rw [bools_atD (by unfold reF; rw [tabB_len]; exact h), reF_next h]
theorem reF_getE {n : Nat} {pr : Nat → Nat} {m : Nat} {qs : List BRec} {s u : Nat} (h : u < n) : (bools (reF n pr m qs s n))[u]? = some (.bool (cmS qs s u && !decide (pr u = m))) := by
 unfold reF; rw [tabB_get h, decide_eq_true h, Bool.true_and]
theorem toF_getE {n : Nat} {pr : Nat → Nat} {m : Nat} {qs : List BRec} {s u : Nat} (h : u < n) : (bools (toF n pr m qs s n))[u]? = some (.bool (cmS qs s u && decide (pr u = m))) := by
 unfold toF; rw [tabB_get h, decide_eq_true h, Bool.true_and]
theorem paF_len {n : Nat} {qs : List BRec} {s u : Nat} : (paF n qs s u).length = n := tabB_len _ _
theorem dnF_len {n : Nat} {ds : List Bool} {qs : List BRec} {s u : Nat} : (dnF n ds qs s u).length = n := tabB_len _ _
theorem toF_len {n : Nat} {pr : Nat → Nat} {m : Nat} {qs : List BRec} {s u : Nat} : (toF n pr m qs s u).length = n := tabB_len _ _
theorem reF_len {n : Nat} {pr : Nat → Nat} {m : Nat} {qs : List BRec} {s u : Nat} : (reF n pr m qs s u).length = n := tabB_len _ _
theorem setK_yes {o5 : List Nat} {g : Nat → Nat} {f : Nat → Bool} {u K : Nat} (hl : u < o5.length) (h : ∀ v, fn o5 v = if v < u ∧ f v = true then K else g v) (hf : f u = true) : ∀ v, fn (o5.set u K) v = if v < u + 1 ∧ f v = true then K else g v := fun v => by
 unfold fn at h ⊢
 rw [List.getD_eq_getElem?_getD, List.getElem?_set]
 by_cases e : u = v
 ·subst e; rw [if_pos rfl, if_pos hl, if_pos ⟨Nat.lt_succ_self _, hf⟩]; rfl
 ·rw [if_neg e, ← List.getD_eq_getElem?_getD, h v]
  by_cases q : v < u ∧ f v = true
  ·rw [if_pos q, if_pos ⟨by omega, q.2⟩]
  ·rw [if_neg q, if_neg (fun r => q ⟨by omega, r.2⟩)]
theorem setK_no {o5 : List Nat} {g : Nat → Nat} {f : Nat → Bool} {u K : Nat} (h : ∀ v, fn o5 v = if v < u ∧ f v = true then K else g v) (hf : ¬ f u = true) : ∀ v, fn o5 v = if v < u + 1 ∧ f v = true then K else g v := fun v => by
 rw [h v]
 by_cases q : v < u ∧ f v = true
 ·rw [if_pos q, if_pos ⟨by omega, q.2⟩]
 ·rw [if_neg q, if_neg (fun r => q ⟨by
   by_cases e : v = u
   ·rw [e] at r; exact absurd r.2 hf
   ·omega, r.2⟩)]
theorem part_card {n : Nat} {E : Nat → Nat → Prop} {S : Nat → Prop} {pr : Nat → Nat} {qs : List BRec} {s : Nat} (hq : SqM n qs) (hr : ∀ a b, a < n → b < n → (gB qs a b = true ↔ Pp (InS E S) a b)) (hn : ∀ v, S v → v < n) (hS : S s) (hc : Cyc E S s) : cardS n (sB (reF n pr (mxN pr (cmS qs s) n) qs s n)) < cardS n S := by
 have hcm := cmS_iff hq hr hn hS hc
 obtain ⟨⟨u, hu, e⟩, _⟩ : IsMax pr (Cmp E S s) (mxN pr (cmS qs s) n) := mxN_is hcm ⟨s, .refl hS⟩
 refine cardS_lt (fun v hv => ?_) (hn u hu.1) hu.1 (fun g => ?_)
 ·have g := (reF_end v).1 hv
  rw [Bool.and_eq_true] at g
  exact ((hcm v).2 ⟨g.1, g.2.1⟩).1
 ·have g := (reF_end u).1 g
  rw [Bool.and_eq_true, Bool.not_eq_true', decide_eq_false_iff_not] at g
  exact g.2.2 e
theorem mxN_leP {pr : Nat → Nat} {f : Nat → Bool} {b : Nat} : ∀ t, (∀ v, v < t → f v = true → pr v ≤ b) → mxN pr f t ≤ b
 | 0, _ => Nat.zero_le _
 | t + 1, h => by
  have ih := mxN_leP t fun v h1 h2 => h v (by omega) h2
  by_cases ht : f t = true
  ·rw [mxN_yes ht]
   have := h t (Nat.lt_succ_self t) ht
   omega
  ·rw [mxN_no ht]; exact ih
end Go.Lx

