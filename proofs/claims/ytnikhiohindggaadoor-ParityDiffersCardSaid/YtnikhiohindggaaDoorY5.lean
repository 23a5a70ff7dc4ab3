/- Contracts of functions of the program (Y5): what each call answers and that it leaves memory as it was. Conditions: those each theorem names. -/
import Derived.Test.YtnikhiohindggaaDoorY3
import Derived.Test.YtnikhiohindggaaDoorZ3
set_option linter.unusedSectionVars false
set_option linter.unusedSimpArgs false
set_option linter.unusedVariables false
set_option linter.unnecessarySimpa false
set_option maxHeartbeats 8000000
set_option maxRecDepth 20000
namespace Go.Lx
def tabB (n : Nat) (f : Nat → Bool) : List Bool := (List.range n).map f
theorem tabB_len (n : Nat) (f : Nat → Bool) : (tabB n f).length = n := by simp [tabB]
theorem tabB_at {n : Nat} {f : Nat → Bool} {v : Nat} (h : v < n) : (tabB n f).getD v false = f v := by
 unfold tabB
 rw [List.getD_eq_getElem?_getD, List.getElem?_map, List.getElem?_range h]; rfl
theorem tabB_out {n : Nat} {f : Nat → Bool} {v : Nat} (h : ¬ v < n) : (tabB n f).getD v false = false := by
 rw [List.getD_eq_getElem?_getD, List.getElem?_eq_none (by rw [tabB_len]; omega)]; rfl
theorem tabB_ext {n : Nat} {f g : Nat → Bool} (h : ∀ v, v < n → f v = g v) : tabB n f = tabB n g := List.map_congr_left fun v hv => h v (List.mem_range.1 hv)
theorem tabB_set {n : Nat} {f : Nat → Bool} {t : Nat} {b : Bool} (h : t < n) : (tabB n f).set t b = tabB n (fun v => if v = t then b else f v) := by
 apply List.ext_getElem?
 intro i
 unfold tabB
 rw [List.getElem?_set, List.getElem?_map]
 by_cases e : t = i
 ·subst e
  rw [if_pos rfl, if_pos (by simpa using h), List.getElem?_map, List.getElem?_range h, Option.map_some, if_pos rfl]
 ·rw [if_neg e, List.getElem?_map]
  by_cases hi : i < n
  ·rw [List.getElem?_range hi, Option.map_some, Option.map_some, if_neg (fun q => e q.symm)]
  ·rw [List.getElem?_eq_none (by simp; omega)]; rfl
theorem tabB_of {n : Nat} {l : List Bool} (h : l.length = n) : l = tabB n (fun v => l.getD v false) := by
 apply List.ext_getElem?
 intro i
 by_cases hi : i < n
 ·unfold tabB
  rw [List.getElem?_map, List.getElem?_range hi, Option.map_some, List.getD_eq_getElem?_getD, List.getElem?_eq_getElem (by omega)]; rfl
 ·rw [List.getElem?_eq_none (by omega), List.getElem?_eq_none (by rw [tabB_len]; omega)]
theorem tabB_rep (n : Nat) : List.replicate n false = tabB n (fun _ => false) := by
 rw [tabB_of (l := List.replicate n false) (n := n) (by simp)]
 refine tabB_ext fun v hv => ?_
 rw [List.getD_eq_getElem?_getD, List.getElem?_replicate, if_pos hv]; rfl
def mxN (pr : Nat → Nat) (f : Nat → Bool) (t : Nat) : Nat := mxP pr ((List.range t).filter f)
theorem mxN_is {pr : Nat → Nat} {f : Nat → Bool} {n : Nat} {P : Nat → Prop} (hP : ∀ v, P v ↔ v < n ∧ f v = true) (hne : ∃ v, P v) : IsMax pr P (mxN pr f n) := by
 have e : P = fun u => u ∈ (List.range n).filter f := funext fun u => propext ((hP u).trans ⟨fun h => List.mem_filter.2 ⟨List.mem_range.2 h.1, h.2⟩, fun h => ⟨List.mem_range.1 (List.mem_filter.1 h).1, (List.mem_filter.1 h).2⟩⟩)
 have hl : (List.range n).filter f ≠ [] := fun h => by
  obtain ⟨v, hv⟩ := hne
  rw [e] at hv
  have h9 : v ∈ (List.range n).filter f := hv
  rw [h] at h9; cases h9
 rw [e]; exact mxP_is hl
theorem mxN_max0 {pr : Nat → Nat} {f : Nat → Bool} {n : Nat} {P : Nat → Prop} (hP : ∀ v, P v ↔ v < n ∧ f v = true) : Max0 pr P (mxN pr f n) := by
 by_cases hne : ∃ v, P v
 ·obtain ⟨⟨u, hu, e⟩, h2⟩ := mxN_is (pr := pr) hP hne
  exact ⟨h2, .inr ⟨u, hu, e⟩⟩
 ·have hl : (List.range n).filter f = [] := List.filter_eq_nil_iff.2 fun u hu hf => hne ⟨u, (hP u).2 ⟨List.mem_range.1 hu, hf⟩⟩
  exact ⟨fun u hu => absurd ⟨u, hu⟩ hne, .inl (by unfold mxN; rw [hl]; rfl)⟩
def cmS (qs : List BRec) (s v : Nat) : Bool := gB qs s v && gB qs v s
section
variable {E : Nat → Nat → Prop} {S : Nat → Prop} {n s : Nat} {qs : List BRec}
theorem cmS_iff (hq : SqM n qs) (hr : ∀ a b, a < n → b < n → (gB qs a b = true ↔ Pp (InS E S) a b)) (hn : ∀ v, S v → v < n) (hS : S s) (hc : Cyc E S s) (v : Nat) : Cmp E S s v ↔ v < n ∧ cmS qs s v = true := by
 have hs := hn s hS
 rw [cmp_pp hS hc]
 unfold cmS
 rw [Bool.and_eq_true]
 constructor
 ·rintro ⟨h1, h2⟩
  have hv : v < n := by
   obtain ⟨c, h3, _⟩ := h2
   exact hn v h3.2.1
  exact ⟨hv, (hr s v hs hv).2 h1, (hr v s hv hs).2 h2⟩
 ·rintro ⟨hv, h1, h2⟩
  exact ⟨(hr s v hs hv).1 h1, (hr v s hv hs).1 h2⟩
end
theorem RefI.comp {E : Nat → Nat → Prop} {pr : Nat → Nat} {S : Nat → Prop} {o0 o o3 o5 : Nat → Nat} {n s : Nat} {qs : List BRec} {ds : List Bool} (h : RefI E pr S o0 o (sB ds)) (hq : SqM n qs) (hr : ∀ a b, a < n → b < n → (gB qs a b = true ↔ Pp (InS E S) a b)) (hn : ∀ v, S v → v < n) (hS : S s) (hd : ¬ sB ds s) (hc : Cyc E S s)
  (h1 : IsRed E pr o3 (fun u => u < n ∧ (cmS qs s u && !decide (pr u = mxN pr (cmS qs s) n)) = true)) (hout : ∀ v, ¬ (v < n ∧ (cmS qs s v && !decide (pr v = mxN pr (cmS qs s) n)) = true) → o3 v = o v)
  (h5 : ∀ v, o5 v = if v < n ∧ (cmS qs s v && decide (pr v = mxN pr (cmS qs s) n)) = true then mxN o3 (fun u => cmS qs s u && !decide (pr u = mxN pr (cmS qs s) n)) n + (mxN o3 (fun u => cmS qs s u && !decide (pr u = mxN pr (cmS qs s) n)) n + mxN pr (cmS qs s) n) % 2 else o3 v) :
  RefI E pr S o0 o5 (sB (tabB n fun v => ds.getD v false || cmS qs s v)) := by
 have hcm := cmS_iff hq hr hn hS hc
 have hm : IsMax pr (Cmp E S s) (mxN pr (cmS qs s) n) := mxN_is hcm ⟨s, .refl hS⟩
 have eqv : ∀ v, (Cmp E S s v ∧ pr v < mxN pr (cmS qs s) n) ↔ v < n ∧ (cmS qs s v && !decide (pr v = mxN pr (cmS qs s) n)) = true := fun v => by
  rw [hcm v, Bool.and_eq_true, Bool.not_eq_true', decide_eq_false_iff_not]
  constructor
  ·rintro ⟨⟨h1, h2⟩, h3⟩; exact ⟨h1, h2, by omega⟩
  ·rintro ⟨h1, h2, h3⟩
   have := hm.2 v ((hcm v).2 ⟨h1, h2⟩)
   exact ⟨⟨h1, h2⟩, by omega⟩
 have eS : (fun u => Cmp E S s u ∧ pr u < mxN pr (cmS qs s) n) = fun u => u < n ∧ (cmS qs s u && !decide (pr u = mxN pr (cmS qs s) n)) = true := funext fun u => propext (eqv u)
 have hk : Max0 o3 (fun u => Cmp E S s u ∧ pr u < mxN pr (cmS qs s) n) (mxN o3 (fun u => cmS qs s u && !decide (pr u = mxN pr (cmS qs s) n)) n) := mxN_max0 eqv
 refine h.step hS hd hc hm (by rw [eS]; exact h1) (fun v hv => hout v fun g => hv ((eqv v).2 g)) hk (fun v hv hlt => ?_) (fun v hv => ?_) (fun v => ?_)
 ·have h2 := (hcm v).1 hv
  have h3 := hm.2 v hv
  rw [h5 v, if_pos ⟨h2.1, by rw [h2.2, Bool.true_and]; exact decide_eq_true (by omega)⟩]
 ·rw [h5 v, if_neg (fun g => hv ?_)]
  rw [Bool.and_eq_true, decide_eq_true_eq] at g
  exact ⟨(hcm v).2 ⟨g.1, g.2.1⟩, by omega⟩
 ·by_cases hv : v < n
  ·show (tabB n _).getD v false = true ↔ _
   rw [tabB_at hv, Bool.or_eq_true, hcm v]
   exact ⟨fun g => g.elim (fun g => .inr g) (fun g => .inl ⟨hv, g⟩), fun g => g.elim (fun g => .inr g.2) (fun g => .inl g)⟩
  ·show (tabB n _).getD v false = true ↔ _
   rw [tabB_out hv]
   refine ⟨fun g => (by cases g), fun g => absurd ?_ hv⟩
   rcases g with g | g
   ·exact hn v g.1
   ·exact hn v (h.sub v g)
theorem RefI.lone {E : Nat → Nat → Prop} {pr : Nat → Nat} {S : Nat → Prop} {o0 : Nat → Nat} {o : List Nat} {n s : Nat} {ds : List Bool} (h : RefI E pr S o0 (fn o) (sB ds)) (hl : ds.length = n) (ho : o.length = n) (hs : s < n) (hS : S s) (hd : ¬ sB ds s) (hc : ¬ Cyc E S s) : RefI E pr S o0 (fn (o.set s 0)) (sB (ds.set s true)) :=
 h.none hS hd hc (fun v => by
  unfold fn
  rw [List.getD_eq_getElem?_getD, List.getElem?_set]
  by_cases e : s = v
  ·subst e; rw [if_pos rfl, if_pos rfl, if_pos (by omega)]; rfl
  ·rw [if_neg e, if_neg (fun q => e q.symm), List.getD_eq_getElem?_getD]) (fun v => by
  show (ds.set s true).getD v false = true ↔ _
  rw [List.getD_eq_getElem?_getD, List.getElem?_set]
  by_cases e : s = v
  ·subst e; rw [if_pos rfl, if_pos (by omega)]; exact ⟨fun _ => .inl rfl, fun _ => rfl⟩
  ·rw [if_neg e]
   exact ⟨fun g => .inr (by show ds.getD v false = true; rw [List.getD_eq_getElem?_getD]; exact g), fun g => g.elim (fun q => absurd q.symm e) (fun g => by
    have g2 : ds.getD v false = true := g
    rwa [List.getD_eq_getElem?_getD] at g2)⟩)
theorem bools_rep (n : Nat) : bools (List.replicate n false) = List.replicate n (.bool false) := List.map_replicate
section
variable {n : Nat} {pr : Nat → Nat} {m : Nat} {ds : List Bool} {qs : List BRec} {s u : Nat}
theorem lt_step (v u : Nat) : decide (v < u + 1) = if v = u then true else decide (v < u) := by
 by_cases e : v = u
 ·rw [if_pos e]; exact decide_eq_true (by omega)
 ·rw [if_neg e]; exact decide_eq_decide.2 ⟨fun g => by omega, fun g => by omega⟩
end
end Go.Lx

