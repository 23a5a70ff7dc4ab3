/- Contracts of functions of the program (X1): what each call answers and that it leaves memory as it was. Conditions: those each theorem names. -/
import Derived.Test.YtnikhiohindggaaDoorYm
import Derived.Test.YtnikhiohindggaaDoorY5
set_option linter.unusedSectionVars false
set_option linter.unusedSimpArgs false
set_option linter.unusedVariables false
set_option linter.unnecessarySimpa false
set_option maxHeartbeats 8000000
set_option maxRecDepth 20000
namespace Go.Lx
def prodP (p q : Par) : Par := ⟨p.vars, 0, prNext p.d q.d, []⟩
theorem prodP_DE (p q : Par) : DE (prodP p q).d = DE (prG p q) := rfl
abbrev HasIJ (p q : Par) (i j : Nat) : Prop := HasD (prG p q) (alD p q i j) (fun v => decide (f1 p q v = i)) (fun v => decide (f2 q v = j))
def HitB (p q : Par) (i j : Nat) (ss : List Bool) (qs : List BRec) (v u : Nat) : Prop := sB ss v ∧ f1 p q v = i ∧ sB ss u ∧ f2 q u = j ∧ gB qs v u = true ∧ gB qs u v = true
section
variable {p q : Par} (hp : ValidP p) (hq : ValidP q) (hv : p.vars = q.vars)
include hp hq hv
theorem prG_val : Val (prG p q) := by
 have hpv := prod_val (f := fun _ _ => false) hp.val hq.val hv
 exact ⟨hp.val.v0, hp.val.v6, hpv.n0, by simp [prG, Par.d], hpv.s0, hpv.s1, hpv.len, hpv.ok⟩
theorem prodP_val : Val (prodP p q).d := by
 have h := prG_val hp hq hv
 refine ⟨h.v0, h.v6, h.n0, by simp [Par.d], Int.le_refl _, ?_, h.len, h.ok⟩
 have : 0 < (prG p q).next.length := h.n0
 show (0 : Int) < ((prG p q).next.length : Int)
 omega
theorem prG_stN : (prG p q).start.toNat = p.start.toNat * q.next.length + q.start.toNat := Int.toNat_natCast _
theorem prG_st : p.start.toNat * q.next.length + q.start.toNat < p.next.length * q.next.length := pr_lt hp.st hq.st
theorem ins_lt {al : Nat → Bool} {v : Nat} (h : Ins (prG p q) al v) : v < p.next.length * q.next.length := by
 rw [← prG_len hp hq hv]
 refine Rch.closed (S := fun v => v < (prG p q).next.length) (fun u v _ e => DE_lt (prG_val hp hq hv) u v e) h.1 ?_
 rw [prG_len hp hq hv, prG_stN hp hq hv]; exact prG_st hp hq hv
theorem has_iff {i j : Nat} {ss : List Bool} {qs : List BRec} (hS : ∀ v, sB ss v ↔ Ins (prG p q) (alD p q i j) v)
  (hg : ∀ a b, a < p.next.length * q.next.length → b < p.next.length * q.next.length → (gB qs a b = true ↔ Pp (InS (DE (prodP p q).d) (sB ss)) a b)) :
  HasIJ p q i j ↔ ∃ v u, v < p.next.length * q.next.length ∧ u < p.next.length * q.next.length ∧ HitB p q i j ss qs v u := by
 have e : sB ss = Ins (prG p q) (alD p q i j) := funext fun v => propext (hS v)
 rw [prodP_DE] at hg
 constructor
 ·rintro ⟨v, u, h1, h2, h3, h4, h5⟩
  have hv1 := ins_lt hp hq hv h1
  have hu1 := ins_lt hp hq hv h2.1
  obtain ⟨g1, g2⟩ := (cmp_pp h1 h3).1 h2
  exact ⟨v, u, hv1, hu1, (hS v).2 h1, of_decide_eq_true h4, (hS u).2 h2.1, of_decide_eq_true h5, (hg v u hv1 hu1).2 (by rw [e]; exact g1), (hg u v hu1 hv1).2 (by rw [e]; exact g2)⟩
 ·rintro ⟨v, u, hv1, hu1, h1, h2, h3, h4, h5, h6⟩
  have g1 := (hg v u hv1 hu1).1 h5
  have g2 := (hg u v hu1 hv1).1 h6
  rw [e] at g1 g2
  have hc : Cyc (DE (prG p q)) (Ins (prG p q) (alD p q i j)) v := g1.trans g2
  exact ⟨v, u, (hS v).1 h1, (cmp_pp ((hS v).1 h1) hc).2 ⟨g1, g2⟩, hc, decide_eq_true h2, decide_eq_true h4⟩
structure FromI (p q : Par) (xs : List Bool) : Prop where
 len : xs.length = p.next.length * q.next.length
 at_ : ∀ v, v < p.next.length * q.next.length → (xs.getD v false = true ↔ Rch (DE (prG p q)) (prG p q).start.toNat v)
omit hp hq hv in
theorem pp_all {E : Nat → Nat → Prop} {S : Nat → Prop} (h : ∀ u v, E u v → S u ∧ S v) {a b : Nat} : Pp (InS E S) a b ↔ Pp E a b := by
 have e : InS E S = E := funext fun u => funext fun v => propext ⟨fun g => g.1, fun g => ⟨g, h u v g⟩⟩
 rw [e]
theorem FromI.of {qs : List BRec} {st : Nat} (he : st = p.start.toNat * q.next.length + q.start.toNat) (hSq : SqM (p.next.length * q.next.length) qs) (hi : st < qs.length)
  (hg : ∀ a b, a < p.next.length * q.next.length → b < p.next.length * q.next.length → (gB qs a b = true ↔ Pp (InS (DE (prodP p q).d) (sB (tabB (p.next.length * q.next.length) fun _ => true))) a b)) : FromI p q (qs[st].xs.set st true) := by
 have hl := hSq.row _ (List.getElem_mem hi)
 have hN := prG_len hp hq hv
 refine ⟨by rw [List.length_set]; exact hl, fun v hv1 => ?_⟩
 have hst : st < p.next.length * q.next.length := he ▸ prG_st hp hq hv
 rw [prG_stN hp hq hv, ← he, List.getD_eq_getElem?_getD, List.getElem?_set]
 by_cases e : st = v
 ·subst e
  rw [if_pos rfl, if_pos (by omega)]
  exact ⟨fun _ => .refl _, fun _ => rfl⟩
 ·rw [if_neg e, ← List.getD_eq_getElem?_getD]
  have h1 : qs[st].xs.getD v false = gB qs st v := by unfold gB; rw [List.getElem?_eq_getElem hi]; rfl
  rw [h1, hg st v hst hv1, prodP_DE, pp_all fun a b h9 => ⟨by
   show (tabB _ _).getD a false = true
   rw [tabB_at (by rw [← hN]; exact h9.1)], by
   show (tabB _ _).getD b false = true
   rw [tabB_at (by rw [← hN]; exact DE_lt (prG_val hp hq hv) a b h9)]⟩]
  constructor
  ·exact fun h => h.rch
  ·intro h
   cases h with
   | refl => exact absurd rfl e
   | step a b => exact ⟨_, a, b⟩
structure SetI (p q : Par) (i j : Nat) (xs ss : List Bool) (v : Nat) : Prop where
 len : ss.length = p.next.length * q.next.length
 at_ : ∀ u, u < v → u < p.next.length * q.next.length → (ss.getD u false = true ↔ xs.getD u false = true ∧ alD p q i j u = true)
omit hp hq hv in
theorem SetI.start {i j : Nat} {xs ss : List Bool} (h : ss.length = p.next.length * q.next.length) : SetI p q i j xs ss 0 := ⟨h, fun u h9 => absurd h9 (Nat.not_lt_zero _)⟩
omit hp hq hv in
theorem SetI.step {i j v : Nat} {xs ss : List Bool} {b : Bool} (h : SetI p q i j xs ss v) (hb : b = true ↔ xs.getD v false = true ∧ f1 p q v ≤ i ∧ f2 q v ≤ j) : SetI p q i j xs (ss.set v b) (v + 1) :=
 ⟨by rw [List.length_set]; exact h.len, fun u hu hn => by
  rw [List.getD_eq_getElem?_getD, List.getElem?_set]
  by_cases e : v = u
  ·subst e
   rw [if_pos rfl, if_pos (by rw [h.len]; exact hn), Option.getD_some, hb]
   unfold alD; rw [Bool.and_eq_true, decide_eq_true_iff, decide_eq_true_iff]
  ·rw [if_neg e, ← List.getD_eq_getElem?_getD]
   exact h.at_ u (by omega) hn⟩
theorem SetI.ins {i j v : Nat} {xs ss : List Bool} (h : SetI p q i j xs ss v) (hn : p.next.length * q.next.length ≤ v) (hx : FromI p q xs) (u : Nat) : sB ss u ↔ Ins (prG p q) (alD p q i j) u := by
 by_cases e : u < p.next.length * q.next.length
 ·show ss.getD u false = true ↔ _
  rw [h.at_ u (by omega) e, hx.at_ u e]; exact Iff.rfl
 ·constructor
  ·intro g
   have g : ss.getD u false = true := g
   rw [List.getD_eq_getElem?_getD, List.getElem?_eq_none (by rw [h.len]; omega)] at g
   cases g
  ·intro g; exact absurd (ins_lt hp hq hv g) e
omit hp hq hv in
def VuI (p q : Par) (i j : Nat) (ss : List Bool) (qs : List BRec) (v u : Nat) : Prop := ∀ a b, a < p.next.length * q.next.length → b < p.next.length * q.next.length → (a < v ∨ a = v ∧ b < u) → ¬ HitB p q i j ss qs a b
omit hp hq hv in
theorem VuI.start {i j : Nat} {ss : List Bool} {qs : List BRec} : VuI p q i j ss qs 0 0 := fun a b _ _ h => by omega
omit hp hq hv in
theorem VuI.step {i j v u : Nat} {ss : List Bool} {qs : List BRec} (h : VuI p q i j ss qs v u) (hn : ¬ HitB p q i j ss qs v u) : VuI p q i j ss qs v (u + 1) := fun a b ha hb h9 => by
 by_cases e : a = v ∧ b = u
 ·obtain ⟨rfl, rfl⟩ := e; exact hn
 ·exact h a b ha hb (by omega)
omit hp hq hv in
theorem VuI.next {i j v u : Nat} {ss : List Bool} {qs : List BRec} (h : VuI p q i j ss qs v u) (hn : p.next.length * q.next.length ≤ u ∨ ¬ (sB ss v ∧ f1 p q v = i)) : VuI p q i j ss qs (v + 1) 0 := fun a b ha hb h9 => by
 by_cases e : a = v
 ·subst e
  rcases hn with hn | hn
  ·exact h _ b ha hb (.inr ⟨rfl, by omega⟩)
  ·exact fun g => hn ⟨g.1, g.2.1⟩
 ·exact h a b ha hb (by omega)
omit hp hq hv in
def DifI (p q : Par) (i j : Nat) : Prop := ∀ a b, a % 2 ≠ b % 2 → a ≤ 16 → b ≤ 16 → (a < i ∨ a = i ∧ b < j) → (a : Int) ∈ p.prio → (b : Int) ∈ q.prio → ¬ HasIJ p q a b
omit hp hq hv in
theorem DifI.start : DifI p q 0 0 := fun a b _ _ _ h => by omega
omit hp hq hv in
theorem DifI.first {i : Nat} (h : DifI p q i 0) : DifI p q i (1 - i % 2) := fun a b hne ha hb h9 => by
 by_cases e : a < i
 ·exact h a b hne ha hb (.inl e)
 ·omega
omit hp hq hv in
theorem DifI.step {i j : Nat} (h : DifI p q i j) (hij : i % 2 ≠ j % 2) (hn : (i : Int) ∈ p.prio → (j : Int) ∈ q.prio → ¬ HasIJ p q i j) : DifI p q i (j + 2) := fun a b hne ha hb h9 => by
 by_cases e : a = i ∧ b = j
 ·obtain ⟨rfl, rfl⟩ := e; exact hn
 ·exact h a b hne ha hb (by omega)
omit hp hq hv in
theorem DifI.next {i j : Nat} (h : DifI p q i j) (hj : 16 < j) : DifI p q (i + 1) 0 := fun a b hne ha hb h9 => h a b hne ha hb (by omega)
omit hp hq hv in
theorem DifI.done {i : Nat} (h : DifI p q i 0) (hi : 16 < i) : ¬ differP p q := fun ⟨a, b, h1, h2, h3, h4, h5, h6⟩ => h a b h1 h2 h3 (.inl (by omega)) h4 h5 h6
omit hp hq hv in
theorem vu_fin {i j v : Nat} {ss : List Bool} {qs : List BRec} (h : VuI p q i j ss qs v 0) (hn : p.next.length * q.next.length ≤ v) : ¬ ∃ v u, v < p.next.length * q.next.length ∧ u < p.next.length * q.next.length ∧ HitB p q i j ss qs v u := fun ⟨a, b, ha, hb, hh⟩ => h a b ha hb (.inl (by omega)) hh
end
theorem bsub_take {E : TypeId} {qs : List BRec} {c : Nat} (h : c < qs.length) (A B : List Item) : Sub (rowI qs[c].b qs[c].c E 1 (bools qs[c].xs) :: (A ++ B)) (A ++ (bitms E qs ++ B)) := by
 refine Sub.of_perm (D := bitms E (qs.eraseIdx c)) ?_
 have h1 := bitmsK_out (E := E) h
 have h2 : (A ++ (bitms E qs ++ B)).Perm (A ++ ((qs[c].itm E :: bitms E (qs.eraseIdx c)) ++ B)) := (h1.append_right B).append_left A
 refine List.Perm.trans ?_ h2.symm
 show (qs[c].itm E :: ((A ++ B) ++ bitms E (qs.eraseIdx c))).Perm (A ++ (qs[c].itm E :: (bitms E (qs.eraseIdx c) ++ B)))
 refine List.Perm.trans ?_ List.perm_middle.symm
 refine List.Perm.cons _ ?_
 rw [List.append_assoc]
 exact (List.perm_append_comm).append_left A
section
variable {p q : Par}
theorem prN_take {s t : Nat} (hs : s < p.next.length) (ht : t < q.next.length) : (prNext p.d q.d).take (s * q.next.length + t + 1) = (prNext p.d q.d).take (s * q.next.length + t) ++ [prRow p.d q.d s t] := by
 rw [List.take_add_one]
 rw [show (prNext p.d q.d)[s * q.next.length + t]? = some (prRow p.d q.d s t) from prNext_at hs ht]; rfl
theorem prR_take {s t x : Nat} (hx : x < letN p.d) : (prRow p.d q.d s t).take (x + 1) = (prRow p.d q.d s t).take x ++ [((toN p.d s x * q.next.length + toN q.d t x : Nat) : Int)] := by
 rw [List.take_add_one, prRow_at hx]; rfl
theorem prR_full (s t : Nat) {x : Nat} (hx : letN p.d ≤ x) : (prRow p.d q.d s t).take x = prRow p.d q.d s t := List.take_of_length_le (by rw [prRow_len]; exact hx)
theorem prR_ints {s t x : Nat} (hx : x < letN p.d) : ints ((prRow p.d q.d s t).take x) ++ [.int .i64 ((toN p.d s x * q.next.length + toN q.d t x : Nat) : Int)] = ints ((prRow p.d q.d s t).take (x + 1)) := by
 rw [prR_take hx, ints, ints, List.map_append]; rfl
theorem prodP_len (p q : Par) : (prodP p q).next.length = p.next.length * q.next.length := prNext_len _ _
theorem prN_full {v : Nat} (h : p.next.length * q.next.length ≤ v) : (prNext p.d q.d).take v = (prodP p q).next := List.take_of_length_le (by rw [prNext_len]; exact h)
end
end Go.Lx

