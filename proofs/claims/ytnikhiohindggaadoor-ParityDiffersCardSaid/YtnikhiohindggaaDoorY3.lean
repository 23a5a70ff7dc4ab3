/- Contracts of functions of the program (Y3): what each call answers and that it leaves memory as it was. Conditions: those each theorem names. -/
import Derived.Test.YtnikhiohindggaaDoorZ7
import Derived.Test.YtnikhiohindggaaDoorEnd
import Derived.Test.YtnikhiohindggaaDoorYs
set_option linter.unusedSectionVars false
set_option linter.unusedSimpArgs false
set_option linter.unusedVariables false
set_option linter.unnecessarySimpa false
set_option maxHeartbeats 8000000
set_option maxRecDepth 20000
namespace Go.Lx
open Go.RowKit
theorem bitmsK_out {E : TypeId} : ∀ {qs : List BRec} {c : Nat} (h : c < qs.length), (bitms E qs).Perm (qs[c].itm E :: bitms E (qs.eraseIdx c))
 | q :: qs, 0, _ => by simp
 | q :: qs, c + 1, h => by
  have ih := bitmsK_out (E := E) (qs := qs) (c := c) (by simpa using h)
  simp only [bitms, List.map_cons, List.eraseIdx_cons_succ, List.getElem_cons_succ] at ih ⊢
  exact (ih.cons _).trans (List.Perm.swap _ _ _)
theorem bsubK_perm {E : TypeId} {qs : List BRec} {c : Nat} (h : c < qs.length) (X : List Item) : (X ++ bitms E qs).Perm (qs[c].itm E :: (X ++ bitms E (qs.eraseIdx c))) :=
 ((bitmsK_out h).append_left X).trans List.perm_middle
theorem bsubK_out {E : TypeId} {qs : List BRec} {c : Nat} (h : c < qs.length) (X : List Item) : Sub (rowI qs[c].b qs[c].c E 1 (bools qs[c].xs) :: (X ++ bitms E (qs.eraseIdx c))) (X ++ bitms E qs) :=
 ⟨X ++ bitms E qs, (bsubK_perm h X).symm, List.Sublist.refl _⟩
theorem bsubK_in {E : TypeId} {qs : List BRec} {c : Nat} (h : c < qs.length) (X : List Item) (q : BRec) : Sub (X ++ bitms E (qs.set c q)) (rowI q.b q.c E 1 (bools q.xs) :: (X ++ bitms E (qs.eraseIdx c))) := by
 have h1 := bsubK_perm (E := E) (qs := qs.set c q) (c := c) (by simpa using h) X
 rw [List.getElem_set_self, List.eraseIdx_set_eq] at h1
 exact ⟨_, h1, List.Sublist.refl _⟩
theorem brow_at {E : TypeId} {qs : List BRec} {c : Nat} (h : c < qs.length) {X : List Item} : rowI qs[c].b qs[c].c E 1 (bools qs[c].xs) ∈ X ++ bitms E qs := List.mem_append_right _ (List.mem_map.2 ⟨qs[c], List.getElem_mem h, rfl⟩)
theorem brow_any {E : TypeId} {qs : List BRec} {i k : Nat} (hi : i < qs.length) (hk : k < qs.length) (X : List Item) : rowI qs[k].b qs[k].c E 1 (bools qs[k].xs) ∈ rowI qs[i].b qs[i].c E 1 (bools qs[i].xs) :: (X ++ bitms E (qs.eraseIdx i)) :=
 (bsubK_perm (E := E) hi X).mem_iff.1 (brow_at hk)
theorem bvalsK_at {qs : List BRec} {c : Nat} (h : c < qs.length) : (bvals qs)[c]? = some (.slice qs[c].b qs[c].xs.length qs[c].c) := by simp [h, BRec.val]
theorem bvals_same {qs : List BRec} {c : Nat} (h : c < qs.length) {xs : List Bool} (hl : xs.length = qs[c].xs.length) : bvals (qs.set c ⟨qs[c].b, qs[c].c, xs⟩) = bvals qs := by
 apply List.ext_getElem?
 intro i
 rw [List.getElem?_map, List.getElem?_map, List.getElem?_set]
 split
 ·rename_i e; subst e
  rw [List.getElem?_eq_getElem h]
  show some (Value.slice qs[c].b xs.length qs[c].c) = some (Value.slice qs[c].b qs[c].xs.length qs[c].c)
  rw [hl]
 ·rfl
abbrev sB (ss : List Bool) : Nat → Prop := fun v => ss.getD v false = true
theorem bools_atD {l : List Bool} {i : Nat} (h : i < l.length) : (bools l)[i]? = some (.bool (l.getD i false)) := by
 rw [List.getElem?_map, List.getElem?_eq_getElem h, List.getD_eq_getElem?_getD, List.getElem?_eq_getElem h]; rfl
def gB (qs : List BRec) (a b : Nat) : Bool := (qs[a]?.map BRec.xs |>.getD []).getD b false
structure SqM (n : Nat) (qs : List BRec) : Prop where
 len : qs.length = n
 row : ∀ q ∈ qs, q.xs.length = n
theorem gB_at {qs : List BRec} {a b : Nat} (ha : a < qs.length) (hb : b < qs[a].xs.length) : gB qs a b = qs[a].xs[b] := by
 unfold gB
 rw [List.getElem?_eq_getElem ha]
 show qs[a].xs.getD b false = _
 rw [List.getD_eq_getElem?_getD, List.getElem?_eq_getElem hb]; rfl
theorem bools_gB {qs : List BRec} {a b : Nat} (ha : a < qs.length) (hb : b < qs[a].xs.length) : (bools qs[a].xs)[b]? = some (.bool (gB qs a b)) := by
 rw [gB_at ha hb, List.getElem?_map, List.getElem?_eq_getElem hb]; rfl
theorem gB_set {qs : List BRec} {i j : Nat} (hi : i < qs.length) (hj : j < qs[i].xs.length) (v : Bool) (a b : Nat) : gB (qs.set i ⟨qs[i].b, qs[i].c, qs[i].xs.set j v⟩) a b = if a = i ∧ b = j then v else gB qs a b := by
 unfold gB
 rw [List.getElem?_set]
 by_cases ha : a = i
 ·subst ha
  rw [if_pos rfl, if_pos hi, List.getElem?_eq_getElem hi]
  show (qs[a].xs.set j v).getD b false = if a = a ∧ b = j then v else qs[a].xs.getD b false
  rw [List.getD_eq_getElem?_getD, List.getElem?_set, List.getD_eq_getElem?_getD]
  by_cases hb : b = j
  ·subst hb; rw [if_pos rfl, if_pos hj, if_pos ⟨rfl, rfl⟩]; rfl
  ·rw [if_neg (fun e => hb e.symm), if_neg (fun q => hb q.2)]
 ·rw [if_neg (fun e => ha e.symm), if_neg (fun q => ha q.1)]
theorem SqM.set {n : Nat} {qs : List BRec} (h : SqM n qs) {i j : Nat} (hi : i < qs.length) (v : Bool) : SqM n (qs.set i ⟨qs[i].b, qs[i].c, qs[i].xs.set j v⟩) :=
 ⟨by rw [List.length_set]; exact h.len, fun q hq => by
  rcases List.mem_or_eq_of_mem_set hq with hq | rfl
  ·exact h.row q hq
  ·show (qs[i].xs.set j v).length = n
   rw [List.length_set]; exact h.row _ (List.getElem_mem hi)⟩
structure EdI (d : DFA) (S : Nat → Prop) (n s x : Nat) (xs : List Bool) : Prop where
 len : xs.length = n
 at_ : ∀ b, xs.getD b false = true ↔ ∃ y, y < x ∧ S s ∧ S (toN d s y) ∧ toN d s y = b
theorem EdI.start (d : DFA) (S : Nat → Prop) (n s : Nat) : EdI d S n s 0 (List.replicate n false) :=
 ⟨by simp, fun b => ⟨fun h => (by
  rw [List.getD_eq_getElem?_getD, List.getElem?_replicate] at h
  split at h
  ·cases h
  ·cases h), fun ⟨y, h, _⟩ => by omega⟩⟩
theorem EdI.yes {d : DFA} {S : Nat → Prop} {n s x : Nat} {xs : List Bool} (h : EdI d S n s x xs) (h1 : S s) (h2 : S (toN d s x)) (hb : toN d s x < n) : EdI d S n s (x + 1) (xs.set (toN d s x) true) :=
 ⟨by rw [List.length_set]; exact h.len, fun b => by
  rw [List.getD_eq_getElem?_getD, List.getElem?_set]
  by_cases e : toN d s x = b
  ·rw [if_pos e, if_pos (by rw [h.len]; exact hb)]
   exact ⟨fun _ => ⟨x, by omega, h1, h2, e⟩, fun _ => rfl⟩
  ·rw [if_neg e, ← List.getD_eq_getElem?_getD, h.at_]
   exact ⟨fun ⟨y, q, r⟩ => ⟨y, by omega, r⟩, fun ⟨y, q, r⟩ => ⟨y, by
    by_cases e2 : y = x
    ·subst e2; exact absurd r.2.2 e
    ·omega, r⟩⟩⟩
theorem EdI.no {d : DFA} {S : Nat → Prop} {n s x : Nat} {xs : List Bool} (h : EdI d S n s x xs) (h1 : ¬ (S s ∧ S (toN d s x))) : EdI d S n s (x + 1) xs :=
 ⟨h.len, fun b => by
  rw [h.at_]
  exact ⟨fun ⟨y, q, r⟩ => ⟨y, by omega, r⟩, fun ⟨y, q, r⟩ => ⟨y, by
   by_cases e2 : y = x
   ·subst e2; exact absurd ⟨r.1, r.2.1⟩ h1
   ·omega, r⟩⟩⟩
structure RchI (d : DFA) (S : Nat → Prop) (n s : Nat) (qs : List BRec) : Prop where
 len : qs.length = s
 row : ∀ q ∈ qs, q.xs.length = n
 at_ : ∀ a, a < s → ∀ b, gB qs a b = true ↔ InS (DE d) S a b
theorem RchI.start (d : DFA) (S : Nat → Prop) (n : Nat) : RchI d S n 0 [] := ⟨rfl, fun q hq => (List.not_mem_nil hq).elim, fun a ha => by omega⟩
theorem RchI.snoc {d : DFA} {S : Nat → Prop} {n s x : Nat} {qs : List BRec} {xs : List Bool} (h : RchI d S n s qs) (hs : s < d.next.length) (hx : letN d ≤ x) (hx2 : x ≤ letN d) (e : EdI d S n s x xs) (b : Option Addr) (c : Nat) : RchI d S n (s + 1) (qs ++ [⟨b, c, xs⟩]) :=
 ⟨by rw [List.length_append, h.len]; rfl, fun q hq => by
  rcases List.mem_append.1 hq with hq | hq
  ·exact h.row q hq
  ·rw [List.mem_singleton.1 hq]; exact e.len, fun a ha b9 => by
  by_cases e9 : a = s
  ·subst e9
   have h1 : gB (qs ++ [⟨b, c, xs⟩]) a b9 = xs.getD b9 false := by
    unfold gB
    rw [List.getElem?_append_right (by rw [h.len]; exact Nat.le_refl _), h.len, Nat.sub_self]; rfl
   rw [h1, e.at_]
   exact ⟨fun ⟨y, q, r1, r2, r3⟩ => ⟨⟨hs, y, by omega, r3⟩, r1, r3 ▸ r2⟩, fun ⟨⟨_, y, q, r3⟩, r1, r2⟩ => ⟨y, by omega, r1, r3 ▸ r2, r3⟩⟩
  ·have h1 : gB (qs ++ [⟨b, c, xs⟩]) a b9 = gB qs a b9 := by
    unfold gB
    rw [List.getElem?_append_left (by rw [h.len]; omega)]
   rw [h1]; exact h.at_ a (by omega) b9⟩
theorem RchI.war {d : DFA} {S : Nat → Prop} {n : Nat} {qs : List BRec} (h : RchI d S n n qs) : SqM n qs ∧ WarI (InS (DE d) S) n 0 0 0 (gB qs) :=
 ⟨⟨h.len, h.row⟩, WarI.start (fun a b e => by
  by_cases ha : a < n
  ·exact (h.at_ a ha b).1 e
  ·unfold gB at e
   rw [List.getElem?_eq_none (by rw [h.len]; omega)] at e
   cases e) (fun a b ha hb e => (h.at_ a ha b).2 e)⟩
structure ValG (p : Par) : Prop where
 val : Val p.d
 n4 : p.next.length ≤ 4096
theorem ValidP.g {p : Par} (h : ValidP p) : ValG p := ⟨h.val, h.n4⟩
theorem ValG.letN6 {p : Par} (h : ValG p) : letN p.d ≤ 64 := by
 have h6 := h.val.v6
 have h0 := h.val.v0
 show 2 ^ p.d.vars.toNat ≤ 2 ^ 6
 exact Nat.pow_le_pow_right (by decide) (by omega)
theorem ValG.to {p : Par} (h : ValG p) {s x : Nat} (hs : s < p.next.length) (hx : x < letN p.d) : toN p.d s x < p.next.length ∧ ∃ hk : x < p.next[s].length, (ints p.next[s])[x]? = some (.int .i64 ((toN p.d s x : Nat) : Int)) ∧ p.next[s][x] = ((toN p.d s x : Nat) : Int) := by
 obtain ⟨h1, _, h3, h4⟩ := h.val.toN_lt (show s < p.d.next.length from hs) hx
 have e := ints_get (xs := p.d.next[s]) h3
 rw [h4] at e
 exact ⟨h1, h3, e, h4⟩
end Go.Lx

