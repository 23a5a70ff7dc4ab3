/- Contracts of functions of the program (Y8): what each call answers and that it leaves memory as it was. Conditions: those each theorem names. -/
import Derived.Test.YtnikhiohindggaaDoorY5
set_option linter.unusedSectionVars false
set_option linter.unusedSimpArgs false
set_option linter.unusedVariables false
set_option linter.unnecessarySimpa false
set_option maxHeartbeats 8000000
set_option maxRecDepth 20000
namespace Go.Lx
structure BisI (p : Par) (qs : List BRec) : Prop where
 sq : SqM p.next.length qs
 sound : ∀ s t, s < p.next.length → t < p.next.length → Bis p p s t → gB qs s t = true
 prio : ∀ s t, s < p.next.length → t < p.next.length → gB qs s t = true → prN p s = prN p t
theorem BisI.done {p : Par} (hp : ValidP p) {qs : List BRec} (h : BisI p qs) (hc : ∀ s t x, s < p.next.length → t < p.next.length → gB qs s t = true → x < letN p.d → gB qs (toN p.d s x) (toN p.d t x) = true) : BisB p (gB qs) := fun s t hs ht =>
 ⟨fun e => bis_of (R := fun s t => s < p.next.length ∧ t < p.next.length ∧ gB qs s t = true) (fun s t h9 => h.prio s t h9.1 h9.2.1 h9.2.2)
  (fun s t x h9 hx => ⟨(hp.val.toN_lt h9.1 hx).1, (hp.val.toN_lt h9.2.1 hx).1, hc s t x h9.1 h9.2.1 h9.2.2 hx⟩) ⟨hs, ht, e⟩, fun e => h.sound s t hs ht e⟩
theorem BisI.clear {p : Par} (hp : ValidP p) {qs : List BRec} (h : BisI p qs) {s t x : Nat} (hs : s < p.next.length) (ht : t < p.next.length) (hx : x < letN p.d) (hno : ¬ gB qs (toN p.d s x) (toN p.d t x) = true) (hi : s < qs.length) (hj : t < qs[s].xs.length) : BisI p (qs.set s ⟨qs[s].b, qs[s].c, qs[s].xs.set t false⟩) :=
 ⟨h.sq.set hi false, fun a b ha hb e => by
  rw [gB_set hi hj]
  split
  ·rename_i q
   obtain ⟨rfl, rfl⟩ := q
   exact absurd (h.sound _ _ (hp.val.toN_lt hs hx).1 (hp.val.toN_lt ht hx).1 (e.step hx)) hno
  ·exact h.sound a b ha hb e, fun a b ha hb e => by
  rw [gB_set hi hj] at e
  split at e
  ·cases e
  ·exact h.prio a b ha hb e⟩
noncomputable def cntB (n : Nat) (qs : List BRec) : Nat := cardS (n * n) (fun v => gB qs (v / n) (v % n) = true)
theorem cntB_lt {n s t : Nat} {qs : List BRec} (hs : s < n) (ht : t < n) (hi : s < qs.length) (hj : t < qs[s].xs.length) (e : gB qs s t = true) : cntB n (qs.set s ⟨qs[s].b, qs[s].c, qs[s].xs.set t false⟩) < cntB n qs := by
 have hd : (s * n + t) / n = s := by rw [Nat.mul_comm, Nat.mul_add_div (by omega), Nat.div_eq_of_lt ht, Nat.add_zero]
 have hm : (s * n + t) % n = t := by rw [Nat.mul_comm, Nat.mul_add_mod, Nat.mod_eq_of_lt ht]
 refine cardS_lt (a := s * n + t) (fun u hu => ?_) ?_ ?_ (fun g => ?_)
 ·rw [gB_set hi hj] at hu
  split at hu
  ·cases hu
  ·exact hu
 ·have h1 : (s + 1) * n ≤ n * n := Nat.mul_le_mul_right n hs
  rw [Nat.succ_mul] at h1; omega
 ·show gB qs ((s * n + t) / n) ((s * n + t) % n) = true
  rw [hd, hm]; exact e
 ·rw [hd, hm, gB_set hi hj, if_pos ⟨rfl, rfl⟩] at g; cases g
end Go.Lx

