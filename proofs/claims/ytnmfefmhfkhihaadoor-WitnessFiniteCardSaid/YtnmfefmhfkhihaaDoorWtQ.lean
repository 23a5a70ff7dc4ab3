/- Contracts of functions of the program (WtQ): what each call answers and that it leaves memory as it was. Conditions: those each theorem names. -/
import Derived.Test.YtnmfefmhfkhihaaDoorWtO
import Derived.Test.YtnmfefmhfkhihaaDoorC1
set_option linter.unusedSectionVars false
set_option linter.unusedSimpArgs false
set_option linter.unusedVariables false
set_option linter.unnecessarySimpa false
namespace Go.Lx
open Go.RowKit
set_option linter.unusedVariables false
section
variable {P : Program} {base : World} {ρ : Env} {O : List Item} {dst : Option Nat} {t : TypeId} {p : String} {af : Array Edge} {g : Option (Nat × Bool)}
end
structure NotOf (a M : DFA) : Prop where
  valid : Valid M
  vars : M.vars = a.vars
  acc : ∀ w, Wd a w → acc M w = !Lx.acc a w
theorem not_of {a : DFA} (hv : Valid a) (hn : a.next.length ≤ 12) : NotOf a (opV notB a a) := by
  have h := ((HasL.of hv hn).not (by decide)).toHasL
  rw [opV_ok (by rw [wrongD_self]; exact checkD_zero.2 hv)]
  exact ⟨h.valid, h.vars, fun w hw => h.acc w hw⟩
theorem bd_valid {a : DFA} (h : Valid a) : Bd9 a := ⟨by have := h.n4; omega, h.bound, by have := h.fin; have := h.n4; omega⟩
def stD (v : Int) (L n : Nat) : DFA := ⟨v, 0, (List.range (2 * n + 1)).map fun s => List.replicate L ((min (s + 1) (2 * n) : Nat) : Int), (List.range (2 * n + 1)).map fun s => decide (n ≤ s) && decide (s < 2 * n)⟩
theorem st_valid {v : Int} {L n : Nat} (h0 : 0 ≤ v) (h6 : v ≤ 6) (hL : L = 2 ^ v.toNat) (hn : n ≤ 12) : Valid (stD v L n) where
  v0 := h0
  v6 := h6
  n0 := by simp [stD]
  fin := by simp [stD]
  s0 := Int.le_refl _
  s1 := by simp [stD]; omega
  len r hr := by
    obtain ⟨s, _, rfl⟩ := List.mem_map.1 hr
    rw [List.length_replicate]; exact hL
  ok r hr x hx := by
    obtain ⟨s, hs, rfl⟩ := List.mem_map.1 hr
    have hx' := (List.mem_replicate.1 hx).2
    have := List.mem_range.1 hs
    simp [stD]; omega
  n4 := by simp [stD]; omega
theorem st_to {v : Int} {L n s x : Nat} (hs : s ≤ 2 * n) (hx : x < L) : toN (stD v L n) s x = min (s + 1) (2 * n) := by
  unfold toN stD
  simp [List.getD_eq_getElem?_getD, List.getElem?_range (show s < 2 * n + 1 by omega), hx]
theorem st_fin {v : Int} {L n s : Nat} (hs : s ≤ 2 * n) : finN (stD v L n) s = (decide (n ≤ s) && decide (s < 2 * n)) := by
  unfold finN stD
  simp [List.getD_eq_getElem?_getD, List.getElem?_range (show s < 2 * n + 1 by omega)]
theorem st_run {v : Int} {L n : Nat} (hL : L = 2 ^ v.toNat) : ∀ (u : List Nat) (s : Nat), s ≤ 2 * n → Wd (stD v L n) u → runN (stD v L n) s u = min (s + u.length) (2 * n)
  | [], s, hs, _ => by simp [runN]; omega
  | x :: u, s, hs, hw => by
    have hw' := Wd.cons.1 hw
    have hx : x < L := by have := hw'.1; unfold letN at this; rw [hL]; exact this
    rw [runN_cons, st_to hs hx, st_run hL u _ (by omega) hw'.2]
    simp only [List.length_cons]; omega
theorem st_acc {v : Int} {L n : Nat} (hL : L = 2 ^ v.toNat) {u : List Nat} (hw : Wd (stD v L n) u) : acc (stD v L n) u = (decide (n ≤ u.length) && decide (u.length < 2 * n)) := by
  unfold acc
  rw [st_run hL u _ (by simp [stD]) hw, st_fin (by omega)]
  have : (stD v L n).start.toNat = 0 := rfl
  rw [this, Nat.zero_add]
  by_cases h : u.length < 2 * n
  · rw [Nat.min_eq_left (by omega)]
  · have h1 : min u.length (2 * n) = 2 * n := by omega
    rw [h1]; simp [h]
theorem both_empty {a T P : DFA} (hv : Valid a) (hT : T = stD a.vars (letN a) a.next.length) (hP : ∀ w, Wd a w → acc P w = (acc a w && acc T w)) (hPv : P.vars = a.vars) : (∀ u, Wd P u → acc P u = false) ↔ ¬ InfC a a.start.toNat := by
  subst hT
  have hW : ∀ u, Wd P u ↔ Wd a u := fun u => by unfold Wd letN; rw [hPv]
  rw [inf_iff hv.toVal (start_lt hv.toVal)]
  constructor
  · rintro h ⟨z, h1, h2, h3, h4⟩
    have h5 := h z ((hW z).2 h1)
    rw [hP z h1, st_acc rfl (show Wd (stD a.vars (letN a) a.next.length) z from h1)] at h5
    have h6 : acc a z = true := h2
    rw [h6] at h5; simp at h5; omega
  · intro h u hu
    have hu' := (hW u).1 hu
    rw [hP u hu', st_acc rfl (show Wd (stD a.vars (letN a) a.next.length) u from hu')]
    cases hc : acc a u with
    | false => rfl
    | true =>
      by_cases h1 : a.next.length ≤ u.length
      · by_cases h2 : u.length < 2 * a.next.length
        · exact absurd ⟨u, hu', hc, h1, h2⟩ h
        · simp [h2]
      · simp [h1]
theorem flag_eq {P Q : Prop} {b1 b2 : Bool} (h1 : b1 = true ↔ P) (h2 : b2 = true ↔ Q) (h : P ↔ Q) : b1 = b2 := by
  have := h1.trans (h.trans h2.symm)
  cases b1 <;> cases b2 <;> simp_all
theorem not_all {a M : DFA} (hv : Valid a) (hM : NotOf a M) : (∀ u, Wd M u → acc M u = false) ↔ ∀ u, Wd a u → acc a u = true := by
  have hW : ∀ u, Wd M u ↔ Wd a u := fun u => by unfold Wd letN; rw [hM.vars]
  constructor
  · intro h u hu
    have := h u ((hW u).2 hu)
    rw [hM.acc u hu] at this; simpa using this
  · intro h u hu
    rw [hM.acc u ((hW u).1 hu), h u ((hW u).1 hu)]; rfl
theorem st_order {a T : DFA} (hv : Valid a) (hn : a.next.length ≤ 12) (hT : T = stD a.vars (letN a) a.next.length) : (order (prodD andB a T)).length ≤ 4096 := by
  have hTv : Valid T := hT ▸ st_valid hv.v0 hv.v6 rfl hn
  have hvr : a.vars = T.vars := by rw [hT]; rfl
  have h1 := order_len (prod_val (f := andB) hv.toVal hTv.toVal hvr)
  rw [prod_len] at h1
  have h2 : T.next.length ≤ 25 := by rw [hT]; simp [stD]; omega
  have h3 : a.next.length * T.next.length ≤ 12 * 25 := Nat.mul_le_mul hn h2
  omega
theorem and_of {a T P : DFA} (hv : Valid a) (hT : Valid T) (hvr : T.vars = a.vars) (ho : (order (prodD andB a T)).length ≤ 4096) (eP : P = opV andB a T) : Valid P ∧ P.vars = a.vars ∧ ∀ w, Wd a w → acc P w = (acc a w && acc T w) := by
  have h1 := HasL.of hv (Nat.le_refl _)
  have h2 : HasL a.vars T.next.length T (acc T) := hvr ▸ HasL.of hT (Nat.le_refl _)
  have h := (h1.opW (f := andB) h2 ho (Nat.le_refl _)).toHasL
  rw [opV_ok (wrongD_zero.2 ⟨hv, hT, hvr.symm⟩)] at eP
  subst eP
  exact ⟨h.valid, h.vars, fun w hw => h.acc w hw⟩
end Go.Lx

