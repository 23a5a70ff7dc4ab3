/- Contracts of functions of the program (BolD): what each call answers and that it leaves memory as it was. Conditions: those each theorem names. -/
import Derived.Test.YtdaapdamcekkgaaDoorEnd
set_option linter.unusedSectionVars false
set_option linter.unusedSimpArgs false
set_option linter.unusedVariables false
set_option linter.unnecessarySimpa false
namespace Go.Lx
open Go.RowKit
set_option linter.unusedVariables false
theorem HasL.acc_true {v : Int} {n : Nat} {d : DFA} {p : List Nat → Bool} (h : HasL v n d p) {w : List Nat} (ha : Lx.accV d w = true) : WdV v w ∧ w.length ≤ 64 ∧ p w = true := by
  unfold Lx.accV at ha
  by_cases he : runE d w = 0
  · rw [if_pos he] at ha
    obtain ⟨_, hl, hw⟩ := runE_zero.1 he
    exact ⟨h.wd.1 hw, hl, by rw [← h.acc w (h.wd.1 hw)]; exact ha⟩
  · rw [if_neg he] at ha; exact absurd ha (by decide)
theorem HasL.acc_false {v : Int} {n : Nat} {d : DFA} {p : List Nat → Bool} (h : HasL v n d p) {w : List Nat} (hw : WdV v w) (hl : w.length ≤ 64) (ha : Lx.accV d w = false) : p w = false := by
  rw [← ha]; exact (h.accV hw hl).symm
theorem HasL.v6 {v : Int} {n : Nat} {d : DFA} {p : List Nat → Bool} (h : HasL v n d p) : 2 ^ v.toNat ≤ 64 := by
  have := h.valid.width; rw [h.vars] at this; exact this
theorem WdV.lt {v : Int} {w : List Nat} (h : WdV v w) (h6 : 2 ^ v.toNat ≤ 64) : ∀ x ∈ w, x < 64 := fun x hx => by have := h x hx; omega
structure InFacts (a b : DFA) (o u : List Nat) (is1 is2 eq1 : Bool) : Prop where
  andM : is1 = decide (opD andB a b = minD a)
  minusM : is1 = (decide (((opD minusB a b).next.length : Int) = 1) && !finN (opD minusB a b) 0)
  both : eq1 = (is1 && is2)
  yes : is1 = true → u = [] ∧ (accV a o = true → accV b o = true)
  no : is1 = false → u.length ≤ 64 → accV a u = true ∧ accV b u = false ∧ (∀ x ∈ u, x < 64) ∧ (accV a o = true → accV b o = false → (∀ x ∈ o, x < 64) ∧ code u ≤ code o)
theorem in_facts {v : Int} {n m : Nat} {a b : DFA} {p q : List Nat → Bool} (ha : HasL v n a p) (hb : HasL v m b q) (hn : n * m ≤ 4096) (hn2 : m * n ≤ 4096) {res res2 : Option (List Nat)} (h1 : LeastA (opD minusB a b) res) (h2 : LeastA (opD minusB b a) res2) {u : List Nat} (hu : u = res.getD []) {is1 is2 eq1 : Bool} (e1 : is1 = !res.isSome) (e2 : is2 = !res2.isSome)
    (e3 : eq1 = (decide ((opD xorB a b).next.length = 1) && !finN (opD xorB a b) 0)) (o : List Nat) : InFacts a b o u is1 is2 eq1 := by
  obtain ⟨i1, i2, i3⟩ := incl_iff ha hb hn h1
  obtain ⟨_, _, j3⟩ := incl_iff hb ha hn2 h2
  have hnone : ∀ (r : Option (List Nat)), (!r.isSome) = decide (r = none) := fun r => by cases r <;> simp
  have hs := same_iff ha hb hn
  have hm : MinL v (n * m) (opD minusB a b) _ := ha.op (f := minusB) hb hn
  refine ⟨?_, ?_, ?_, ?_, ?_⟩
  · rw [e1, hnone]; exact decide_eq_decide.2 i1
  · rw [e1, hnone]
    by_cases hr : res = none
    · obtain ⟨x1, x2⟩ := i2.1 hr
      rw [decide_eq_true hr, decide_eq_true (show (((opD minusB a b).next.length : Int) = 1) by omega), x2]; rfl
    · rw [decide_eq_false hr]
      by_cases hl : (opD minusB a b).next.length = 1
      · have : finN (opD minusB a b) 0 ≠ false := fun h => hr (i2.2 ⟨hl, h⟩)
        have h9 : finN (opD minusB a b) 0 = true := by simpa using this
        rw [h9]; simp
      · rw [decide_eq_false (show ¬ (((opD minusB a b).next.length : Int) = 1) by omega)]; rfl
  · have hx : (eq1 = true) ↔ (is1 = true ∧ is2 = true) := by
      rw [e1, e2, e3, hnone, hnone]
      simp only [Bool.and_eq_true, decide_eq_true_eq, Bool.not_eq_true']
      rw [hs, i3, j3]
      constructor
      · intro h; exact ⟨fun w hw hp => by rw [← h w hw]; exact hp, fun w hw hq => by rw [h w hw]; exact hq⟩
      · rintro ⟨x1, x2⟩ w hw
        have y1 := x1 w hw; have y2 := x2 w hw
        cases hp : p w <;> cases hq : q w <;> simp_all
    rw [Bool.eq_iff_iff, Bool.and_eq_true]; exact hx
  · intro h
    have hr : res = none := by rw [e1, hnone] at h; exact of_decide_eq_true h
    refine ⟨by rw [hu, hr]; rfl, fun hA => ?_⟩
    obtain ⟨w1, w2, w3⟩ := ha.acc_true hA
    rw [hb.accV w1 w2]
    exact (i3.1 hr) o w1 w3
  · intro h hl
    obtain ⟨u', hr⟩ : ∃ u', res = some u' := by
      rw [e1] at h
      cases res with
      | none => exact absurd h (by decide)
      | some u' => exact ⟨u', rfl⟩
    subst hr
    obtain rfl : u = u' := hu
    obtain ⟨l1, l2, l3⟩ := (show LeastA (opD minusB a b) (some u) from h1)
    have wv : WdV v u := hm.toHasL.wd.1 l1
    rw [hm.acc u wv] at l2
    have hpq : p u = true ∧ q u = false := by
      unfold minusB at l2; simpa using l2
    refine ⟨by rw [ha.accV wv hl]; exact hpq.1, by rw [hb.accV wv hl]; exact hpq.2, wv.lt ha.v6, fun hA hB => ?_⟩
    obtain ⟨w1, w2, w3⟩ := ha.acc_true hA
    refine ⟨w1.lt ha.v6, l3 o (hm.toHasL.wd.2 w1) ?_⟩
    rw [hm.acc o w1, w3, hb.acc_false w1 w2 hB]; rfl
theorem LeastA.lt {m : DFA} (hm : Valid m) (hn : m.next.length + 1 ≤ 4096) {u : List Nat} (h : LeastA m (some u)) : u.length ≤ m.next.length := by
  have hs := stay_valid hm.v0 hm.v6 false
  have hd : ∀ w, Wd m w → (dst (both m (stayD m.vars false)) m.start.toNat m.next.length w ↔ acc m w = true) := fun w hw => by
    have h1 := both_dst (a := m) (b := stayD m.vars false) hm hs rfl hw
    rw [show m.next.length + (stayD m.vars false).start.toNat = m.next.length from rfl] at h1
    rw [h1, stay_acc hm.v0 hm.v6 false (show Wd (stayD m.vars false) w from hw)]
    cases acc m w <;> simp
  obtain ⟨h1, h2, h3⟩ := h
  have hT : Tell (both m (stayD m.vars false)) m.start.toNat m.next.length (some u) := ⟨h1, (hd u h1).2 h2, fun x hx hxd => h3 x hx ((hd x hx).1 hxd)⟩
  have hlen := both_len m (stayD m.vars false)
  have h1' : (stayD m.vars false).next.length = 1 := rfl
  have := Tell.lt (both_valid hm hs rfl hn) (by rw [hlen]; have := start_lt hm; omega) (by rw [hlen]; omega) hT
  omega
end Go.Lx

