/- Contracts of functions of the program (BolD): what each call answers and that it leaves memory as it was. Conditions: those each theorem names. -/
import Derived.Test.YtdaapdamcekkgaaDoorEnd
set_option linter.unusedSectionVars false
set_option linter.unusedSimpArgs false
set_option linter.unusedVariables false
set_option linter.unnecessarySimpa false
namespace Go.Lx
open Go.RowKit
set_option linter.unusedVariables false
theorem HasL.v6 {v : Int} {n : Nat} {d : DFA} {p : List Nat → Bool} (h : HasL v n d p) : 2 ^ v.toNat ≤ 64 := by
  have := h.valid.width; rw [h.vars] at this; exact this
theorem WdV.lt {v : Int} {w : List Nat} (h : WdV v w) (h6 : 2 ^ v.toNat ≤ 64) : ∀ x ∈ w, x < 64 := fun x hx => by have := h x hx; omega
theorem op_runE {f : Bool → Bool → Bool} {v : Int} {n m : Nat} {a b : DFA} {p q : List Nat → Bool} (ha : HasL v n a p) (hb : HasL v m b q) (hn : n * m ≤ 4096) (w : List Nat) : runE (opD f a b) w = runE a w := both_runE (ha.op (f := f) hb hn).valid ha.valid (by rw [(ha.op (f := f) hb hn).vars, ha.vars]) w
theorem op_accV {f : Bool → Bool → Bool} {v : Int} {n m : Nat} {a b : DFA} {p q : List Nat → Bool} (ha : HasL v n a p) (hb : HasL v m b q) (hn : n * m ≤ 4096) {w : List Nat} (he : runE a w = 0) : accV (opD f a b) w = f (accV a w) (accV b w) := by
  obtain ⟨_, hl, hw⟩ := runE_zero.1 he
  have hv := ha.wd.1 hw
  rw [(ha.op (f := f) hb hn).toHasL.accV hv hl, ha.accV hv hl, hb.accV hv hl]
theorem not_runE {v : Int} {n : Nat} {a : DFA} {p : List Nat → Bool} (ha : HasL v n a p) (hn : n * n ≤ 4096) (w : List Nat) : runE (notD a) w = runE a w := both_runE (ha.not hn).valid ha.valid (by rw [(ha.not hn).vars, ha.vars]) w
theorem not_accV {v : Int} {n : Nat} {a : DFA} {p : List Nat → Bool} (ha : HasL v n a p) (hn : n * n ≤ 4096) {w : List Nat} (he : runE a w = 0) : accV (notD a) w = !accV a w := by
  obtain ⟨_, hl, hw⟩ := runE_zero.1 he
  have hv := ha.wd.1 hw
  rw [(ha.not hn).toHasL.accV hv hl, ha.accV hv hl]
theorem LeastA.lt {m : DFA} (hm : Valid m) (hn : m.next.length + 1 ≤ 4096) {u : List Nat} (h : LeastA m (some u)) : u.length ≤ m.next.length := by
  have hs := stay_valid hm.v0 hm.v6 false
  have hd : ∀ w, Wd m w → (dst (both m (stayD m.vars false)) m.start.toNat m.next.length w ↔ acc m w = true) := fun w hw => by
    have h1 := both_dst (a := m) (b := stayD m.vars false) hm hs rfl hw
    rw [show m.next.length + (stayD m.vars false).start.toNat = m.next.length from rfl] at h1
    rw [h1, stay_acc hm.v0 hm.v6 false (show Wd (stayD m.vars false) w from hw)]
    cases acc m w <;> simp
  obtain ⟨h1, h2, h3⟩ := h
  have hT : Tell (both m (stayD m.vars false)) m.start.toNat m.next.length (some u) := ⟨h1, (hd u h1).2 h2, fun x hx hxd => h3 x hx ((hd x hx).1 hxd)⟩
  have hlen := both_len m (stayD m.vars false)
  have h1' : (stayD m.vars false).next.length = 1 := rfl
  have := Tell.lt (both_valid hm hs rfl hn) (by rw [hlen]; have := start_lt hm; omega) (by rw [hlen]; omega) hT
  omega
theorem words_not {a mN : DFA} (sa : Sh a) (hc : checkD a = 0) (hN : opV notB a a = mN) (o : List Nat) : runE mN o = runE a o ∧ (runE a o = 0 → accV mN o = !accV a o) := by
  have va := checkD_zero.1 hc
  have Ha := sa.has va
  have hw : wrongD a a = 0 := by rw [wrongD_self]; exact hc
  rw [opV_ok hw, show opD notB a a = notD a from rfl] at hN
  subst hN
  exact ⟨not_runE Ha (by decide) o, fun he => not_accV Ha (by decide) he⟩
theorem op_four {p : Nat} (hp : p < 4) (x y : Bool) : [Value.bool (x && y), .bool (x || y), .bool (x != y), .bool (x && !y)][p]? = some (.bool (opB (p : Int) x y)) := by
  have : p = 0 ∨ p = 1 ∨ p = 2 ∨ p = 3 := by omega
  rcases this with rfl | rfl | rfl | rfl <;> rfl
end Go.Lx

