/- Contracts of functions of the program (BolD): what each call answers and that it leaves memory as it was. Conditions: those each theorem names. -/
import Derived.Test.YtdaapdamcekkgaaDoorPB
set_option linter.unusedSectionVars false
set_option linter.unusedSimpArgs false
set_option linter.unusedVariables false
set_option linter.unnecessarySimpa false
namespace Go.Lx
open Go.RowKit
set_option linter.unusedVariables false
theorem HasL.v6 {v : Int} {n : Nat} {d : DFA} {p : List Nat → Bool} (h : HasL v n d p) : 2 ^ v.toNat ≤ 64 := by
  have := h.valid.width; rw [h.vars] at this; exact this
theorem WdV.lt {v : Int} {w : List Nat} (h : WdV v w) (h6 : 2 ^ v.toNat ≤ 64) : ∀ x ∈ w, x < 64 := fun x hx => by have := h x hx; omega
theorem allOk0 (n : Int) : AllOk (stayD n true) [] := trivial
theorem LeastA.lt {m : DFA} (hm : Valid m) (hn : m.next.length + 1 ≤ 4096) {u : List Nat} (h : LeastA m (some u)) : u.length ≤ m.next.length := by
  have hs := stay_valid hm.v0 hm.v6 false
  have hd : ∀ w, Wd m w → (dst (both m (stayD m.vars false)) m.start.toNat m.next.length w ↔ acc m w = true) := fun w hw => by
    have h1 := both_dst (a := m) (b := stayD m.vars false) hm hs rfl hw
    rw [show m.next.length + (stayD m.vars false).start.toNat = m.next.length from rfl] at h1
    rw [h1, stay_acc hm.v0 hm.v6 false (show Wd (stayD m.vars false) w from hw)]
    cases acc m w <;> simp
  obtain ⟨h1, h2, h3⟩ := h
  have hT : Tell (both m (stayD m.vars false)) m.start.toNat m.next.length (some u) := ⟨h1, (hd u h1).2 h2, fun x hx hxd => h3 x hx ((hd x hx).1 hxd)⟩
  have hlen := both_len m (stayD m.vars false)
  have h1' : (stayD m.vars false).next.length = 1 := rfl
  have := Tell.lt (both_valid hm hs rfl hn) (by rw [hlen]; have := start_lt hm; omega) (by rw [hlen]; omega) hT
  omega
end Go.Lx

