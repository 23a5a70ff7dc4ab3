/- Contracts of functions of the program (EndC): what each call answers and that it leaves memory as it was. Conditions: those each theorem names. -/
import Derived.Test.YtnpehjpookcfkaaGreatDoorCoreK
import Derived.Test.YtnpehjpookcfkaaGreatDoorCloseC
import Derived.Test.YtnpehjpookcfkaaGreatDoorC2
import Derived.Test.YtnpehjpookcfkaaGreatDoorCmb
set_option linter.unusedSectionVars false
set_option linter.unusedSimpArgs false
set_option linter.unusedVariables false
set_option linter.unnecessarySimpa false
set_option maxHeartbeats 8000000
set_option maxRecDepth 20000
namespace Go.Proofs.YtnpehjpookcfkaaGreatDoor
open Go.ChangeShapes Go.WideShapes Go.ChangeAt Go.RowKit Go.Lx _root_.Go.Proofs.Tryz
set_option maxRecDepth 100000
theorem cells_C : Tryz.prog.cellsOf 27 = 4 + 4 := by kernel_rfl
abbrev Bnd (a : DFA) : Prop := a.next.length < 9223372036854775807 ∧ (∀ r ∈ a.next, r.length < 9223372036854775807) ∧ a.final.length < 9223372036854775807
structure ConIn (W : World) (a g : DFA) (j k : DK) : Prop where
 at1 : At W a j
 at2 : At W g k
 b1 : Bnd a
 b2 : Bnd g
 c1 : CapD a j
 c2 : CapD g k
theorem DfaIn.dk {W : World} {v : Value} {d : DFA} {nb fb : Option Addr} {nc fc : Nat} {vs : List Value} (h : DfaIn Tryz.prog W v d nb fb nc fc vs) : ∃ j : DK, v = .agg (dC d j).toArray ∧ At W d j ∧ Bnd d ∧ CapD d j := by
 obtain ⟨qs, rfl, e⟩ := rows_rec h.at_.rows
 exact ⟨⟨nb, nc, fb, fc, qs⟩, h.val, h.at_, ⟨lt63 h.n, fun r hr => lt63 (h.r r hr), lt63 h.f⟩, ⟨h.fcap, h.rcap⟩⟩
section
variable {H : Type} {enc : TypeId × Value → H} {W : World}
theorem openCC {cs : List Value} {fuel : Nat} {x : DataW H × List MemPlace} (hw : ∀ m ∈ x.1.weights Tryz.prog 27, m ≤ reachBytes) (h : DataW.trod enc Tryz.prog W 0 (fun _ => true) true fuel 27 cs = some x) : ∃ (a g : DFA) (j k : DK), cs = cC a g j k ∧ ConIn W a g j k := by
 obtain ⟨l0, l1, d0, d1, p0, p1, rfl, t0, t1, w0, w1⟩ := open_two underlying27 cells_C cells_a rfl rfl rfl rfl hw h
 obtain ⟨D0, nb0, fb0, nc0, fc0, vs0, h0⟩ := openD w0 t0
 obtain ⟨D1, nb1, fb1, nc1, fc1, vs1, h1⟩ := openD w1 t1
 obtain ⟨j0, e0, a0, b0, c0⟩ := DfaIn.dk h0
 obtain ⟨j1, e1, a1, b1, c1⟩ := DfaIn.dk h1
 have f0 : l0 = dC D0 j0 := by simpa using e0
 have f1 : l1 = dC D1 j1 := by simpa using e1
 subst f0 f1
 exact ⟨D0, D1, j0, j1, rfl, a0, a1, b0, b1, c0, c1⟩
theorem openCon {v : Value} {d : DataW H} {p : List MemPlace} (hw : ∀ m ∈ d.weights Tryz.prog 27, m ≤ reachBytes) (h : DataW.Trod enc Tryz.prog W 0 (fun _ => true) true 27 v d p) : ∃ (a g : DFA) (j k : DK), v = .agg (cC a g j k).toArray ∧ ConIn W a g j k := by
 obtain ⟨fuel, h⟩ := h
 obtain ⟨a, g, j, k, e, hc⟩ := openCC (x := (d, p)) hw h
 exact ⟨a, g, j, k, agg_of e (show (8 : Nat) ≠ 1 by decide), hc⟩
theorem reads_c : Tryz.prog.readableRec 27 = true := by kernel_rfl
theorem lt_c : 27 < Tryz.prog.types.size := of_decide_eq_true (by kernel_rfl)
end
end Go.Proofs.YtnpehjpookcfkaaGreatDoor

