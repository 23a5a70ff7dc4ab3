/- Contracts of functions of the program (PjX): what each call answers and that it leaves memory as it was. Conditions: those each theorem names. -/
import Derived.Test.YtohkmggbfcnapaaGreatDoorEnd
set_option linter.unusedSectionVars false
set_option linter.unusedSimpArgs false
set_option linter.unusedVariables false
set_option linter.unnecessarySimpa false
set_option maxHeartbeats 8000000
set_option maxRecDepth 20000
namespace Go.Lx
def exJ : DFA := ⟨1, 0, [[0, 1]], [true]⟩
def exW : DFA := ⟨6, 0, [List.replicate 64 0], [true]⟩
def exNo : DFA := ⟨0, 0, [[0]], [true]⟩
theorem exJ_ck : checkD exJ = 8 := by decide
theorem exJ_ne : checkD exJ ≠ 0 := by decide
theorem exN_valid : Valid exNo := checkD_zero.1 (by decide)
theorem exW_valid : Valid exW := stay_valid (v := 6) (by decide) (by decide) true
theorem bd_exJ : Bd9 exJ := ⟨by decide, by decide, by decide⟩
theorem bd_exNo : Bd9 exNo := bdVal exN_valid
theorem bd_exW : Bd9 exW := bdVal exW_valid
theorem hN0 : HasL 0 8 exNo (acc exNo) := HasL.of exN_valid (by decide)
theorem hW6 : HasL 6 8 exW (acc exW) := HasL.of exW_valid (by decide)
theorem exJ_vE (v : Int) : vE exJ v = 8 := by unfold vE; rw [if_pos exJ_ne, exJ_ck]
theorem ej_a : xsE exJ (-1) 0 = 8 := by rw [xsE_bad (by rw [exJ_vE]; decide), exJ_vE]
theorem ej_b : xsE exX 2 0 = 7 := by rw [xsE_bad (by decide)]; decide
theorem ej_c : xsE exX (-1) 0 = 7 := by rw [xsE_bad (by decide)]; decide
theorem ej_e : xsE exX 0 0 = 1 := xsE_arg aw_vE (by decide)
theorem ej_f : alE exX 1 4097 = 1 := by
  rw [alE_ok hX]
  exact xsE_arg (vE_of nX.toHasL (by decide) (by decide)) (by decide)
theorem ej_g : xsE exX 0 2 = 10 := by decide +kernel
theorem ej_h : xsE exX 0 3 = 0 := by decide +kernel
theorem ej_i : vE exX 2 = 7 := by decide
theorem ej_j : drE exJ 9 = 8 := by rw [(drE_bad (by rw [exJ_vE]; decide)).1, exJ_vE]
theorem ej_k : inE2 exX 3 = 7 := by decide
theorem ej_l : inE2 exX 2 = 0 := by decide
theorem ej_m : (inV exX 2).vars = 3 := (in_has hX ej_l).2.2.2.vars
theorem ej_n : inE2 exW 6 = 7 := by unfold inE2; rw [checkD_zero.2 exW_valid, if_neg (by decide), if_pos (by decide)]
theorem rn_seven {l : List Int} (h : ¬ PermZ l 2) : rnE exX l = 7 := by
  unfold rnE
  rw [exX_ok, if_neg (by decide), perm_no (n := exX.vars) (fun ⟨h1, _⟩ => h h1)]
  rfl
theorem ej_o : rnE exX [0] = 7 := rn_seven fun h => absurd h.1 (by decide)
theorem ej_p : rnE exX [0, 0] = 7 := rn_seven fun h => absurd h.2.1 (by decide)
theorem ej_q : rnE exX [1, 2] = 7 := rn_seven fun h => absurd (h.2.2 2 (by simp)).2 (by decide)
theorem ej_r : rnE exJ [5, 5] = 8 := by rw [(rn_bad exJ_ne).1, exJ_ck]
theorem ej_s : rnE exNo [] = 0 := rnE_zero.2 ⟨exN_valid, rfl, List.nodup_nil, fun p hp => by cases hp⟩
theorem ej_s2 : (rnV exNo []).vars = 0 := (rn_has hN0 ej_s).2.2.2.vars
theorem exW_acc {w : List Nat} (hw : WdV 6 w) : acc exW w = true := stay_acc (v := 6) (by decide) (by decide) true (hW6.wd.2 hw)
theorem ej_tv : vE exW 5 = 0 := vE_of hW6 (by decide) (by decide)
theorem ej_ti : igV exW 5 = true := (igV_iff hW6 ej_tv).2 fun u z hu hz => by
  rw [exW_acc hu, exW_acc (hW6.varI (v := 5) (by decide) hu hz)]
theorem ej_t : drE exW 5 = 0 := (drE_ok ej_tv ej_ti).1
theorem ej_d : MinL 5 8 (drV exW 5) (fun w => acc exW (w.map (drp 5))) := (dr_has hW6 ej_tv ej_ti).2
theorem ej_tn : (drV exW 5).vars = 5 ∧ (drV exW 5).next.length = 1 := by
  refine ⟨ej_d.vars, ?_⟩
  have hs := stay_min (v := 5) (by decide) (by decide) true
  have he : drV exW 5 = minD (stayD 5 true) := ej_d.ext hs fun w hw => exW_acc fun x hx => by
    obtain ⟨y, hy, rfl⟩ := List.mem_map.1 hx
    exact drp_lt 5 (by decide) 5 (by decide) y (hw y hy)
  rw [he]
  have h1 := hs.len
  have h2 := hs.valid.n0
  omega
theorem RowsR.one {w : World} {b : Option Addr} {c : Nat} {r : List Int} (h : Sl w b (ints r)) : RowsR w [.slice b r.length c] [r] := ⟨rfl, fun i x hx => by
  cases i with
  | zero => simp at hx; subst hx; exact ⟨b, c, rfl, h⟩
  | succ i => simp at hx⟩
end Go.Lx

