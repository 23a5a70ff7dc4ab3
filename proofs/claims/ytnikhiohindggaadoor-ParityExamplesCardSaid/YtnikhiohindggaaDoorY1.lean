/- Contracts of functions of the program (Y1): what each call answers and that it leaves memory as it was. Conditions: those each theorem names. -/
import Derived.Test.YtnikhiohindggaaDoorEnd
import Derived.Test.YtnikhiohindggaaDoorZ7
set_option linter.unusedSectionVars false
set_option linter.unusedSimpArgs false
set_option linter.unusedVariables false
set_option linter.unnecessarySimpa false
set_option maxHeartbeats 8000000
set_option maxRecDepth 20000
namespace Go.Lx
def xp0 : Par := ⟨-1, 0, [], []⟩
def xp1 : Par := ⟨7, 0, [], []⟩
def xp2 : Par := ⟨0, 0, [], []⟩
def xp3 : Par := ⟨0, 0, List.replicate 4097 [], []⟩
def xp4 : Par := ⟨0, 1, [[0]], []⟩
def xp5 : Par := ⟨0, 1, [[0]], [99]⟩
def xp6 : Par := ⟨0, -1, [[0]], [99]⟩
def xp7 : Par := ⟨1, 0, [[5]], [99]⟩
def xp8 : Par := ⟨0, 0, [[1]], [99]⟩
def xp9 : Par := ⟨0, 0, [[0]], [17]⟩
def xp10 : Par := ⟨0, 0, [[0]], [-1]⟩
def xp11 : Par := ⟨0, 0, [[0]], [16]⟩
def xpV : Par := ⟨9, 0, [], []⟩
def xpR : Par := ⟨1, 0, [[1, 2], [0, 1], [3, 3], [3, 3]], [5, 4, 9, 7]⟩
theorem xc0 : checkP xp0 = 7 := by decide +kernel
theorem xc1 : checkP xp1 = 7 := by decide +kernel
theorem xc2 : checkP xp2 = 3 := by decide +kernel
theorem xc3 : checkP xp3 = 10 := by decide +kernel
theorem xc4 : checkP xp4 = 2 := by decide +kernel
theorem xc5 : checkP xp5 = 8 := by decide +kernel
theorem xc6 : checkP xp6 = 8 := by decide +kernel
theorem xc7 : checkP xp7 = 2 := by decide +kernel
theorem xc8 : checkP xp8 = 8 := by decide +kernel
theorem xc9 : checkP xp9 = 1 := by decide +kernel
theorem xc10 : checkP xp10 = 1 := by decide +kernel
theorem xc11 : checkP xp11 = 0 := by decide +kernel
theorem xcR : checkP xpR = 0 := by decide +kernel
theorem xb0 : ParC xp0 := ⟨by decide, by decide, by decide⟩
theorem xb1 : ParC xp1 := ⟨by decide, by decide, by decide⟩
theorem xb2 : ParC xp2 := ⟨by decide, by decide, by decide⟩
theorem xb3 : ParC xp3 := ⟨by decide +kernel, fun r hr => by rw [(List.mem_replicate.1 hr).2]; decide, by decide⟩
theorem xb4 : ParC xp4 := ⟨by decide, by decide, by decide⟩
theorem xb5 : ParC xp5 := ⟨by decide, by decide, by decide⟩
theorem xb6 : ParC xp6 := ⟨by decide, by decide, by decide⟩
theorem xb7 : ParC xp7 := ⟨by decide, by decide, by decide⟩
theorem xb8 : ParC xp8 := ⟨by decide, by decide, by decide⟩
theorem xb9 : ParC xp9 := ⟨by decide, by decide, by decide⟩
theorem xb10 : ParC xp10 := ⟨by decide, by decide, by decide⟩
theorem xb11 : ParC xp11 := ⟨by decide, by decide, by decide⟩
theorem xbV : ParC xpV := ⟨by decide, by decide, by decide⟩
theorem xbR : ParC xpR := ⟨by decide, by decide, by decide⟩
theorem xco : coE xp11 = 4 := by decide +kernel
theorem xd1 : diE zerosP xp11 = 7 := by decide +kernel
theorem xd2 : diE zerosP xpV = 7 := by decide +kernel
def l2 : La := ⟨[], [2]⟩
theorem xl1 : ruE zerosP nilLa = 3 := by decide +kernel
theorem xl2 : ruE zerosP l2 = 1 := by decide +kernel
theorem xv1 : ruV zerosP nilLa = 0 := by unfold ruV; rw [if_neg (by rw [xl1]; decide)]
theorem xr_red : RedOf xpR (fun s => if s = 0 ∨ s = 3 then 1 else 0) := redOf_chk (checkP_zero.1 xcR) 4 (by decide +kernel)
theorem xr_rd : (rdV xpR).prio = [1, 0, 0, 1] := by rw [rdV_of xcR xr_red]; rfl
theorem ex_dif {p q : Par} {l : La} {b : Bool} {e : Nat} (h : DiR p q l b e) (h7 : diE p q = 7) : b = false ∧ e = 7 := by
  rcases h with ⟨_, h1, h2, _⟩ | ⟨h, _⟩ | ⟨h, _⟩
  · exact ⟨h2, by rw [h1, h7]⟩
  · rw [h7] at h; cases h
  · rw [h7] at h; cases h
theorem one_lz : infP (oneP 1) lz.at = 1 := inf_of (s0 := 0) (j := 0) (m := 1) (by decide) (by decide +kernel) (by decide) (by decide +kernel) (by decide +kernel)
theorem zeros_wit : witP zerosP := (wit_iff zeros_v).1 (diff_complete zeros_v (oneP_valid (v := 1) (by decide) (by decide)) rfl (by decide) lz_ok (by rw [zeros_lz]; show 2 % 2 ≠ infP (oneP 1) lz.at % 2; rw [one_lz]; decide))
theorem ex_wit {l : La} {e : Nat} (h : WiR zerosP l e) : e = 0 ∧ ruE zerosP l = 0 ∧ ruV zerosP l % 2 = 0 ∧ LaB l := by
  rcases h with ⟨h, _⟩ | ⟨_, h0, k, hk, _, pre, loop, hF, hC⟩ | ⟨_, _, _, h⟩
  · exact absurd zeros_ok h
  · have hl : LasOk zerosP l := hC.lasOk hF.wp hF.wl
    have hi := hF.inf hC (fun v hv => of_decide_eq_true hv) (.inl fun v hv => of_decide_eq_true hv)
    have h1 := hF.lp
    have h2 := hF.ll
    have h3 := hC.pre
    have h4 := hC.loop
    have e2 : zerosP.d.next.length = 2 := rfl
    rw [e2] at h1 h2
    have h5 : l.pre.length ≤ pre.length := h3
    have h6 : l.loop.length ≤ loop.length := h4
    have hV : LaV zerosP.d l := ⟨hl.pos, by omega, by omega, hl.pre, hl.loop⟩
    have hE : ruE zerosP l = 0 := by unfold ruE; rw [if_neg (by rw [zeros_ok]; decide)]; exact hV.zero zeros_v
    refine ⟨h0, hE, ?_, by omega, by omega, fun x hx => Nat.lt_of_lt_of_le (hl.pre x hx) (by decide), fun x hx => Nat.lt_of_lt_of_le (hl.loop x hx) (by decide)⟩
    unfold ruV
    rw [if_pos hE, infP_eq hi, hk]
  · exact absurd zeros_wit h
theorem rowsOf {w : World} : ∀ {qs : List Rec}, (∀ q ∈ qs, Sl w q.b (ints q.xs)) → RowsR w (vals qs) (nums qs)
  | qs, h => ⟨by simp, fun i x hx => by
    rw [List.getElem?_map] at hx
    obtain ⟨q, hq, rfl⟩ := Option.map_eq_some_iff.1 hx
    exact ⟨q.b, q.c, by rw [List.getElem?_map, hq]; rfl, h q (List.mem_of_getElem? hq)⟩⟩
def xk3 (nb : Option Addr) : DK := ⟨nb, 4097, none, 0, List.replicate 4097 ⟨none, 0, []⟩⟩
theorem xp3_at {w : World} {nb : Option Addr} (h : Sl w nb (List.replicate 4097 (Value.slice none 0 0))) : AtP w xp3 (xk3 nb) := by
  have e1 : vals (List.replicate 4097 (⟨none, 0, []⟩ : Rec)) = List.replicate 4097 (Value.slice none 0 0) := by unfold vals; rw [List.map_replicate]; rfl
  have e2 : nums (List.replicate 4097 (⟨none, 0, []⟩ : Rec)) = List.replicate 4097 [] := by unfold nums; rw [List.map_replicate]
  refine ⟨?_, ?_, Sl.nil _ _⟩
  · show Sl w nb (vals (List.replicate 4097 (⟨none, 0, []⟩ : Rec)))
    rw [e1]; exact h
  · show RowsR w (vals (List.replicate 4097 (⟨none, 0, []⟩ : Rec))) (List.replicate 4097 [])
    rw [← e2]
    exact rowsOf fun q hq => by rw [(List.mem_replicate.1 hq).2]; exact Sl.nil _ _
end Go.Lx

