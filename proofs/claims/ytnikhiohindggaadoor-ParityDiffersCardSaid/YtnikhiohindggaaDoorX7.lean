/- Contracts of functions of the program (X7): what each call answers and that it leaves memory as it was. Conditions: those each theorem names. -/
import Derived.Test.YtnikhiohindggaaDoorZg
import Derived.Test.YtnikhiohindggaaDoorZ3
import Derived.Test.YtnikhiohindggaaDoorZ7
import Derived.Test.YtnikhiohindggaaDoorRcnK
set_option linter.unusedSectionVars false
set_option linter.unusedSimpArgs false
set_option linter.unusedVariables false
set_option linter.unnecessarySimpa false
set_option maxHeartbeats 8000000
set_option maxRecDepth 20000
namespace Go.Lx
theorem canon_same {l c : La} (hl : IsCanon l) (h : SameW l c) : c = l := by
 have hW : c.at = l.at := funext h.at_
 have e1 : EP l.at l.loop.length := La.ep hl.pos
 have e2 : EP l.at c.loop.length := by rw [← hW]; exact La.ep h.pos
 have hg := EP.gcd _ _ _ (Nat.le_refl _) e1 e2
 have hgp : 0 < Nat.gcd l.loop.length c.loop.length := Nat.gcd_pos_of_pos_left _ hl.pos
 have hq1 := hl.ep hgp (Nat.gcd_dvd_left _ _) hg
 have hdv : l.loop.length ∣ c.loop.length := by
  have := Nat.gcd_dvd_right l.loop.length c.loop.length
  rw [hq1] at this; exact this
 have hq : c.loop.length = l.loop.length := by
  have h1 := Nat.le_of_dvd h.pos hdv
  have h2 := h.loop; omega
 have hp : c.pre.length = l.pre.length := by
  have hle := h.pre
  rcases Nat.lt_or_eq_of_le hle with hlt | he
  ·exfalso
   apply hl.last (by omega)
   obtain ⟨j, hj⟩ := Nat.exists_eq_add_of_le (show c.pre.length ≤ l.pre.length - 1 by omega)
   have h2 : l.at (l.pre.length - 1) = l.pre.getD (l.pre.length - 1) 0 := by unfold La.at; rw [if_pos (by omega)]
   have h3 : l.at (l.pre.length - 1 + l.loop.length) = l.loop.getD (l.loop.length - 1) 0 := by
    rw [show l.pre.length - 1 + l.loop.length = l.pre.length + (l.loop.length - 1) by have := hl.pos; omega, La.at_u hl.pos]
    unfold La.u; rw [Nat.mod_eq_of_lt (by have := hl.pos; omega)]
   rw [← h2, ← h3, ← hW, ← hq, hj, Nat.add_assoc, La.at_u h.pos, La.at_u h.pos, La.u_per]
  ·exact he
 have hpre : c.pre = l.pre := by
  apply List.ext_getElem hp
  intro i h1 h2
  have := h.at_ i
  rwa [La.at_pre h1, La.at_pre h2] at this
 have hloop : c.loop = l.loop := by
  apply List.ext_getElem hq
  intro i h1 h2
  have h3 := h.at_ (c.pre.length + i)
  rw [La.at_u h.pos, hp, La.at_u hl.pos] at h3
  unfold La.u at h3
  rw [Nat.mod_eq_of_lt h1, Nat.mod_eq_of_lt h2] at h3
  simpa [h1, h2] using h3
 cases l; cases c
 simp only at hpre hloop
 rw [hpre, hloop]
theorem one_vis (v : Int) : ∀ (w : List Nat), ∀ u ∈ visL (oneP v).d 0 w, u = 0
 | [], u, hu => (List.not_mem_nil hu).elim
 | x :: w, u, hu => by
  rcases List.mem_cons.1 hu with rfl | hu
  ·exact one_to v x
  ·rw [one_to] at hu; exact one_vis v w u hu
theorem one_inf {v : Int} (h0 : 0 ≤ v) (h6 : v ≤ 6) {l : La} (hl : LasOk (oneP v) l) : infP (oneP v) l.at = 1 := by
 obtain ⟨s, w, hs, hw, _, _, hq⟩ := inf_way (oneP_valid h0 h6) hl
 have hs0 : s = 0 := by have h9 : s < 1 := hs; omega
 subst hs0
 refine infP_eq ?_
 have h1 := hq (oneP v) rfl
 have h2 : topP (oneP v) 0 w = 1 := by
  refine (vis_isMax (oneP v) 0 (w := w) (fun e => by rw [e] at hw; exact absurd hw (by decide))).unique ?_
  obtain ⟨⟨u, hu, hu2⟩, h3⟩ := vis_isMax (oneP v) 0 (w := w) (fun e => by rw [e] at hw; exact absurd hw (by decide))
  have h4 : ∀ u, u ∈ visL (oneP v).d 0 w → prN (oneP v) u = 1 := fun u hu => by rw [one_vis v w u hu]; rfl
  exact ⟨⟨u, hu, h4 u hu⟩, fun u hu => Nat.le_of_eq (h4 u hu)⟩
 rw [← h2]; exact h1
theorem LasOk.of_vars {p q : Par} (h : p.vars = q.vars) {l : La} (hl : LasOk p l) : LasOk q l :=
 have e : letN p.d = letN q.d := by unfold letN; show 2 ^ p.vars.toNat = 2 ^ q.vars.toNat; rw [h]
 ⟨hl.pos, fun x hx => e ▸ hl.pre x hx, fun x hx => e ▸ hl.loop x hx⟩
theorem LasOk.b {p : Par} (hp : ValidP p) {l : La} (h : LasOk p l) : (∀ x ∈ l.pre, x < 256) ∧ ∀ x ∈ l.loop, x < 256 := by
 have h6 := hp.letN6
 exact ⟨fun x hx => by have h9 : x < letN p.d := h.pre x hx; omega, fun x hx => by have h9 : x < letN p.d := h.loop x hx; omega⟩
theorem wi_ok {p : Par} {l : La} {e : Nat} (h0 : checkP p = 0) (h : WiR p l e) : (e = 9 ∧ ¬ witP p) ∨ (e = 0 ∧ witP p ∧ IsCanon l ∧ l.pre.length ≤ p.next.length ∧ l.loop.length ≤ 2 * p.next.length ∧ LasOk p l ∧ infP p l.at % 2 = 0) := by
 have hp := checkP_zero.1 h0
 rcases h with h | h | h
 ·exact absurd h0 h.1
 ·obtain ⟨_, he, k, hk, hk16, pre, loop, hF, hC⟩ := h
  have hlas : LasOk p l := hC.lasOk hF.wp hF.wl
  have hinf : IsInf p l.at k := hF.inf hC (fun v h => of_decide_eq_true h) (.inl fun v h => of_decide_eq_true h)
  have hi := infP_eq hinf
  have hv0 : 0 ≤ p.vars := hp.val.v0
  have hv6 : p.vars ≤ 6 := hp.val.v6
  have h1 := one_inf hv0 hv6 (l := l) (LasOk.of_vars (p := p) (q := oneP p.vars) rfl hlas)
  refine .inr ⟨he, (wit_iff hp).1 (diff_complete hp (oneP_valid hv0 hv6) rfl (by show p.next.length * 1 ≤ 4096; have := hp.n4; omega) hlas (by rw [hi, h1]; omega)), hC.can, ?_, ?_, hlas, by rw [hi]; exact hk⟩
  ·exact Nat.le_trans hC.pre hF.lp
  ·exact Nat.le_trans hC.loop hF.ll
 ·exact .inl ⟨h.2.1, h.2.2.2⟩
theorem di_ok {p q : Par} {l : La} {b : Bool} {e : Nat} (h0 : diE p q = 0) (hn : p.next.length * q.next.length ≤ 4096) (h : DiR p q l b e) : e = 0 ∧ (b = true ↔ differP p q) ∧ (b = false → l = nilLa) ∧ (b = true → IsCanon l ∧ l.pre.length ≤ p.next.length * q.next.length ∧ l.loop.length ≤ 2 * (p.next.length * q.next.length) ∧ LasOk p l ∧ infP p l.at % 2 ≠ infP q l.at % 2) := by
 obtain ⟨hp, hq, hv⟩ := diE_zero.1 h0
 rcases h with h | h | h
 ·exact absurd h0 h.1
 ·obtain ⟨_, he, hb, i, j, hij, hi, hj, hF⟩ := h
  obtain ⟨hlas, h1, h2⟩ := diff_sound hp hq hv hij hF
  have hne : infP p l.at % 2 ≠ infP q l.at % 2 := by rw [h1, h2]; exact hij
  obtain ⟨pre, loop, hF, hC⟩ := hF
  have hG := prG_len hp hq hv
  have h3 := hF.lp
  have h4 := hF.ll
  rw [hG] at h3 h4
  exact ⟨he, ⟨fun _ => diff_complete hp hq hv hn hlas hne, fun _ => hb⟩, fun h9 => (by rw [hb] at h9; cases h9), fun _ => ⟨hC.can, Nat.le_trans hC.pre h3, Nat.le_trans hC.loop h4, hlas, hne⟩⟩
 ·exact ⟨h.2.1, ⟨fun h9 => (by rw [h.2.2.1] at h9; cases h9), fun h9 => absurd h9 h.2.2.2.2⟩, fun _ => h.2.2.2.1, fun h9 => (by rw [h.2.2.1] at h9; cases h9)⟩
theorem di_err {p q : Par} {l : La} {b : Bool} {e : Nat} (h0 : diE p q ≠ 0) (h : DiR p q l b e) : e = diE p q ∧ b = false ∧ l = nilLa := by
 rcases h with h | h | h
 ·exact ⟨h.2.1, h.2.2.1, h.2.2.2⟩
 ·exact absurd h.1 h0
 ·exact absurd h.1 h0
theorem wi_err {p : Par} {l : La} {e : Nat} (h0 : checkP p ≠ 0) (h : WiR p l e) : e = checkP p ∧ l = nilLa := by
 rcases h with h | h | h
 ·exact h.2
 ·exact absurd h.1 h0
 ·exact absurd h.1 h0
theorem diE_p {p q : Par} (h : checkP p ≠ 0) : diE p q = checkP p := if_pos h
theorem diE_q {p q : Par} (h : checkP p = 0) (h2 : checkP q ≠ 0) : diE p q = checkP q := (if_neg (fun g => g h)).trans (if_pos h2)
theorem diE_7 {p q : Par} (h : checkP p = 0) (h2 : checkP q = 0) (h3 : p.vars ≠ q.vars) : diE p q = 7 := (if_neg (fun g => g h)).trans ((if_neg (fun g => g h2)).trans (if_pos h3))
theorem di_7 {p q : Par} {l : La} {b : Bool} {e : Nat} (h1 : checkP p = 0) (h2 : checkP q = 0) (h3 : p.vars ≠ q.vars) (h : DiR p q l b e) : e = 7 ∧ b = false ∧ l.loop.length = 0 := by
 have h4 := diE_7 h1 h2 h3
 obtain ⟨a, b, c⟩ := di_err (by rw [h4]; decide) h
 exact ⟨a.trans h4, b, by rw [c]; rfl⟩
theorem di_q {p q : Par} {l : La} {b : Bool} {e : Nat} (h1 : checkP p = 0) (h2 : checkP q ≠ 0) (h : DiR p q l b e) : e = checkP q ∧ b = false ∧ l.loop.length = 0 := by
 have h4 := diE_q h1 h2
 obtain ⟨a, b, c⟩ := di_err (by rw [h4]; exact h2) h
 exact ⟨a.trans h4, b, by rw [c]; rfl⟩
theorem di_p {p q : Par} {l : La} {b : Bool} {e : Nat} (h1 : checkP p ≠ 0) (h : DiR p q l b e) : e = checkP p ∧ b = false ∧ l.loop.length = 0 := by
 have h4 := diE_p (q := q) h1
 obtain ⟨a, b, c⟩ := di_err (by rw [h4]; exact h1) h
 exact ⟨a.trans h4, b, by rw [c]; rfl⟩
end Go.Lx

