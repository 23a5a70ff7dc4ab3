/- Contracts of functions of the program (Z3): what each call answers and that it leaves memory as it was. Conditions: those each theorem names. -/
import Derived.Test.YtnikhiohindggaaDoorYm
import Derived.Test.YtnikhiohindggaaDoorZd
import Derived.Test.YtnikhiohindggaaDoorYs
set_option linter.unusedSectionVars false
set_option linter.unusedSimpArgs false
set_option linter.unusedVariables false
set_option linter.unnecessarySimpa false
set_option maxHeartbeats 8000000
set_option maxRecDepth 20000
namespace Go.Lx
theorem red_ex {n : Nat} (E : Nat → Nat → Prop) (pr : Nat → Nat) : ∀ (N : Nat) (S : Nat → Prop), cardS n S ≤ N → (∀ v, S v → v < n) → ∃ r, IsRed E pr r S := by
  intro N
  induction N with
  | zero =>
    intro S hN hn
    have hno : ∀ v, ¬ S v := fun v hv => by
      have := cardS_lt (X := S) (Y := fun _ => False) (fun u hu => hu.elim) (hn v hv) hv (fun h => h)
      omega
    exact ⟨fun _ => 0, .mk (fun v hv _ => rfl) (fun v hv => absurd hv (hno v)) (fun v hv => absurd hv (hno v))⟩
  | succ N ih =>
    intro S hN hn
    have part : ∀ P : Nat → Prop, (∀ u, P u → S u) → (∃ u, P u) → ∃ r, PartRed E pr r P := by
      intro P hP hne
      obtain ⟨m, hm⟩ := isMax_ex pr (n := n) (fun u hu => hn u (hP u hu)) hne
      obtain ⟨a, ha, e⟩ := hm.1
      have hlt : cardS n (fun u => P u ∧ pr u < m) < cardS n S := cardS_lt (fun u hu => hP u hu.1) (hn a (hP a ha)) (hP a ha) (fun q => by have := q.2; omega)
      obtain ⟨o, ho⟩ := ih (fun u => P u ∧ pr u < m) (by omega) (fun v hv => hn v (hP v hv.1))
      obtain ⟨k, hk⟩ := max0_ex o (P := fun u => P u ∧ pr u < m) n (fun u hu => hn u (hP u hu.1))
      exact ⟨fun v => if pr v < m then o v else k + (k + m) % 2, PartRed.mk2 hm ho hk (fun v _ h => if_neg h) (fun v _ h => if_pos h)⟩
    classical
    let R : (Nat → Prop) → Nat → Nat := fun P => if h : ∃ r, PartRed E pr r P then Classical.choose h else fun _ => 0
    have hR : ∀ P : Nat → Prop, (∀ u, P u → S u) → (∃ u, P u) → PartRed E pr (R P) P := fun P h1 h2 => by
      have h3 := part P h1 h2
      have h4 : R P = Classical.choose h3 := dif_pos h3
      rw [h4]; exact Classical.choose_spec h3
    refine ⟨fun v => if Cyc E S v then R (Cmp E S v) v else 0, red_of_cmp (n := n) (fun v _ h => if_neg h) (fun v hv hc => (hR _ (fun u h => h.1) ⟨v, .refl hv⟩).ext fun u hu => ?_)⟩
    show (if Cyc E S u then R (Cmp E S u) u else 0) = R (Cmp E S v) u
    rw [if_pos (Cyc.of_cmp hc hu), Cmp.same hv hu]
theorem redOf_ex (p : Par) : ∃ f, RedOf p f := by
  obtain ⟨r, h⟩ := red_ex (n := p.next.length) (PEd p) (prN p) _ (StS p) (Nat.le_refl _) (fun v hv => hv)
  exact ⟨r, ⟨h⟩⟩
theorem rdV_red {p : Par} (h : checkP p = 0) : ∃ f, RedOf p f ∧ rdV p = rdP p f := by
  obtain ⟨f, hf⟩ := redOf_ex p
  exact ⟨f, hf, rdV_of h hf⟩
theorem rdV_valid {p : Par} (h : checkP p = 0) : ValidP (rdV p) := by
  obtain ⟨f, hf, e⟩ := rdV_red h
  rw [e]; exact hf.valid (checkP_zero.1 h)
theorem rdV_twice {p : Par} (h : checkP p = 0) : rdV (rdV p) = rdV p := by
  obtain ⟨f, hf, e⟩ := rdV_red h
  have hv := checkP_zero.2 (rdV_valid h)
  obtain ⟨g, hg, e2⟩ := rdV_red hv
  rw [e2]
  rw [e] at hg ⊢
  exact hf.twice hg
theorem rdV_parts {p : Par} (h : checkP p = 0) : (rdV p).vars = p.vars ∧ (rdV p).start = p.start ∧ (rdV p).next = p.next ∧ (rdV p).prio.length = p.prio.length ∧ (rdV p).prio.length = p.next.length := by
  obtain ⟨f, hf, e⟩ := rdV_red h
  have := (checkP_zero.1 h).pl
  rw [e]; exact ⟨rfl, rfl, rfl, by simp [rdP, withP, this], by simp [rdP, withP]⟩
theorem rdV_le {p : Par} (h : checkP p = 0) {s : Nat} (hs : s < p.next.length) : (rdV p).prio.getD s 0 ≤ p.prio.getD s 0 := by
  obtain ⟨f, hf, e⟩ := rdV_red h
  have h1 := hf.red.le (n := p.next.length) (fun v hv => hv) s hs
  have hp := checkP_zero.1 h
  have h2 := hp.prAt hs
  rw [e]
  have h3 : (rdP p f).prio.getD s 0 = ((f s : Nat) : Int) := by
    rw [List.getD_eq_getElem?_getD]; unfold rdP withP
    rw [List.getElem?_map, List.getElem?_range hs]; rfl
  rw [h3, List.getD_eq_getElem?_getD, h2]
  show ((f s : Nat) : Int) ≤ ((prN p s : Nat) : Int)
  omega
theorem LaV.ok {p : Par} {l : La} (h : LaV p.d l) : LasOk p l := ⟨h.l0, h.pw, h.lw⟩
theorem start_valid {p : Par} (h : ValidP p) {s : Int} (h0 : 0 ≤ s) (h1 : s < (p.next.length : Int)) : ValidP { p with start := s } := ⟨{ h.val with s0 := h0, s1 := h1 }, h.n4, h.pl, h.pr⟩
theorem rdV_run {p : Par} (h : checkP p = 0) {s : Int} (h0 : 0 ≤ s) (h1 : s < (p.next.length : Int)) (l : La) :
    ruE { rdV p with start := s } l = ruE { p with start := s } l ∧ (ruE { p with start := s } l = 0 → ruV { p with start := s } l % 2 = ruV { rdV p with start := s } l % 2 ∧ ruV { rdV p with start := s } l ≤ ruV { p with start := s } l) := by
  have hp := checkP_zero.1 h
  obtain ⟨hv, hst, hn, hpl, _⟩ := rdV_parts h
  have v1 := start_valid hp h0 h1
  have v2 := start_valid (rdV_valid h) h0 (by rw [hn]; exact h1)
  have e1 : ruE { p with start := s } l = checkLV p.vars l := by unfold ruE; rw [if_neg (by rw [checkP_zero.2 v1]; simp)]
  have e2 : ruE { rdV p with start := s } l = checkLV p.vars l := by unfold ruE; rw [if_neg (by rw [checkP_zero.2 v2]; simp), ← hv]
  refine ⟨e2.trans e1.symm, fun h9 => ?_⟩
  have hl := (laV_of v1 (e1 ▸ h9)).ok
  obtain ⟨f, hf, e⟩ := rdV_red h
  have h8 : ruE { rdV p with start := s } l = 0 := e2.trans (e1 ▸ h9)
  unfold ruV; rw [if_pos h9, if_pos h8, e]
  exact hf.run hp h0 h1 ⟨hl.pos, hl.pre, hl.loop⟩
abbrev stP (p : Par) (s : Int) : Par := ⟨p.vars, s, p.next, p.prio⟩
theorem rdV_runS {p : Par} (h : checkP p = 0) {s : Int} (h0 : 0 ≤ s) (h1 : s < (p.next.length : Int)) (l : La) :
    ruE (stP (rdV p) s) l = ruE (stP p s) l ∧ (ruE (stP p s) l = 0 → ruV (stP p s) l % 2 = ruV (stP (rdV p) s) l % 2 ∧ ruV (stP (rdV p) s) l ≤ ruV (stP p s) l) := rdV_run h h0 h1 l
end Go.Lx

