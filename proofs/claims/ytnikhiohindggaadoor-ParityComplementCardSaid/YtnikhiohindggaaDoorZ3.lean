/- Contracts of functions of the program (Z3): what each call answers and that it leaves memory as it was. Conditions: those each theorem names. -/
import Derived.Test.YtnikhiohindggaaDoorYm
import Derived.Test.YtnikhiohindggaaDoorZd
import Derived.Test.YtnikhiohindggaaDoorYs
set_option linter.unusedSectionVars false
set_option linter.unusedSimpArgs false
set_option linter.unusedVariables false
set_option linter.unnecessarySimpa false
set_option maxHeartbeats 8000000
set_option maxRecDepth 20000
namespace Go.Lx
theorem red_ex {n : Nat} (E : Nat → Nat → Prop) (pr : Nat → Nat) : ∀ (N : Nat) (S : Nat → Prop), cardS n S ≤ N → (∀ v, S v → v < n) → ∃ r, IsRed E pr r S := by
  intro N
  induction N with
  | zero =>
    intro S hN hn
    have hno : ∀ v, ¬ S v := fun v hv => by
      have := cardS_lt (X := S) (Y := fun _ => False) (fun u hu => hu.elim) (hn v hv) hv (fun h => h)
      omega
    exact ⟨fun _ => 0, .mk (fun v hv _ => rfl) (fun v hv => absurd hv (hno v)) (fun v hv => absurd hv (hno v))⟩
  | succ N ih =>
    intro S hN hn
    have part : ∀ P : Nat → Prop, (∀ u, P u → S u) → (∃ u, P u) → ∃ r, PartRed E pr r P := by
      intro P hP hne
      obtain ⟨m, hm⟩ := isMax_ex pr (n := n) (fun u hu => hn u (hP u hu)) hne
      obtain ⟨a, ha, e⟩ := hm.1
      have hlt : cardS n (fun u => P u ∧ pr u < m) < cardS n S := cardS_lt (fun u hu => hP u hu.1) (hn a (hP a ha)) (hP a ha) (fun q => by have := q.2; omega)
      obtain ⟨o, ho⟩ := ih (fun u => P u ∧ pr u < m) (by omega) (fun v hv => hn v (hP v hv.1))
      obtain ⟨k, hk⟩ := max0_ex o (P := fun u => P u ∧ pr u < m) n (fun u hu => hn u (hP u hu.1))
      exact ⟨fun v => if pr v < m then o v else k + (k + m) % 2, PartRed.mk2 hm ho hk (fun v _ h => if_neg h) (fun v _ h => if_pos h)⟩
    classical
    let R : (Nat → Prop) → Nat → Nat := fun P => if h : ∃ r, PartRed E pr r P then Classical.choose h else fun _ => 0
    have hR : ∀ P : Nat → Prop, (∀ u, P u → S u) → (∃ u, P u) → PartRed E pr (R P) P := fun P h1 h2 => by
      have h3 := part P h1 h2
      have h4 : R P = Classical.choose h3 := dif_pos h3
      rw [h4]; exact Classical.choose_spec h3
    refine ⟨fun v => if Cyc E S v then R (Cmp E S v) v else 0, red_of_cmp (n := n) (fun v _ h => if_neg h) (fun v hv hc => (hR _ (fun u h => h.1) ⟨v, .refl hv⟩).ext fun u hu => ?_)⟩
    show (if Cyc E S u then R (Cmp E S u) u else 0) = R (Cmp E S v) u
    rw [if_pos (Cyc.of_cmp hc hu), Cmp.same hv hu]
theorem redOf_ex (p : Par) : ∃ f, RedOf p f := by
  obtain ⟨r, h⟩ := red_ex (n := p.next.length) (PEd p) (prN p) _ (StS p) (Nat.le_refl _) (fun v hv => hv)
  exact ⟨r, ⟨h⟩⟩
theorem rdV_red {p : Par} (h : checkP p = 0) : ∃ f, RedOf p f ∧ rdV p = rdP p f := by
  obtain ⟨f, hf⟩ := redOf_ex p
  exact ⟨f, hf, rdV_of h hf⟩
theorem rdV_valid {p : Par} (h : checkP p = 0) : ValidP (rdV p) := by
  obtain ⟨f, hf, e⟩ := rdV_red h
  rw [e]; exact hf.valid (checkP_zero.1 h)
theorem rdV_parts {p : Par} (h : checkP p = 0) : (rdV p).vars = p.vars ∧ (rdV p).start = p.start ∧ (rdV p).next = p.next ∧ (rdV p).prio.length = p.prio.length ∧ (rdV p).prio.length = p.next.length := by
  obtain ⟨f, hf, e⟩ := rdV_red h
  have := (checkP_zero.1 h).pl
  rw [e]; exact ⟨rfl, rfl, rfl, by simp [rdP, withP, this], by simp [rdP, withP]⟩
theorem LaV.ok {p : Par} {l : La} (h : LaV p.d l) : LasOk p l := ⟨h.l0, h.pw, h.lw⟩
theorem rdV_run0 {p : Par} (h : checkP p = 0) {l : La} (hl : LasOk p l) : infP p l.at % 2 = infP (rdV p) l.at % 2 := by
  have hp := checkP_zero.1 h
  obtain ⟨f, hf, e⟩ := rdV_red h
  have := (hf.run hp hp.val.s0 hp.val.s1 hl).1
  rw [e]
  exact this
theorem coE_check {p : Par} (h : coE p = 0) : checkP p = 0 ∧ ¬ 16 ∈ p.prio := by
  unfold coE at h
  by_cases h1 : checkP p = 0
  · rw [if_neg (by simp [h1])] at h
    refine ⟨h1, fun h2 => ?_⟩
    rw [if_pos h2] at h; cases h
  · rw [if_pos h1] at h; exact absurd h h1
theorem coV_is {p : Par} (h : coE p = 0) : coV p = withP p (fun s => ((prN p s + 1 : Nat) : Int)) := if_pos h
theorem coV_valid {p : Par} (h : coE p = 0) : ValidP (coV p) := by
  obtain ⟨h1, h2⟩ := coE_check h
  have hp := checkP_zero.1 h1
  rw [coV_is h]
  refine withP_valid hp fun s hs => ?_
  have h3 := hp.prLe s
  have h4 := hp.prAt hs
  have h5 : prN p s ≠ 16 := fun e => h2 (by rw [e] at h4; exact List.mem_of_getElem? h4)
  omega
theorem coV_inf {p : Par} (h : coE p = 0) {l : La} (hl : LasOk p l) : infP (coV p) l.at = infP p l.at + 1 := by
  have hp := checkP_zero.1 (coE_check h).1
  obtain ⟨s, w, hs, hw0, hww, hwr, hI⟩ := inf_way hp hl
  have hne : w ≠ [] := fun e => by rw [e] at hw0; exact absurd hw0 (by decide)
  have hd : (coV p).d = p.d := by rw [coV_is h]; rfl
  rw [infP_eq (hI (coV p) hd), infP_eq (hI p rfl)]
  obtain ⟨⟨u, hu, e⟩, hm⟩ := vis_isMax p s hne
  have m2 := vis_isMax (coV p) s hne
  rw [hd] at m2
  have hpr : ∀ u, u ∈ visL p.d s w → prN (coV p) u = prN p u + 1 := fun u hu => by
    rw [coV_is h, withP_pr (vis_lt hp w s hs hww u hu)]; omega
  exact m2.unique ⟨⟨u, hu, by rw [hpr u hu, e]⟩, fun v hv => by rw [hpr v hv]; exact Nat.succ_le_succ (hm v hv)⟩
theorem coV_parts {p : Par} (h : coE p = 0) : (coV p).vars = p.vars ∧ (coV p).next = p.next := by rw [coV_is h]; exact ⟨rfl, rfl⟩
theorem coV_no {p : Par} (h : coE p ≠ 0) : coV p = noP := if_neg h
theorem coV_run {p : Par} (h : coE p = 0) (l : La) : ruE (coV p) l = ruE p l ∧ (ruE p l = 0 → ruV (coV p) l = ruV p l + 1) := by
  have hp := (coE_check h).1
  have hc := checkP_zero.2 (coV_valid h)
  have e1 : ruE p l = checkLV p.vars l := by unfold ruE; rw [if_neg (by rw [hp]; simp)]
  have e2 : ruE (coV p) l = checkLV p.vars l := by unfold ruE; rw [if_neg (by rw [hc]; simp), (coV_parts h).1]
  refine ⟨e2.trans e1.symm, fun h9 => ?_⟩
  unfold ruV; rw [if_pos h9, if_pos (e2.trans (e1 ▸ h9))]
  exact coV_inf h (laV_of (checkP_zero.1 hp) (e1 ▸ h9)).ok
theorem word_ex {p : Par} (h : ValidP p) : ∃ l, LasOk p l := ⟨⟨[], [0]⟩, by decide, fun x hx => (List.not_mem_nil hx).elim, fun x hx => by
  rw [List.mem_singleton.1 hx]; exact Nat.two_pow_pos _⟩
theorem coV_dif {p : Par} (h : coE p = 0) (hn : p.next.length ≤ 64) {l : La} {b : Bool} {e : Nat} (hd : DiR p (coV p) l b e) : b = true ∧ e = 0 := by
  have hp := checkP_zero.1 (coE_check h).1
  have hc := coV_valid h
  obtain ⟨hv, hnx⟩ := coV_parts h
  have h0 : diE p (coV p) = 0 := diE_zero.2 ⟨hp, hc, hv.symm⟩
  rcases hd with hd | hd | hd
  · exact absurd h0 hd.1
  · exact ⟨hd.2.2.1, hd.2.1⟩
  · obtain ⟨l9, hl9⟩ := word_ex hp
    refine absurd (diff_complete hp hc hv.symm ?_ hl9 ?_) hd.2.2.2.2
    · rw [hnx]; exact Nat.le_trans (Nat.mul_le_mul hn hn) (by decide)
    · rw [coV_inf h hl9]; omega
theorem coV_back {p : Par} (h : coE p = 0) (hj : coE (rdV (coV p)) = 0) {l : La} {b : Bool} {e : Nat} (hd : DiR p (coV (rdV (coV p))) l b e) : b = false ∧ e = 0 := by
  have hp := checkP_zero.1 (coE_check h).1
  have hc := coV_valid h
  have hcc := checkP_zero.2 hc
  have hr := rdV_valid hcc
  have hdv := coV_valid hj
  obtain ⟨hv1, hnx1⟩ := coV_parts h
  obtain ⟨hv2, _, hnx2, _⟩ := rdV_parts hcc
  obtain ⟨hv3, hnx3⟩ := coV_parts hj
  have hv : p.vars = (coV (rdV (coV p))).vars := by rw [hv3, hv2, hv1]
  have h0 : diE p (coV (rdV (coV p))) = 0 := diE_zero.2 ⟨hp, hdv, hv⟩
  rcases hd with hd | hd | hd
  · exact absurd h0 hd.1
  · obtain ⟨_, _, _, i, j, hne, _, _, hF⟩ := hd
    obtain ⟨hl, h1, h2⟩ := diff_sound hp hdv hv hne hF
    have hlc : LasOk (coV p) l := ⟨hl.pos, fun x hx => by show x < 2 ^ (coV p).vars.toNat; rw [hv1]; exact hl.pre x hx, fun x hx => by show x < 2 ^ (coV p).vars.toNat; rw [hv1]; exact hl.loop x hx⟩
    have hlr : LasOk (rdV (coV p)) l := ⟨hl.pos, fun x hx => by show x < 2 ^ (rdV (coV p)).vars.toNat; rw [hv2]; exact hlc.pre x hx, fun x hx => by show x < 2 ^ (rdV (coV p)).vars.toNat; rw [hv2]; exact hlc.loop x hx⟩
    have g1 := coV_inf h hl
    have g2 := rdV_run0 hcc hlc
    have g3 := coV_inf hj hlr
    omega
  · exact ⟨hd.2.2.1, hd.2.1⟩
theorem coE_two {p : Par} (h : checkP p = 0) : coE p = 0 ∨ coE p = 4 := by
  unfold coE; rw [if_neg (by simp [h])]
  by_cases h2 : 16 ∈ p.prio
  · exact .inr (if_pos h2)
  · exact .inl (if_neg h2)
theorem back_len {p : Par} (h : coE p = 0) : (coV (rdV (coV p))).next.length ≤ p.next.length := by
  have hcc := checkP_zero.2 (coV_valid h)
  by_cases hj : coE (rdV (coV p)) = 0
  · rw [(coV_parts hj).2, (rdV_parts hcc).2.2.1, (coV_parts h).2]; exact Nat.le_refl _
  · rw [coV_no hj]; exact Nat.zero_le _
end Go.Lx

