/- Contracts of functions of the program (Z7): what each call answers and that it leaves memory as it was. Conditions: those each theorem names. -/
import Derived.Test.YtnikhiohindggaaDoorZa
import Derived.Test.YtnikhiohindggaaDoorZ3
set_option linter.unusedSectionVars false
set_option linter.unusedSimpArgs false
set_option linter.unusedVariables false
set_option linter.unnecessarySimpa false
set_option maxHeartbeats 8000000
set_option maxRecDepth 20000
namespace Go.Lx
open Go.RowKit
theorem itmsK_out {E : TypeId} : ∀ {qs : List Rec} {c : Nat} (h : c < qs.length), (itms E qs).Perm (qs[c].itm E :: itms E (qs.eraseIdx c))
  | q :: qs, 0, _ => by simp
  | q :: qs, c + 1, h => by
    have ih := itmsK_out (E := E) (qs := qs) (c := c) (by simpa using h)
    simp only [itms, List.map_cons, List.eraseIdx_cons_succ, List.getElem_cons_succ] at ih ⊢
    exact (ih.cons _).trans (List.Perm.swap _ _ _)
theorem subK_out {E : TypeId} {qs : List Rec} {c : Nat} (h : c < qs.length) (X : List Item) : Sub (qs[c].itm E :: (X ++ itms E (qs.eraseIdx c))) (X ++ itms E qs) := by
  refine ⟨X ++ itms E qs, ?_, List.Sublist.refl _⟩
  exact ((List.perm_middle (a := qs[c].itm E) (l₁ := X)).symm).trans ((itmsK_out h).symm.append_left X)
theorem subK_in {E : TypeId} {qs : List Rec} {c : Nat} (h : c < qs.length) (X : List Item) (q : Rec) {cs : List Value} (hc : cs = ints q.xs) : Sub (X ++ itms E (qs.set c q)) (rowI q.b q.c E 1 cs :: (X ++ itms E (qs.eraseIdx c))) := by
  subst hc
  have h1 := itmsK_out (E := E) (qs := qs.set c q) (c := c) (by simpa using h)
  rw [List.getElem_set_self, List.eraseIdx_set_eq] at h1
  refine ⟨_, ?_, List.Sublist.refl _⟩
  exact (h1.append_left X).trans (List.perm_middle (a := q.itm E) (l₁ := X))
theorem vals_same {qs : List Rec} {c : Nat} (h : c < qs.length) {xs : List Int} (hl : xs.length = qs[c].xs.length) : vals (qs.set c ⟨qs[c].b, qs[c].c, xs⟩) = vals qs := by
  apply List.ext_getElem?
  intro i
  rw [List.getElem?_map, List.getElem?_map, List.getElem?_set]
  split
  · rename_i e; subst e
    rw [List.getElem?_eq_getElem h]
    show some (Value.slice qs[c].b xs.length qs[c].c) = some (Value.slice qs[c].b qs[c].xs.length qs[c].c)
    rw [hl]
  · rfl
theorem numsK_set {qs : List Rec} {c : Nat} {q : Rec} : nums (qs.set c q) = (nums qs).set c q.xs := by simp [nums]
theorem numsK_snoc {qs : List Rec} {q : Rec} : nums (qs ++ [q]) = nums qs ++ [q.xs] := by simp [nums]
theorem numsK_at {qs : List Rec} {c : Nat} (h : c < qs.length) : (nums qs)[c]? = some qs[c].xs := by simp [nums, h]
def fixR (j n : Nat) : List Int → List Int
  | [] => []
  | a :: r => (if a = (j : Int) then (n : Int) else a) :: r
theorem fixR_len (j n : Nat) (r : List Int) : (fixR j n r).length = r.length := by cases r <;> rfl
def brR (p : Par) (j s : Nat) : List Int := p.next.getD (if s = p.next.length then j else s) []
def coR (p : Par) (j i s : Nat) : List Int := if s < i ∧ s % 2 = 0 then fixR j p.next.length (brR p j s) else brR p j s
def coN (p : Par) (j i : Nat) : List (List Int) := (List.range (p.next.length + 1)).map (coR p j i)
def coPn (p : Par) (j : Nat) : List Int := p.prio ++ [p.prio.getD j 0]
def coP (p : Par) (j : Nat) : Par := ⟨p.vars, p.start, coN p j (p.next.length + 1), coPn p j⟩
theorem coN_len (p : Par) (j i : Nat) : (coN p j i).length = p.next.length + 1 := by simp [coN]
theorem coN_at {p : Par} {j i s : Nat} (hs : s < p.next.length + 1) : (coN p j i)[s]? = some (coR p j i s) := by
  unfold coN; rw [List.getElem?_map, List.getElem?_range hs]; rfl
theorem coN_zero {p : Par} {j : Nat} (hj : j < p.next.length) : coN p j 0 = p.next ++ [p.next[j]] := by
  apply List.ext_getElem?
  intro i
  by_cases h1 : i < p.next.length
  · rw [coN_at (by omega), List.getElem?_append_left h1, List.getElem?_eq_getElem h1]
    unfold coR brR
    rw [if_neg (by omega), if_neg (by omega), List.getD_eq_getElem?_getD, List.getElem?_eq_getElem h1]; rfl
  · by_cases h2 : i = p.next.length
    · subst h2
      rw [coN_at (by omega), List.getElem?_append_right (Nat.le_refl _), Nat.sub_self]
      unfold coR brR
      rw [if_neg (by omega), if_pos rfl, List.getD_eq_getElem?_getD, List.getElem?_eq_getElem hj]; rfl
    · rw [List.getElem?_eq_none (by rw [coN_len]; omega), List.getElem?_eq_none (by simp; omega)]
theorem coN_step {p : Par} {j s : Nat} (hs : s < p.next.length + 1) : coN p j (s + 1) = (coN p j s).set s (coR p j (s + 1) s) := by
  apply List.ext_getElem?
  intro i
  rw [List.getElem?_set]
  split
  · rename_i e; subst e
    rw [coN_at hs, if_pos (by rw [coN_len]; exact hs)]
  · rename_i e
    by_cases h1 : i < p.next.length + 1
    · rw [coN_at h1, coN_at h1]
      unfold coR
      by_cases h2 : i < s
      · by_cases h3 : i % 2 = 0
        · rw [if_pos ⟨by omega, h3⟩, if_pos ⟨h2, h3⟩]
        · rw [if_neg (fun q => h3 q.2), if_neg (fun q => h3 q.2)]
      · rw [if_neg (by omega), if_neg (by omega)]
    · rw [List.getElem?_eq_none (by rw [coN_len]; omega), List.getElem?_eq_none (by rw [coN_len]; omega)]
theorem coR_at (p : Par) (j s : Nat) : coR p j s s = brR p j s := if_neg (by omega)
theorem set_same {α : Type} {l : List α} {s : Nat} {a : α} (h : l[s]? = some a) : l.set s a = l := by
  apply List.ext_getElem?
  intro i
  rw [List.getElem?_set]
  split
  · rename_i e; subst e
    rw [if_pos (List.getElem?_eq_some_iff.1 h).1, h]
  · rfl
theorem coN_odd {p : Par} {j s : Nat} (hs : s < p.next.length + 1) (h : s % 2 ≠ 0 ∨ brR p j s = []) : coN p j (s + 1) = coN p j s := by
  rw [coN_step hs]
  refine set_same ?_
  rw [coN_at hs, coR_at]
  unfold coR
  rcases h with h | h
  · rw [if_neg (fun q => h q.2)]
  · rw [h]; split <;> rfl
theorem coN_fix {p : Par} {j s : Nat} {a : Int} {r : List Int} (hs : s < p.next.length + 1) (h : s % 2 = 0) (hr : brR p j s = a :: r) : coN p j (s + 1) = (coN p j s).set s ((if a = (j : Int) then (p.next.length : Int) else a) :: r) := by
  rw [coN_step hs]
  unfold coR
  rw [if_pos ⟨Nat.lt_succ_self s, h⟩, hr]; rfl
theorem brR_get {p : Par} {j s : Nat} (hj : j < p.next.length) (hs : s < p.next.length + 1) : ∃ o, o < p.next.length ∧ o = (if s = p.next.length then j else s) ∧ brR p j s = p.next.getD o [] ∧ brR p j s ∈ p.next := by
  refine ⟨if s = p.next.length then j else s, ?_, rfl, rfl, ?_⟩
  · split <;> omega
  · unfold brR
    have h : (if s = p.next.length then j else s) < p.next.length := by split <;> omega
    rw [List.getD_eq_getElem?_getD, List.getElem?_eq_getElem h]; exact List.getElem_mem h
theorem coR_len {p : Par} (hp : ValidP p) {j : Nat} (hj : j < p.next.length) {i s : Nat} (hs : s < p.next.length + 1) : (coR p j i s).length = letN p.d := by
  obtain ⟨o, _, _, _, hm⟩ := brR_get hj hs
  have h : (brR p j s).length = letN p.d := hp.val.len _ hm
  unfold coR
  split
  · rw [fixR_len]; exact h
  · exact h
theorem coP_valid {p : Par} (hp : ValidP p) (hn : p.next.length < 4096) {j : Nat} (hj : j < p.next.length) : ValidP (coP p j) := by
  have hlen : (coP p j).next.length = p.next.length + 1 := coN_len p j _
  refine ⟨⟨hp.val.v0, hp.val.v6, by show 0 < (coP p j).next.length; omega, by simp [Par.d], hp.val.s0, ?_, ?_, ?_⟩, by omega, ?_, ?_⟩
  · show p.start < ((coP p j).next.length : Int)
    have := hp.val.s1
    have e : (p.d.next.length : Int) = (p.next.length : Int) := rfl
    have e2 : p.d.start = p.start := rfl
    omega
  · intro r hr
    obtain ⟨s, hs, rfl⟩ := List.mem_map.1 hr
    exact coR_len hp hj (List.mem_range.1 hs)
  · intro r hr x hx
    show 0 ≤ x ∧ x < ((coP p j).next.length : Int)
    obtain ⟨s, hs, rfl⟩ := List.mem_map.1 hr
    obtain ⟨o, _, _, _, hm⟩ := brR_get hj (List.mem_range.1 hs)
    have h9 : ∀ y ∈ brR p j s, 0 ≤ y ∧ y < (p.next.length : Int) := fun y hy => hp.val.ok _ hm y hy
    have key : ∀ y ∈ brR p j s, 0 ≤ y ∧ y < ((coP p j).next.length : Int) := fun y hy => by have := h9 y hy; omega
    unfold coR at hx
    split at hx
    · cases hb : brR p j s with
      | nil => rw [hb] at hx; cases hx
      | cons a r =>
        rw [hb] at hx key
        rcases List.mem_cons.1 hx with rfl | hx
        · split
          · omega
          · exact key _ (by simp)
        · exact key _ (List.mem_cons_of_mem _ hx)
    · exact key x hx
  · show (coPn p j).length = (coP p j).next.length
    rw [hlen, coPn, List.length_append, hp.pl]; rfl
  · intro x hx
    rcases List.mem_append.1 hx with hx | hx
    · exact hp.pr x hx
    · rw [List.mem_singleton.1 hx]
      have hl : j < p.prio.length := by rw [hp.pl]; exact hj
      rw [List.getD_eq_getElem?_getD, List.getElem?_eq_getElem hl]
      exact hp.pr _ (List.getElem_mem hl)
theorem coP_pr {p : Par} (hp : ValidP p) {j : Nat} (hj : j < p.next.length) {s : Nat} (hs : s < p.next.length + 1) : prN (coP p j) s = prN p (if s = p.next.length then j else s) := by
  show ((p.prio ++ [p.prio.getD j 0]).getD s 0).toNat = (p.prio.getD (if s = p.next.length then j else s) 0).toNat
  rw [List.getD_eq_getElem?_getD]
  by_cases h : s = p.next.length
  · rw [if_pos h, List.getElem?_append_right (by rw [hp.pl]; omega), hp.pl, h, Nat.sub_self]; rfl
  · rw [if_neg h, List.getElem?_append_left (by rw [hp.pl]; omega), ← List.getD_eq_getElem?_getD]
theorem coP_to {p : Par} (hp : ValidP p) {j : Nat} (hj : j < p.next.length) {s x : Nat} (hs : s < p.next.length + 1) (hx : x < letN p.d) :
    (if toN (coP p j).d s x = p.next.length then j else toN (coP p j).d s x) = toN p.d (if s = p.next.length then j else s) x := by
  obtain ⟨o, ho, e, hb, hm⟩ := brR_get hj hs
  rw [← e]
  have h1 := hp.val.toN_lt (o := o) ho hx
  have hlt : toN p.d o x < p.next.length := h1.1
  have hrow : toN p.d o x = ((brR p j s).getD x 0).toNat := by rw [hb]; rfl
  have hc : toN (coP p j).d s x = ((coR p j (p.next.length + 1) s).getD x 0).toNat := by
    show (((coN p j (p.next.length + 1)).getD s []).getD x 0).toNat = _
    rw [List.getD_eq_getElem?_getD (l := coN p j (p.next.length + 1)), coN_at hs]; rfl
  rw [hc]
  unfold coR
  split
  · cases hb2 : brR p j s with
    | nil =>
      rw [hb2] at hrow
      show (if ((([] : List Int).getD x 0).toNat) = p.next.length then j else (([] : List Int).getD x 0).toNat) = _
      rw [← hrow, if_neg (by omega)]
    | cons a r =>
      rw [hb2] at hrow
      cases x with
      | zero =>
        have ea : toN p.d o 0 = a.toNat := hrow
        have h0 : 0 ≤ a := (hp.val.ok _ (hb2 ▸ hm) a (by simp)).1
        show (if (if a = (j : Int) then (p.next.length : Int) else a).toNat = p.next.length then j else (if a = (j : Int) then (p.next.length : Int) else a).toNat) = _
        by_cases haj : a = (j : Int)
        · rw [if_pos haj, Int.toNat_natCast, if_pos rfl]; omega
        · rw [if_neg haj, if_neg (by omega)]; exact ea.symm
      | succ x =>
        show (if ((r.getD x 0).toNat) = p.next.length then j else (r.getD x 0).toNat) = _
        have ea : toN p.d o (x + 1) = (r.getD x 0).toNat := hrow
        rw [← ea, if_neg (by omega)]
  · rw [← hrow, if_neg (by omega)]
theorem coP_quo {p : Par} (h : checkP p = 0) (hn : p.next.length < 4096) {j : Nat} (hj : j < p.next.length) : checkP (coP p j) = 0 ∧ quoV (coP p j) = quoV p := by
  have hp := checkP_zero.1 h
  have hc := coP_valid hp hn hj
  have hc0 := checkP_zero.2 hc
  refine ⟨hc0, ?_⟩
  unfold quoV
  rw [if_pos h, if_pos hc0]
  have hlen : (coP p j).next.length = p.next.length + 1 := coN_len p j _
  exact quP_copy hp hc rfl rfl hj hlen (fun s hs => coP_pr hp hj (by omega)) (fun s x hs hx => coP_to hp hj (by omega) hx)
theorem valsK_at {qs : List Rec} {c : Nat} (h : c < qs.length) : (vals qs)[c]? = some (.slice qs[c].b qs[c].xs.length qs[c].c) := by simp [h, Rec.val]
theorem itmsK_at {E : TypeId} {qs : List Rec} {c : Nat} (h : c < qs.length) {X : List Item} : rowI qs[c].b qs[c].c E 1 (ints qs[c].xs) ∈ X ++ itms E qs := List.mem_append_right _ (List.mem_map.2 ⟨qs[c], List.getElem_mem h, rfl⟩)
theorem coN_ql {p : Par} {j i : Nat} {ks : List Rec} (h : nums ks = coN p j i) : ks.length = p.next.length + 1 := by
  have h9 := congrArg List.length h
  rw [coN_len] at h9; simpa [nums] using h9
theorem coN_row {p : Par} {j i s : Nat} {ks : List Rec} (h : nums ks = coN p j i) (hl : s < ks.length) : ks[s].xs = coR p j i s := by
  have h9 := numsK_at hl
  rw [h, coN_at (by rw [← coN_ql h]; exact hl)] at h9
  exact (Option.some.inj h9).symm
theorem coN_exit {p : Par} {j s x : Nat} {ks : List Rec} (hx : x ≤ 1) (h : nums ks = coN p j (s + x)) (hl : s < ks.length) (hq : ¬ (x < ks[s].xs.length ∧ (s + x) % 2 = 0)) : nums ks = coN p j (s + 1) := by
  rcases Nat.lt_or_ge x 1 with h1 | h1
  · obtain rfl : x = 0 := by omega
    have hr := coN_row h hl
    rw [Nat.add_zero, coR_at] at hr
    rw [coN_odd (by rw [← coN_ql h]; exact hl) ?_]
    · exact h
    · by_cases h2 : s % 2 = 0
      · refine .inr (List.eq_nil_of_length_eq_zero ?_)
        rw [← hr]; omega
      · exact .inl h2
  · obtain rfl : x = 1 := by omega
    exact h
theorem coN_x {s x : Nat} (hx : x ≤ 1) (h1 : x = 1 → s % 2 = 0) (h2 : (s + x) % 2 = 0) : x = 0 := by
  rcases Nat.lt_or_ge x 1 with h | h
  · omega
  · have := h1 (by omega); omega
theorem coN_turn {p : Par} {j s x : Nat} {ks : List Rec} (hx : x ≤ 1) (h1 : x = 1 → s % 2 = 0) (h : nums ks = coN p j (s + x)) (hl : s < ks.length) (hq : x < ks[s].xs.length) (h2 : (s + x) % 2 = 0) :
    (ks[s].xs[x] ≠ (j : Int) → nums ks = coN p j (s + (x + 1))) ∧ (ks[s].xs[x] = (j : Int) → ∀ q : Rec, q.xs = ks[s].xs.set x (p.next.length : Int) → nums (ks.set s q) = coN p j (s + (x + 1))) := by
  obtain rfl := coN_x hx h1 h2
  have hr := coN_row h hl
  rw [Nat.add_zero, coR_at] at hr
  have hs : s < p.next.length + 1 := by rw [← coN_ql h]; exact hl
  rw [Nat.add_zero] at h h2
  obtain ⟨a, r, hb⟩ : ∃ a r, ks[s].xs = a :: r := by
    cases e : ks[s].xs with
    | nil => rw [e] at hq; exact absurd hq (by simp)
    | cons a r => exact ⟨a, r, rfl⟩
  have hf := coN_fix hs h2 (by rw [← hr]; exact hb)
  have e0 : ks[s].xs[0] = a := by simp [hb]
  refine ⟨fun hne => ?_, fun he q hq9 => ?_⟩
  · rw [Nat.zero_add, hf, if_neg (by rw [← e0]; exact hne), set_same]
    · exact h
    · rw [coN_at hs, coR_at, ← hr, hb]
  · rw [numsK_set, hq9, Nat.zero_add, hf, if_pos (by rw [← e0]; exact he), h, hb]; rfl
theorem cpV (p : Par) (j : Nat) (nb fb : Option Addr) (nc fc : Nat) (qs : List Rec) : pV (coP p j) ⟨nb, nc, fb, fc, qs⟩ = .agg #[.int .i64 p.vars, .int .i64 p.start, .slice nb (p.next.length + 1) nc, .slice fb (p.prio.length + 1) fc] := by
  show Value.agg #[.int .i64 p.vars, .int .i64 p.start, .slice nb (coN p j (p.next.length + 1)).length nc, .slice fb (p.prio ++ [p.prio.getD j 0]).length fc] = _
  rw [coN_len, List.length_append]; rfl
theorem Inv.atRows {base w : World} {O : List Item} {II I : TypeId} {p : Par} {nb fb : Option Addr} {nc fc : Nat} {qs : List Rec} (hI : Inv base O w) (h1 : rowI nb nc II 1 (vals qs) ∈ O) (h2 : rowI fb fc I 1 (ints p.prio) ∈ O) (h3 : ∀ q ∈ qs, Rec.itm I q ∈ O) (h4 : nums qs = p.next) : AtP w p ⟨nb, nc, fb, fc, qs⟩ := by
  refine ⟨hI.slOf h1, ?_, hI.slOf h2⟩
  rw [← h4]
  refine ⟨by simp, fun i x hx => ?_⟩
  rw [List.getElem?_map] at hx
  obtain ⟨q, hq, rfl⟩ := Option.map_eq_some_iff.1 hx
  exact ⟨q.b, q.c, by rw [List.getElem?_map, hq]; rfl, hI.slOf (h3 q (List.mem_of_getElem? hq))⟩
theorem quoV_facts {p : Par} (h : checkP p = 0) : checkP (quoV p) = 0 ∧ quoV (quoV p) = quoV p ∧ (quoV p).start = 0 ∧ (quoV p).next.length ≤ p.next.length := by
  have hp := checkP_zero.1 h
  have e : quoV p = quV p := if_pos h
  have h2 := checkP_zero.2 (quV_valid hp)
  rw [e]
  refine ⟨h2, ?_, rfl, quV_len hp⟩
  show (if checkP (quV p) = 0 then quV (quV p) else noP) = quV p
  rw [if_pos h2]; exact quV_twice hp
theorem quoV_run {p : Par} (h : checkP p = 0) (l : La) : ruE (quoV p) l = ruE p l ∧ ruV (quoV p) l = ruV p l := by
  have hp := checkP_zero.1 h
  have e : quoV p = quV p := if_pos h
  have h2 := checkP_zero.2 (quV_valid hp)
  have hv : (quV p).vars = p.vars := rfl
  rw [e]
  have e1 : ruE p l = checkLV p.vars l := by unfold ruE; rw [if_neg (by rw [h]; simp)]
  have e2 : ruE (quV p) l = checkLV p.vars l := by unfold ruE; rw [if_neg (by rw [h2]; simp), hv]
  refine ⟨e2.trans e1.symm, ?_⟩
  unfold ruV
  rw [e2, e1]
  split
  · rename_i h9
    have hl := (laV_of hp h9).ok
    exact infP_eq (bis_inf (A := p) (B := quV p) rfl (quV_bis hp) (a := l.at) hl.at (infP_is hp hl))
  · rfl
end Go.Lx

