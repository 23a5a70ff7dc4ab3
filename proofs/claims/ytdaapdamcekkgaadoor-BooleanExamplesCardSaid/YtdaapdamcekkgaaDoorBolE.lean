/- Contracts of functions of the program (BolE): what each call answers and that it leaves memory as it was. Conditions: those each theorem names. -/
import Derived.Test.YtdaapdamcekkgaaDoorBolD
set_option linter.unusedSectionVars false
set_option linter.unusedSimpArgs false
set_option linter.unusedVariables false
set_option linter.unnecessarySimpa false
namespace Go.Lx
open Go.RowKit
set_option linter.unusedVariables false
def cycD (n : Nat) : DFA := ⟨0, 0, (List.range n).map fun s => [(((s + 1) % n : Nat) : Int)], (List.range n).map fun s => decide (((s : Nat) : Int) = 0)⟩
theorem cyc_len (n : Nat) : (cycD n).next.length = n := by simp [cycD]
theorem cyc_let (n : Nat) : letN (cycD n) = 1 := rfl
theorem cyc_valid {n : Nat} (h1 : 1 ≤ n) (h2 : n ≤ 4096) : Valid (cycD n) := by
  refine { v0 := (show (0 : Int) ≤ 0 by decide), v6 := (show (0 : Int) ≤ 6 by decide), n0 := by rw [cyc_len]; omega, n4 := by rw [cyc_len]; exact h2, fin := by simp [cycD], s0 := (show (0 : Int) ≤ 0 by decide), s1 := by rw [cyc_len]; show (0 : Int) < n; omega, len := ?_, ok := ?_ }
  · intro r hr
    obtain ⟨s, _, rfl⟩ := List.mem_map.1 hr
    rfl
  · intro r hr x hx
    obtain ⟨s, _, rfl⟩ := List.mem_map.1 hr
    rw [List.mem_singleton] at hx
    subst hx
    rw [cyc_len]
    have := Nat.mod_lt (s + 1) (show 0 < n by omega)
    omega
theorem cyc_step {n s : Nat} (hs : s < n) : toN (cycD n) s 0 = (s + 1) % n := by
  show (((cycD n).next.getD s []).getD 0 0).toNat = _
  unfold cycD
  rw [List.getD_eq_getElem?_getD (l := List.map _ _), List.getElem?_map, List.getElem?_range hs]
  exact Int.toNat_natCast _
theorem cyc_word {n : Nat} {w : List Nat} (hw : Wd (cycD n) w) : ∀ x ∈ w, x = 0 := fun x hx => by have := hw x hx; rw [cyc_let] at this; omega
theorem cyc_run {n : Nat} (h1 : 1 ≤ n) : ∀ w, Wd (cycD n) w → runN (cycD n) 0 w = w.length % n := by
  refine snocInd (fun _ => (Nat.zero_mod n).symm) ?_
  intro w x ih hw
  have hw1 : Wd (cycD n) w := fun y hy => hw y (by simp [hy])
  have hx : x = 0 := cyc_word hw x (by simp)
  rw [runN_snoc, ih hw1, hx, cyc_step (Nat.mod_lt _ (by omega)), List.length_append, List.length_singleton, Nat.mod_add_mod]
theorem cyc_fin {n s : Nat} (hs : s < n) : finN (cycD n) s = decide (s = 0) := by
  show ((cycD n).final.getD s false) = _
  unfold cycD
  rw [List.getD_eq_getElem?_getD, List.getElem?_map, List.getElem?_range hs]
  simp
theorem cyc_acc {n : Nat} (h1 : 1 ≤ n) {w : List Nat} (hw : Wd (cycD n) w) : acc (cycD n) w = decide (w.length % n = 0) := by
  unfold acc
  rw [show (cycD n).start.toNat = 0 from rfl, cyc_run h1 w hw, cyc_fin (Nat.mod_lt _ (by omega))]
theorem cyc_has {n : Nat} (h1 : 1 ≤ n) (h2 : n ≤ 4096) : HasL 0 n (cycD n) (fun w => decide (w.length % n = 0)) := ⟨cyc_valid h1 h2, by rw [cyc_len]; exact Nat.le_refl _, rfl, fun w hw => cyc_acc h1 hw⟩
def cpr (k : Nat) : Nat := k % 64 * 65 + k % 65
theorem cpr_inj {i j : Nat} (hi : i < 4160) (hj : j < 4160) (h : cpr i = cpr j) : i = j := by
  unfold cpr at h
  have h1 := pr_div (n := 65) (s := i % 64) (t := i % 65) (Nat.mod_lt _ (by decide))
  have h2 := pr_div (n := 65) (s := j % 64) (t := j % 65) (Nat.mod_lt _ (by decide))
  rw [h] at h1
  have e1 : i % 64 = j % 64 := h1.1.symm.trans h2.1
  have e2 : i % 65 = j % 65 := h1.2.symm.trans h2.2
  omega
theorem cpr_step (f : Bool → Bool → Bool) (k : Nat) : toN (prodD f (cycD 64) (cycD 65)) (cpr k) 0 = cpr (k + 1) := by
  have h := prod_step (f := f) (a := cycD 64) (b := cycD 65) (s := k % 64) (t := k % 65) (x := 0) (by rw [cyc_len]; exact Nat.mod_lt _ (by decide)) (by rw [cyc_len]; exact Nat.mod_lt _ (by decide)) (by rw [cyc_let]; decide)
  rw [cyc_len, cyc_step (Nat.mod_lt _ (by decide)), cyc_step (Nat.mod_lt _ (by decide))] at h
  show toN _ (k % 64 * 65 + k % 65) 0 = _
  rw [h, Nat.mod_add_mod, Nat.mod_add_mod]; rfl
theorem cpr_bfs (f : Bool → Bool → Bool) : ∀ i, i < 4159 → bfsN (prodD f (cycD 64) (cycD 65)) i = (List.range (i + 1)).map cpr
  | 0, _ => by
    show [(prodD f (cycD 64) (cycD 65)).start.toNat] = _
    rw [show (prodD f (cycD 64) (cycD 65)).start.toNat = (cycD 64).start.toNat * (cycD 65).next.length + (cycD 65).start.toNat from Int.toNat_natCast _, cyc_len]; rfl
  | i + 1, h => by
    have ih := cpr_bfs f i (by omega)
    have hg : (bfsN (prodD f (cycD 64) (cycD 65)) i)[i]? = some (cpr i) := by rw [ih, List.getElem?_map, List.getElem?_range (by omega)]; rfl
    rw [bfsN_succ hg]
    have hs : sucs (prodD f (cycD 64) (cycD 65)) (cpr i) = [cpr (i + 1)] := by
      unfold sucs
      rw [show 2 ^ (prodD f (cycD 64) (cycD 65)).vars.toNat = 1 from rfl]
      show [toN _ (cpr i) 0] = _
      rw [cpr_step]
    rw [hs, ih]
    show add _ (cpr (i + 1)) = _
    unfold add
    rw [if_neg, List.range_succ (n := i + 1), List.map_append]; rfl
    intro hm
    obtain ⟨j, hj, e⟩ := List.mem_map.1 hm
    have hj := List.mem_range.1 hj
    have := cpr_inj (by omega) (by omega) e
    omega
theorem cyc_big (f : Bool → Bool → Bool) : 4096 < (order (prodD f (cycD 64) (cycD 65))).length := by
  have h1 := (bfsN_prefix (prodD f (cycD 64) (cycD 65)) 4100 (prodD f (cycD 64) (cycD 65)).next.length (by rw [prod_len, cyc_len, cyc_len]; decide)).length_le
  rw [cpr_bfs f 4100 (by decide)] at h1
  show 4096 < (bfsN _ _).length
  rw [List.length_map, List.length_range] at h1
  omega
theorem wd_zero {v : Int} (hv : 2 ^ v.toNat = 1) (n : Nat) : WdV v (List.replicate n 0) := fun x hx => by
  rw [List.eq_of_mem_replicate hx, hv]; decide
theorem word_zero {w : List Nat} (hw : WdV 0 w) : w = List.replicate w.length 0 := List.eq_replicate_iff.2 ⟨rfl, fun x hx => by have := hw x hx; simpa using this⟩
theorem code_zero (n : Nat) : code (List.replicate n 0) ≤ code (List.replicate (n + 1) 0) := by
  rw [List.replicate_succ', code_snoc]; omega
theorem code_zeros : ∀ (m n : Nat), n ≤ m → code (List.replicate n 0) ≤ code (List.replicate m 0)
  | 0, n, h => by rw [Nat.le_zero.1 h]; exact Nat.le_refl _
  | m + 1, n, h => by
    by_cases e : n = m + 1
    · rw [e]; exact Nat.le_refl _
    · exact Nat.le_trans (code_zeros m n (by omega)) (code_zero m)
theorem c79_wrong : wrongD (cycD 7) (cycD 9) = 0 := (cyc_has (n := 7) (by decide) (by decide)).wrong (cyc_has (n := 9) (by decide) (by decide))
theorem c79_and : (opV andB (cycD 7) (cycD 9)).next.length = 63 := by
  rw [opV_ok c79_wrong]
  have hm := (cyc_has (n := 7) (by decide) (by decide)).op (f := andB) (cyc_has (n := 9) (by decide) (by decide)) (by decide)
  generalize opD andB (cycD 7) (cycD 9) = M at hm ⊢
  refine Nat.le_antisymm hm.len ?_
  have hv := hm.valid
  have hw : ∀ k, WdV 0 (List.replicate k 0) := fun k => wd_zero rfl k
  have ac : ∀ k, acc M (List.replicate k 0) = (decide (k % 7 = 0) && decide (k % 9 = 0)) := fun k => by
    rw [hm.acc _ (hw k), List.length_replicate]; rfl
  have key : ∀ k l, k < l → l < 63 → runN M M.start.toNat (List.replicate k 0) ≠ runN M M.start.toNat (List.replicate l 0) := fun k l hkl hl e => by
    have e1 : acc M (List.replicate k 0 ++ List.replicate (63 - l) 0) = acc M (List.replicate l 0 ++ List.replicate (63 - l) 0) := by
      unfold acc
      rw [runN_append, runN_append, e]
    rw [List.replicate_append_replicate, List.replicate_append_replicate, ac, ac, show l + (63 - l) = 63 by omega] at e1
    rw [show (decide (63 % 7 = 0) && decide (63 % 9 = 0)) = true by decide, Bool.and_eq_true, decide_eq_true_eq, decide_eq_true_eq] at e1
    omega
  have hn : ((List.range 63).map fun k => runN M M.start.toNat (List.replicate k 0)).Nodup := map_nodup List.nodup_range fun a ha b hb e => by
    have ha := List.mem_range.1 ha; have hb := List.mem_range.1 hb
    rcases Nat.lt_trichotomy a b with h | h | h
    · exact absurd e (key a b h hb)
    · exact h
    · exact absurd e.symm (key b a h ha)
  have := nodup_bound (n := M.next.length) hn fun x hx => by
    obtain ⟨k, _, rfl⟩ := List.mem_map.1 hx
    exact runN_lt hv (start_lt hv) _ (hm.toHasL.wd.2 (hw k))
  simpa using this
theorem c79_incl {res : Option (List Nat)} (h : InclA (cycD 7) (cycD 9) res) : res = some [0, 0, 0, 0, 0, 0, 0] := by
  have h7 := cyc_has (n := 7) (by decide) (by decide)
  have h9 := cyc_has (n := 9) (by decide) (by decide)
  have hm := h7.op (f := minusB) h9 (by decide)
  refine ((InclA.ok c79_wrong).1 h).unique hm.valid ?_
  have w7 : WdV 0 [0, 0, 0, 0, 0, 0, 0] := wd_zero (v := 0) rfl 7
  refine ⟨hm.toHasL.wd.2 w7, by rw [hm.acc _ w7]; decide, fun u hu ha => ?_⟩
  have wu := hm.toHasL.wd.1 hu
  rw [hm.acc u wu] at ha
  have hl : 7 ≤ u.length := by
    simp only [minusB, Bool.and_eq_true, Bool.not_eq_true', decide_eq_true_eq, decide_eq_false_iff_not] at ha
    refine Classical.byContradiction fun hc => ?_
    have : u.length = 0 := by omega
    rw [this] at ha
    exact ha.2 rfl
  rw [word_zero wu]
  exact code_zeros u.length 7 hl
def badE : DFA := ⟨1, 0, [[0, 1]], [true]⟩
def othE : DFA := ⟨0, 0, [[0]], [true]⟩
theorem oth_valid : Valid othE := checkD_zero.1 (by decide)
theorem oth_not : (opV notB othE othE).final = [false] ∧ Valid (opV notB othE othE) := by
  have ho : HasL 0 1 othE (fun _ => true) := ⟨oth_valid, by decide, rfl, fun w hw => stay_acc (v := 0) (by decide) (by decide) true hw⟩
  rw [opV_ok (ho.wrong ho)]
  have hm := ho.op (f := notB) ho (by decide)
  obtain ⟨h1, h2⟩ := hm.empty.2 fun w _ => rfl
  have hf := hm.valid.fin
  refine ⟨?_, hm.valid⟩
  rw [h1] at hf
  unfold finN at h2
  generalize (opD notB othE othE).final = l at hf h2
  match l, hf with
  | [x], _ => simp at h2; rw [h2]
theorem at_noD (w : World) : At w noD k00 := ⟨Sl.nil w none, ⟨rfl, fun i r h => by simp [noD] at h⟩, Sl.nil w none⟩
theorem eo_wrong : wrongD exO othE = 7 := by decide
theorem be_wrong : wrongD badE noD = 8 := by decide
theorem on_wrong2 : wrongD exO noD = 3 := by decide
theorem all7 (l : List DFA) : allV 7 l = (noD, 7) := by unfold allV; rw [if_neg (by decide)]
theorem all_ob : allV 1 [exO, othE, badE] = (noD, 7) := by
  unfold allV
  rw [if_pos (by decide)]
  have hs : HasL 1 1 (stayD 1 true) (fun _ => true) := ⟨stay_valid (by decide) (by decide) true, Nat.le_refl _, rfl, fun w hw => stay_acc (by decide) (by decide) true hw⟩
  have H1 := hs.op (f := andB) exO_has (by decide)
  have hw : wrongD (opD andB (stayD 1 true) exO) othE = 7 := wrong_vars (checkD_zero.2 H1.valid) (by decide) (by rw [H1.vars]; decide)
  simp only [allR, if_pos (hs.wrong exO_has), hw]
  rfl
theorem ok_ob (n : Int) (hn : n = 1) : AllOk (stayD n true) [exO, othE, badE] := by
  subst hn
  intro _
  have hs : HasL 1 1 (stayD 1 true) (fun _ => true) := ⟨stay_valid (by decide) (by decide) true, Nat.le_refl _, rfl, fun w hw => stay_acc (by decide) (by decide) true hw⟩
  have H1 := hs.op (f := andB) exO_has (by decide)
  have hw : wrongD (opD andB (stayD 1 true) exO) othE = 7 := wrong_vars (checkD_zero.2 H1.valid) (by decide) (by rw [H1.vars]; decide)
  exact ⟨by decide, fun h => absurd (hw.symm.trans h) (by decide)⟩
theorem all_no : allV 0 [] = (othE, 0) := by unfold allV; rw [if_pos (by decide)]; rfl
end Go.Lx

