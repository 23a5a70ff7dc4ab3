/- Contracts of functions of the program (WtX): what each call answers and that it leaves memory as it was. Conditions: those each theorem names. -/
import Derived.Test.YtnmfefmhfkhihaaDoorWtO
set_option linter.unusedSectionVars false
set_option linter.unusedSimpArgs false
set_option linter.unusedVariables false
set_option linter.unnecessarySimpa false
namespace Go.Lx
set_option linter.unusedVariables false
set_option linter.unusedSimpArgs false
set_option maxRecDepth 20000
def exB : DFA := ⟨9, 0, [], []⟩
def exL : DFA := ⟨0, 0, (List.range 80).map fun s => [((min (s + 1) 79 : Nat) : Int)], (List.range 80).map fun s => decide (s = 78)⟩
theorem bd_exB : Bd9 exB := ⟨by decide, fun r hr => (by cases hr), by decide⟩
theorem exL_valid : Valid exL where
  v0 := by decide
  v6 := by decide
  n0 := by simp [exL]
  fin := by simp [exL]
  s0 := by decide
  s1 := by simp [exL]
  len r hr := by
    obtain ⟨s, _, rfl⟩ := List.mem_map.1 hr
    rfl
  ok r hr x hx := by
    obtain ⟨s, hs, rfl⟩ := List.mem_map.1 hr
    have := List.mem_range.1 hs
    rw [List.mem_singleton] at hx
    simp [exL]; omega
  n4 := by simp [exL]
theorem exL_ck : checkD exL = 0 := checkD_zero.2 exL_valid
theorem bd_exL : Bd9 exL := ⟨by simp [exL], exL_valid.bound, by simp [exL]⟩
theorem exL_to {s x : Nat} (hs : s < 80) (hx : x < 1) : toN exL s x = min (s + 1) 79 := by
  obtain rfl : x = 0 := by omega
  unfold toN exL
  simp [List.getD_eq_getElem?_getD, List.getElem?_range hs]
theorem exL_fin {s : Nat} (hs : s < 80) : finN exL s = decide (s = 78) := by
  unfold finN exL
  simp [List.getD_eq_getElem?_getD, List.getElem?_range hs]
theorem exL_run : ∀ (u : List Nat) (s : Nat), s < 80 → Wd exL u → runN exL s u = min (s + u.length) 79
  | [], s, hs, _ => by simp [runN]; omega
  | x :: u, s, hs, hw => by
    have hw' := Wd.cons.1 hw
    have hx : x < 1 := hw'.1
    rw [runN_cons, exL_to hs hx, exL_run u _ (by omega) hw'.2]
    simp only [List.length_cons]; omega
theorem exL_acc {u : List Nat} (hw : Wd exL u) : acc exL u = decide (u.length = 78) := by
  have h0 : exL.start.toNat = 0 := rfl
  unfold acc
  rw [h0, exL_run u 0 (by decide) hw, exL_fin (by omega)]
  apply decide_eq_decide.2; omega
theorem exL_least' : LeastA exL (some (List.replicate 78 0)) := by
  have hw : Wd exL (List.replicate 78 0) := fun x hx => by rw [(List.mem_replicate.1 hx).2]; decide
  refine ⟨hw, by rw [exL_acc hw]; simp, fun u hu ha => ?_⟩
  rw [exL_acc hu] at ha
  have hl : u.length = 78 := of_decide_eq_true ha
  have : u = List.replicate 78 0 := List.eq_replicate_iff.2 ⟨hl, fun x hx => by have h9 : x < 1 := hu x hx; omega⟩
  rw [this]; exact Nat.le_refl _
theorem exL_least {r : Option (List Nat)} (h : LeastA exL r) : r = some (List.replicate 78 0) := h.unique exL_valid exL_least'
theorem exL_all : allW exL 65 = [] := by
  cases h : allW exL 65 with
  | nil => rfl
  | cons u l =>
    have hm : u ∈ allW exL 65 := by rw [h]; simp
    obtain ⟨h1, h2, h3⟩ := mem_allW.1 hm
    rw [exL_acc h2] at h3
    have := of_decide_eq_true h3; omega
theorem exL_nth : nthV exL 0 = none := by rw [nthV_small exL_ck (by decide), exL_all]; rfl
theorem exL_nthE : nthE exL 0 = 0 := nthE_small exL_ck (by decide)
theorem exL_wdsE : wdsE exL 5 = 0 := by unfold wdsE; rw [if_neg (by rw [exL_ck]; decide), if_neg (by decide)]
theorem exL_wds : wdsV exL 5 = [] := by unfold wdsV; rw [if_pos exL_wdsE, exL_all]; rfl
theorem exL_inf : ¬ InfC exL exL.start.toNat := by
  rw [inf_iff exL_valid.toVal (start_lt exL_valid.toVal)]
  rintro ⟨z, h1, h2, h3, _⟩
  have h4 : acc exL z = true := h2
  rw [exL_acc h1] at h4
  have h5 := of_decide_eq_true h4
  have h6 : exL.next.length = 80 := by simp [exL]
  omega
theorem exB_cntE : cntE exB (-1) = 7 := by decide
theorem exB_cnt : cntV exB (-1) = 0 := by decide
theorem exB_wdsE : wdsE exB (-1) = 7 := by decide
theorem exB_wds : wdsV exB (-1) = [] := by unfold wdsV; rw [if_neg (by rw [exB_wdsE]; decide)]
theorem exB_nthE : nthE exB 9223372036854775808 = 7 := by decide
theorem exB_nth : nthV exB 9223372036854775808 = none := by unfold nthV; rw [if_neg (by rw [exB_nthE]; decide)]
theorem ex2_step (n : Nat) {s : Nat} (hs : s < 4) : cntN ex2 (n + 1) s = cntN ex2 n (toN ex2 s 0) + cntN ex2 n (toN ex2 s 1) := by
  rw [cntN_succ]; rfl
theorem ex2_to {s x : Nat} (hs : s < 4) (hx : x < 2) : toN ex2 s x < 4 := (ex2_valid.toN_lt hs hx).1
theorem ex2_num : ∀ (n s : Nat), s < 4 → cntN ex2 (n + 2) s = 2 ^ (n + 1)
  | 0, s, hs => by
    have : s = 0 ∨ s = 1 ∨ s = 2 ∨ s = 3 := by omega
    rcases this with rfl | rfl | rfl | rfl <;> decide
  | n + 1, s, hs => by
    rw [ex2_step _ hs, ex2_num n _ (ex2_to hs (by decide)), ex2_num n _ (ex2_to hs (by decide)), Nat.pow_succ 2 (n + 1)]; omega
theorem ex2_len : ∀ n, (allW ex2 (n + 2)).length + 2 = 2 ^ (n + 1)
  | 0 => by decide
  | n + 1 => by
    rw [allW_snoc, List.length_append]
    have h1 : (wsN ex2 (n + 2) ex2.start.toNat).length = 2 ^ (n + 1) := ex2_num n 0 (by decide)
    have h2 := ex2_len n
    rw [Nat.pow_succ 2 (n + 1)]
    omega
theorem ex2_all : (allW ex2 65).length = 18446744073709551614 := by
  have g : ∀ n m : Nat, m = n + 2 → (allW ex2 m).length + 2 = 2 ^ (n + 1) := fun n m e => by rw [e]; exact ex2_len n
  have h := g 63 65 (by decide)
  have e : (2 : Nat) ^ (63 + 1) = 18446744073709551616 := by decide
  generalize allW ex2 65 = l at h ⊢
  rw [e] at h
  omega
theorem ex2_cntL : cntE ex2 (-1) = 1 := by decide
theorem ex2_cntLV : cntV ex2 (-1) = 0 := by decide
theorem ex2_cntH : cntE ex2 65 = 1 := by decide
theorem ex2_cntHV : cntV ex2 65 = 0 := by unfold cntV; rw [if_neg (by rw [ex2_cntH]; decide)]
theorem ex2_cntM : cntE ex2 64 = 0 := by decide
theorem ex2_cntMV : cntV ex2 64 = 9223372036854775808 := by
  unfold cntV
  have g : ∀ n m : Nat, m = n + 2 → cntN ex2 m ex2.start.toNat = 2 ^ (n + 1) := fun n m e => by rw [e]; exact ex2_num n _ (by decide)
  have h := g 62 64 (by decide)
  rw [if_pos ex2_cntM, show (64 : Int).toNat = 64 by decide, h]
theorem ex2_wdsL : wdsE ex2 (-1) = 1 := by decide
theorem ex2_wdsLV : wdsV ex2 (-1) = [] := by unfold wdsV; rw [if_neg (by rw [ex2_wdsL]; decide)]
theorem ex2_wdsH : wdsE ex2 257 = 1 := by decide
theorem ex2_wdsHV : wdsV ex2 257 = [] := by unfold wdsV; rw [if_neg (by rw [ex2_wdsH]; decide)]
theorem ex2_wdsM : wdsE ex2 256 = 0 := by decide
theorem ex2_wdsMV : (wdsV ex2 256).length = 256 := by
  unfold wdsV
  rw [if_pos ex2_wdsM, List.length_take, ex2_all]; rfl
theorem ex2_wdsZ : wdsE ex2 0 = 0 := by decide
theorem ex2_wdsZV : wdsV ex2 0 = [] := by unfold wdsV; rw [if_pos ex2_wdsZ]; rfl
theorem ex2_nthB : nthE ex2 4611686018427387904 = 1 := by decide
theorem ex2_nthBV : nthV ex2 4611686018427387904 = none := by unfold nthV; rw [if_neg (by rw [ex2_nthB]; decide)]
theorem ex2_nthH : nthE ex2 4611686018427387903 = 0 := nthE_small ex2_ok (by decide)
theorem ex2_nthHV : (nthV ex2 4611686018427387903).isSome = true := by
  rw [nthV_small ex2_ok (by decide), List.getElem?_eq_getElem (by rw [ex2_all]; decide)]; rfl
end Go.Lx

