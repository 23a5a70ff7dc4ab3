/- Contracts of functions of the program (WtQ): what each call answers and that it leaves memory as it was. Conditions: those each theorem names. -/
import Derived.Test.YtnmfefmhfkhihaaDoorWtO
import Derived.Test.YtnmfefmhfkhihaaDoorW7
set_option linter.unusedSectionVars false
set_option linter.unusedSimpArgs false
set_option linter.unusedVariables false
set_option linter.unnecessarySimpa false
namespace Go.Lx
open Go.RowKit
set_option linter.unusedVariables false
section
variable {P : Program} {base : World} {ρ : Env} {O : List Item} {dst : Option Nat} {t : TypeId} {p : String} {af : Array Edge} {g : Option (Nat × Bool)}
theorem q_shlM {x y : Operand} {T U : TypeId} {k' : IntKind} {a b : Nat} (hx : ev ρ x = .int .u64 (a : Int)) (hy : ev ρ y = .int k' (b : Int)) (hb : b ≤ 64) : QT P base ⟨dst, .binOp .shl T x y U, t, p, af, g⟩ ρ O (.int .u64 ((a * 2 ^ b % 18446744073709551616 : Nat) : Int)) := fun w _ => by
  have h0 : ¬ (b : Int) < 0 := by omega
  have h1 : min (b : Int).toNat IntKind.u64.bits = b := by rw [Int.toNat_natCast]; exact Nat.min_eq_left hb
  have h2 : IntKind.u64.wrap ((a : Int) * 2 ^ b) = ((a * 2 ^ b % 18446744073709551616 : Nat) : Int) := by
    rw [← wrapM]; congr 1
  simp only [execOp, hx, hy, eqGuard, binOp, Op.shift, h0, if_false, h1, h2]
  simp
end
theorem flip_to (a : DFA) (s x : Nat) : toN (flipD a) s x = toN a s x := rfl
theorem cntN_flip {a : DFA} (hv : Val a) : ∀ (n s : Nat), s < a.next.length → cntN a n s + cntN (flipD a) n s = letN a ^ n
  | 0, s, hs => by
    rw [cntN_zero, cntN_zero, flip_fin hv hs]
    cases finN a s <;> rfl
  | n + 1, s, hs => by
    rw [cntN_succ, cntN_succ, show letN (flipD a) = letN a from rfl, sum_add]
    rw [sum_const (c := letN a ^ n) fun x hx => by
      rw [flip_to]; exact cntN_flip hv n _ (hv.toN_lt hs (List.mem_range.1 hx)).1]
    rw [List.length_range, Nat.pow_succ, Nat.mul_comm]
theorem sorted_nodup {l : List (List Nat)} (h : l.Pairwise fun a b => code a < code b) : l.Nodup := h.imp fun h e => by subst e; omega
theorem cntN_lang {a b : DFA} (ha : Val a) (hb : Val b) (hv : a.vars = b.vars) (h : ∀ u, Wd a u → acc a u = acc b u) (n : Nat) : cntN a n a.start.toNat = cntN b n b.start.toNat := by
  have hW : ∀ u, Wd a u ↔ Wd b u := fun u => by unfold Wd letN; rw [hv]
  have hp : (wsN a n a.start.toNat).Perm (wsN b n b.start.toNat) := by
    refine (List.perm_ext_iff_of_nodup (sorted_nodup (wsN_sorted ha n _)) (sorted_nodup (wsN_sorted hb n _))).2 fun u => ?_
    rw [mem_wsN, mem_wsN]
    constructor
    · rintro ⟨h1, h2, h3⟩; exact ⟨h1, (hW u).1 h2, by have := h u h2; unfold acc at this; rw [← this]; exact h3⟩
    · rintro ⟨h1, h2, h3⟩; exact ⟨h1, (hW u).2 h2, by have := h u ((hW u).2 h2); unfold acc at this; rw [this]; exact h3⟩
  exact hp.length_eq
structure NotOf (a M : DFA) : Prop where
  valid : Valid M
  vars : M.vars = a.vars
  acc : ∀ w, Wd a w → acc M w = !Lx.acc a w
theorem not_of {a : DFA} (hv : Valid a) (hn : a.next.length ≤ 12) : NotOf a (opV notB a a) := by
  have h := ((HasL.of hv hn).not (by decide)).toHasL
  rw [opV_ok (by rw [wrongD_self]; exact checkD_zero.2 hv)]
  exact ⟨h.valid, h.vars, fun w hw => h.acc w hw⟩
theorem not_count {a M : DFA} (hv : Valid a) (hM : NotOf a M) (n : Nat) : cntN a n a.start.toNat + cntN M n M.start.toNat = letN a ^ n := by
  rw [← cntN_flip hv.toVal n _ (start_lt hv.toVal)]
  congr 1
  exact cntN_lang hM.valid.toVal (flip_val hv.toVal) hM.vars (fun u hu => by
    have hu' : Wd a u := fun x hx => by have := hu x hx; unfold letN at *; rw [← hM.vars]; exact this
    rw [hM.acc u hu', flip_acc hv.toVal hu']) n
theorem bd_valid {a : DFA} (h : Valid a) : Bd9 a := ⟨by have := h.n4; omega, h.bound, by have := h.fin; have := h.n4; omega⟩
theorem cntE_ok {a : DFA} {n : Int} {m : Nat} (he : checkD a = 0) (hm : n = m) (hl : m ≤ 64) : cntE a n = 0 := by
  unfold cntE; rw [if_neg (by omega), if_neg (by omega)]
theorem cntV_ok {a : DFA} {n : Int} {m : Nat} (he : checkD a = 0) (hm : n = m) (hl : m ≤ 64) : cntV a n = cntN a m a.start.toNat % 18446744073709551616 := by
  unfold cntV; rw [if_pos (cntE_ok he hm hl), hm]; rfl
theorem pow_mod {L i v : Nat} (h : L = 2 ^ v) : L ^ i % 18446744073709551616 * 2 ^ v % 18446744073709551616 = L ^ (i + 1) % 18446744073709551616 := by
  rw [Nat.pow_succ, ← h, Nat.mul_mod, Nat.mod_mod, ← Nat.mul_mod]
theorem sum_mod {a b c : Nat} (h : a + b = c) : (a % 18446744073709551616 + b % 18446744073709551616) % 18446744073709551616 = c % 18446744073709551616 := by
  rw [← Nat.add_mod, h]
theorem cnt_small {a : DFA} (hv : Val a) {i : Nat} (hi : i ≤ 6) (s : Nat) : cntN a i s ≤ 68719476736 := by
  refine Nat.le_trans (cntN_le a i s) (Nat.le_trans (Nat.pow_le_pow_left (letN_le64 hv) i) ?_)
  exact Nat.le_trans (Nat.pow_le_pow_right (by decide) hi) (by decide)
theorem allW_small {a : DFA} (hv : Val a) : ∀ {i : Nat}, i ≤ 7 → (allW a i).length ≤ i * 68719476736
  | 0, _ => by simp [allW]
  | i + 1, h => by
    rw [allW_snoc, List.length_append]
    have h1 := allW_small hv (i := i) (by omega)
    have h2 : (wsN a i a.start.toNat).length ≤ 68719476736 := cnt_small hv (by omega) _
    omega
theorem nth_after {a : DFA} (he : checkD a = 0) {u : List Nat} (h : nthV a (allW a 7).length = some u) : 7 ≤ u.length := by
  have hs := allW_small (checkD_zero.1 he).toVal (i := 7) (by decide)
  rw [nthV_small he (by omega)] at h
  have : allW a 65 = allW a 7 ++ fromW a 7 65 := by
    unfold allW fromW
    rw [← List.flatMap_append]
    congr 1
  rw [this, List.getElem?_append_right (Nat.le_refl _)] at h
  have hm := List.mem_of_getElem? h
  unfold fromW at hm
  obtain ⟨n, hn, hu⟩ := List.mem_flatMap.1 hm
  rw [(mem_wsN.1 hu).1]
  exact (List.mem_range'_1.1 hn).1
theorem nth_before {a : DFA} (he : checkD a = 0) (h : (allW a 7).length ≠ 0) : ∃ u, nthV a ((allW a 7).length - 1) = some u ∧ u.length ≤ 6 := by
  have hs := allW_small (checkD_zero.1 he).toVal (i := 7) (by decide)
  refine ⟨(allW a 7)[(allW a 7).length - 1]'(by omega), ?_, ?_⟩
  · rw [nthV_small he (by omega), allW_get (n := 7) (by decide) (by omega), List.getElem?_eq_getElem]
  · have := (mem_allW.1 (List.getElem_mem (show (allW a 7).length - 1 < (allW a 7).length by omega))).1
    omega
end Go.Lx

