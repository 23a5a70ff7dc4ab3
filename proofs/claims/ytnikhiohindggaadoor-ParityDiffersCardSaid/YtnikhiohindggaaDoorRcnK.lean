/- Contracts of functions of the program (RcnK): what each call answers and that it leaves memory as it was. Conditions: those each theorem names. -/
import Derived.Test.YtnikhiohindggaaDoorYs
set_option linter.unusedSectionVars false
set_option linter.unusedSimpArgs false
set_option linter.unusedVariables false
set_option linter.unnecessarySimpa false
set_option maxHeartbeats 8000000
set_option maxRecDepth 20000
namespace Go.Lx
theorem La.at_back {l : La} (h0 : 0 < l.loop.length) {i : Nat} (hi : l.pre.length ≤ i) : l.at (i + l.loop.length) = l.at i := by
 unfold La.at
 rw [if_neg (by omega), if_neg (by omega), show max l.loop.length 1 = l.loop.length by omega, show i + l.loop.length - l.pre.length = (i - l.pre.length) + l.loop.length by omega, Nat.add_mod_right]
theorem rep_all {l : La} (h0 : 0 < l.loop.length) {a p e : Nat} (he : l.pre.length + l.loop.length ≤ e ∧ a + l.loop.length ≤ e) (h : ∀ i, a ≤ i → i < e → l.at i = l.at (i + p)) : ∀ i, a ≤ i → l.at i = l.at (i + p) := by
 intro i
 induction i using Nat.strongRecOn with
 | ind i ih =>
  intro hi
  by_cases hlt : i < e
  ·exact h i hi hlt
  ·have h1 := ih (i - l.loop.length) (by omega) (by omega)
   have h2 := La.at_back h0 (i := i - l.loop.length) (by omega)
   have h3 := La.at_back h0 (i := i - l.loop.length + p) (by omega)
   rw [show i - l.loop.length + l.loop.length = i by omega] at h2
   rw [show i - l.loop.length + p + l.loop.length = i + p by omega] at h3
   rw [h2, h3, h1]
def lets (l : La) (n : Nat) : List Nat := (List.range n).map l.at
theorem lets_succ (l : La) (n : Nat) : lets l (n + 1) = lets l n ++ [l.at n] := by simp [lets, List.range_succ]
theorem lets_len (l : La) (n : Nat) : (lets l n).length = n := by simp [lets]
def cutL (l : La) (a p : Nat) : La := ⟨(lets l (a + p)).take a, (lets l (a + p)).drop a⟩
theorem cutL_pre (l : La) (a p : Nat) : (cutL l a p).pre.length = a := by simp [cutL, lets_len]
theorem cutL_loop (l : La) (a p : Nat) : (cutL l a p).loop.length = p := by simp [cutL, lets_len]
theorem cutL_at {l : La} {a p : Nat} (hp : 0 < p) (h : ∀ i, a ≤ i → l.at i = l.at (i + p)) (i : Nat) : (cutL l a p).at i = l.at i := by
 have hpl := cutL_pre l a p; have hll := cutL_loop l a p
 have hper : ∀ t j, a ≤ j → l.at (j + p * t) = l.at j := by
  intro t
  induction t with
  | zero => intro j _; rfl
  | succ t ih => intro j hj; rw [Nat.mul_succ, ← Nat.add_assoc, ← h (j + p * t) (by omega)]; exact ih j hj
 by_cases hi : i < a
 ·rw [La.at_pre (l := cutL l a p) (by omega)]
  simp [cutL, lets]
 ·rw [La.at_loop (l := cutL l a p) (by omega) (by omega)]
  have hm : (i - (cutL l a p).pre.length) % (cutL l a p).loop.length = (i - a) % p := by rw [hpl, hll]
  have hml := Nat.mod_lt (i - a) hp
  have : (cutL l a p).loop[(i - (cutL l a p).pre.length) % (cutL l a p).loop.length]'(Nat.mod_lt _ (by omega)) = l.at (a + (i - a) % p) := by
   simp only [hm]
   simp [cutL, lets]
  rw [this, ← hper ((i - a) / p) (a + (i - a) % p) (by omega)]
  congr 1
  have := Nat.mod_add_div (i - a) p
  omega
structure SameW (l c : La) : Prop where
 at_ : ∀ i, c.at i = l.at i
 pos : 0 < c.loop.length
 pre : c.pre.length ≤ l.pre.length
 loop : c.loop.length ≤ l.loop.length
 p8 : ∀ x ∈ c.pre, x < 256
 l8 : ∀ x ∈ c.loop, x < 256
 mem : ∀ x, x ∈ c.pre ∨ x ∈ c.loop → ∃ i, x = l.at i
theorem SameW.cut {l : La} (h0 : 0 < l.loop.length) (h8 : (∀ x ∈ l.pre, x < 256) ∧ ∀ x ∈ l.loop, x < 256) {a p : Nat} (hp : 0 < p) (hp2 : p ≤ l.loop.length) (ha : a ≤ l.pre.length) (h : ∀ i, a ≤ i → l.at i = l.at (i + p)) : SameW l (cutL l a p) := by
 have hm : ∀ x ∈ lets l (a + p), x < 256 := fun x hx => by
  obtain ⟨i, _, rfl⟩ := List.mem_map.1 hx; exact La.at_lt h0 h8.1 h8.2 i
 exact ⟨cutL_at hp h, by rw [cutL_loop]; exact hp, by rw [cutL_pre]; exact ha, by rw [cutL_loop]; exact hp2, fun x hx => hm x (List.mem_of_mem_take hx), fun x hx => hm x (List.mem_of_mem_drop hx), fun x hx => by
  have h1 : x ∈ lets l (a + p) := hx.elim List.mem_of_mem_take List.mem_of_mem_drop
  obtain ⟨i, _, rfl⟩ := List.mem_map.1 h1; exact ⟨i, rfl⟩⟩
theorem Sl.bdrop {w : World} {b : Option Addr} {xs : List Nat} (h : Sl w b (byts xs)) {c : Nat} (lo : Nat) (hc : xs.length ≤ c) : Sl w (subB b c lo 1) (byts (xs.drop lo)) := by
 have h1 := h.sub c lo 1 xs.length (fun e => by subst e; rw [Nat.mul_one, List.drop_eq_nil_of_le (by rw [List.length_map]; exact hc), List.take_nil])
 rw [Nat.mul_one, ← List.map_drop, List.take_of_length_le (by rw [List.length_map, List.length_drop]; omega)] at h1
 exact h1
end Go.Lx

