/- Decimal numerals: they differ where the numbers do, and hold no blank. -/
import Derived.Test.YthfemndklplpbaaDoorCoreI
import Derived.Lib.ItoaNum
set_option linter.unusedSectionVars false
set_option linter.unusedSimpArgs false
set_option linter.unusedVariables false
set_option linter.unnecessarySimpa false
namespace Go.Lx
open Go.Lib

theorem dec_small {u : Nat} (h : u < 10) : decDigits u = [UInt8.ofNat (48 + u)] := by rw [decDigits, dif_pos h]
theorem dec_big {u : Nat} (h : ¬ u < 10) : decDigits u = decDigits (u / 10) ++ [UInt8.ofNat (48 + u % 10)] := by rw [decDigits, dif_neg h]

theorem dec_ne_nil (u : Nat) : decDigits u ≠ [] := by
  by_cases h : u < 10
  · rw [dec_small h]; simp
  · rw [dec_big h]; simp

theorem digit_toNat {k : Nat} (h : k < 10) : (UInt8.ofNat (48 + k)).toNat = 48 + k := by
  rw [UInt8.toNat_ofNat']; omega

theorem dec_digit (u : Nat) : ∀ b ∈ decDigits u, 48 ≤ b.toNat ∧ b.toNat < 58 := by
  induction u using Nat.strongRecOn with
  | _ u ih =>
    by_cases h : u < 10
    · rw [dec_small h]; intro b hb; rw [List.mem_singleton] at hb; subst hb; rw [digit_toNat h]; omega
    · rw [dec_big h]
      intro b hb
      rcases List.mem_append.1 hb with hb | hb
      · exact ih (u / 10) (by omega) b hb
      · rw [List.mem_singleton] at hb; subst hb; rw [digit_toNat (by omega)]; omega

theorem dec_inj : ∀ (a b : Nat), decDigits a = decDigits b → a = b := by
  intro a
  induction a using Nat.strongRecOn with
  | _ a ih =>
    intro b h
    by_cases ha : a < 10
    · by_cases hb : b < 10
      · rw [dec_small ha, dec_small hb] at h
        have := congrArg UInt8.toNat (List.cons.inj h).1
        rw [digit_toNat ha, digit_toNat hb] at this
        omega
      · rw [dec_small ha, dec_big hb] at h
        have h1 := congrArg List.length h
        have h2 : 0 < (decDigits (b / 10)).length := List.length_pos_iff.2 (dec_ne_nil _)
        simp only [List.length_append, List.length_cons, List.length_nil] at h1; omega
    · by_cases hb : b < 10
      · rw [dec_big ha, dec_small hb] at h
        have h1 := congrArg List.length h
        have h2 : 0 < (decDigits (a / 10)).length := List.length_pos_iff.2 (dec_ne_nil _)
        simp only [List.length_append, List.length_cons, List.length_nil] at h1; omega
      · rw [dec_big ha, dec_big hb] at h
        obtain ⟨h1, h2⟩ := List.append_inj' h rfl
        have e1 := ih (a / 10) (by omega) (b / 10) h1
        have e2 := congrArg UInt8.toNat (List.cons.inj h2).1
        rw [digit_toNat (by omega), digit_toNat (by omega)] at e2
        omega

/-- Numbers, each behind a blank. -/
def tailK : List Nat → List UInt8
  | [] => []
  | n :: l => 32 :: (decDigits n ++ tailK l)

/-- A number, and others each behind a blank: the text by which refine tells states apart. -/
def keyK (a : Nat) (l : List Nat) : List UInt8 := decDigits a ++ tailK l

theorem tailK_append (l : List Nat) (n : Nat) : tailK (l ++ [n]) = tailK l ++ 32 :: decDigits n := by
  induction l with
  | nil => simp [tailK]
  | cons a l ih => simp [tailK, ih]

theorem dec_no_blank (u : Nat) : (32 : UInt8) ∉ decDigits u := fun h => by have := dec_digit u 32 h; simp at this

/-- Up to the first blank. -/
theorem split_blank : ∀ {x y : List UInt8} {a b : List Nat}, (32 : UInt8) ∉ x → (32 : UInt8) ∉ y → x ++ tailK a = y ++ tailK b → x = y ∧ tailK a = tailK b
  | [], [], a, b, _, _, h => ⟨rfl, by simpa using h⟩
  | [], c :: y, a, b, _, hy, h => by
    cases a with
    | nil => simp [tailK] at h
    | cons n a => simp only [tailK, List.nil_append, List.cons_append, List.cons.injEq] at h; exact (hy (by simp [← h.1])).elim
  | c :: x, [], a, b, hx, _, h => by
    cases b with
    | nil => simp [tailK] at h
    | cons n b => simp only [tailK, List.nil_append, List.cons_append, List.cons.injEq] at h; exact (hx (by simp [h.1])).elim
  | c :: x, c' :: y, a, b, hx, hy, h => by
    simp only [List.cons_append, List.cons.injEq] at h
    simp only [List.mem_cons, not_or] at hx hy
    obtain ⟨h1, h2⟩ := split_blank hx.2 hy.2 h.2
    exact ⟨by rw [h.1, h1], h2⟩

theorem tailK_inj : ∀ {l m : List Nat}, tailK l = tailK m → l = m
  | [], [], _ => rfl
  | [], b :: m, h => by simp [tailK] at h
  | a :: l, [], h => by simp [tailK] at h
  | a :: l, b :: m, h => by
    simp only [tailK, List.cons.injEq, true_and] at h
    obtain ⟨h1, h2⟩ := split_blank (dec_no_blank a) (dec_no_blank b) h
    rw [dec_inj a b h1, tailK_inj h2]

theorem keyK_inj {a b : Nat} {l m : List Nat} (h : keyK a l = keyK b m) : a = b ∧ l = m := by
  obtain ⟨h1, h2⟩ := split_blank (dec_no_blank a) (dec_no_blank b) h
  exact ⟨dec_inj a b h1, tailK_inj h2⟩

theorem dec_len : ∀ (k u : Nat), u < 10 ^ (k + 1) → (decDigits u).length ≤ k + 1
  | 0, u, h => by rw [dec_small (by simpa using h)]; simp
  | k + 1, u, h => by
    by_cases h0 : u < 10
    · rw [dec_small h0]; simp
    · rw [dec_big h0, List.length_append]
      have := dec_len k (u / 10) (by rw [Nat.pow_succ] at h; omega)
      simp only [List.length_cons, List.length_nil]
      omega

end Go.Lx
