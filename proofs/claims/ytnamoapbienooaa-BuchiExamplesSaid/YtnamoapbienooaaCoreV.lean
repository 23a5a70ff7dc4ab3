/- Contracts of functions of the program (CoreV): what each call answers and that it leaves memory as it was. Conditions: those each theorem names. -/
import Derived.Test.YtnamoapbienooaaBChk
import Derived.Test.YtnamoapbienooaaCoreK
set_option linter.unusedSectionVars false
set_option linter.unusedSimpArgs false
set_option linter.unusedVariables false
set_option linter.unnecessarySimpa false
namespace Go.Lx
open Go.RowKit
set_option linter.unusedVariables false
structure Mk (Wt : Type) where
  i : Nat
  d : Nat
  val : Wt → Value
  its : Wt → List Item
section
variable {P : Program} {r : Option Nat} {base : World} {n : Nat} {ρ : Env} {O S : List Item} {tail : List Nat} {ops : Array Oper} {K : Env → List Item → Prop} {Wt : Type}
theorem upd_ne {t d : Nat} {v : Value} (h : t ≠ d) : upd ρ d v t = ρ t := by
  unfold upd
  cases e : Nat.beq t d with
  | false => rfl
  | true => exact absurd (Nat.eq_of_beq_eq_true e) h
theorem upd_self {d : Nat} {v : Value} : upd ρ d v d = v := by
  unfold upd
  rw [show Nat.beq d d = true from Nat.beq_refl d]
theorem Sub.trans {A B C : List Item} (h : Sub A B) (h2 : Sub B C) : Sub A C := by
  obtain ⟨l1, p1, s1⟩ := h
  obtain ⟨l2, p2, s2⟩ := h2
  obtain ⟨l3, p3, s3⟩ := List.exists_perm_sublist s1 p2
  exact ⟨l3, p1.trans p3.symm, s3.trans s2⟩
theorem inj_of_nodup {mk : List (Mk Wt)} (h : (mk.map (·.i)).Nodup) {x y : Mk Wt} (hx : x ∈ mk) (hy : y ∈ mk) (e : x.i = y.i) : x = y := by
  induction mk with
  | nil => cases hx
  | cons q mk ih =>
    have hn1 := (List.nodup_cons.1 (by simpa using h : (q.i :: mk.map (·.i)).Nodup))
    rcases List.mem_cons.1 hx with e1 | hx1 <;> rcases List.mem_cons.1 hy with e2 | hy1
    · rw [e1, e2]
    · exact absurd (List.mem_map.2 ⟨y, hy1, by rw [← e, e1]⟩) hn1.1
    · exact absurd (List.mem_map.2 ⟨x, hx1, by rw [e, e2]⟩) hn1.1
    · exact ih hn1.2 hx1 hy1
theorem inj_of_nodup' {mk : List (Mk Wt)} (h : (mk.map (·.d)).Nodup) {x y : Mk Wt} (hx : x ∈ mk) (hy : y ∈ mk) (e : x.d = y.d) : x = y := by
  induction mk with
  | nil => cases hx
  | cons q mk ih =>
    have hn1 := (List.nodup_cons.1 (by simpa using h : (q.d :: mk.map (·.d)).Nodup))
    rcases List.mem_cons.1 hx with e1 | hx1 <;> rcases List.mem_cons.1 hy with e2 | hy1
    · rw [e1, e2]
    · exact absurd (List.mem_map.2 ⟨y, hy1, by rw [← e, e1]⟩) hn1.1
    · exact absurd (List.mem_map.2 ⟨x, hx1, by rw [e, e2]⟩) hn1.1
    · exact ih hn1.2 hx1 hy1
theorem getD_lt {l : Array Bool} {j : Nat} (h : j < l.size) (a b : Bool) : l.getD j a = l.getD j b := by simp [h]
theorem Heads.updN {d : Nat} {v : Value} : ∀ {L : List (Nat × Value)}, (∀ q ∈ L, q.1 ≠ d) → Heads L ρ → Heads L (upd ρ d v)
  | [], _, _ => trivial
  | q :: L, hd, h => ⟨by rw [upd_ne (hd q (by simp))]; exact h.1, Heads.updN (fun x hx => hd x (by simp [hx])) h.2⟩
theorem Heads.append : ∀ {L M : List (Nat × Value)}, Heads L ρ → Heads M ρ → Heads (L ++ M) ρ
  | [], _, _, h => h
  | q :: L, M, h, h2 => ⟨h.1, Heads.append h.2 h2⟩
def left (listed : Array Bool) (mk : List (Mk Wt)) : Nat := (mk.filter fun q => !listed.getD q.i false).length
theorem left_set {listed : Array Bool} {x : Mk Wt} (hl : x.i < listed.size) (hx : listed.getD x.i false = false) : ∀ {mk : List (Mk Wt)}, (mk.map (·.i)).Nodup → x ∈ mk → left listed mk = left (listed.setIfInBounds x.i true) mk + 1
  | [], _, h => by cases h
  | q :: mk, hn, h => by
    have hn1 := (List.nodup_cons.1 (by simpa using hn : (q.i :: mk.map (·.i)).Nodup))
    have hset : (listed.setIfInBounds x.i true).getD x.i false = true := by simp [hl]
    rcases List.mem_cons.1 h with rfl | h
    · have e : left (listed.setIfInBounds x.i true) mk = left listed mk := by
        unfold left
        congr 1
        refine List.filter_congr fun y hy => ?_
        rw [getD_set_ne false (fun e : x.i = y.i => hn1.1 (List.mem_map.2 ⟨y, hy, e.symm⟩))]
      unfold left at e ⊢
      rw [List.filter_cons_of_pos (by simp only [hx]; rfl), List.filter_cons_of_neg (by simp only [hset]; simp), e]
      rfl
    · have ih := left_set hl hx hn1.2 h
      have hne : x.i ≠ q.i := fun e => hn1.1 (List.mem_map.2 ⟨x, h, e⟩)
      unfold left at ih ⊢
      cases hq : listed.getD q.i false with
      | true => rw [List.filter_cons_of_neg (by simp only [hq]; simp), List.filter_cons_of_neg (by rw [getD_set_ne false hne]; simp only [hq]; simp)]; exact ih
      | false => rw [List.filter_cons_of_pos (by simp only [hq]; rfl), List.filter_cons_of_pos (by rw [getD_set_ne false hne]; simp only [hq]; rfl), List.length_cons, List.length_cons, ih]
def readyB (ops : Array Oper) : List Nat → Array Bool → Bool
  | [], _ => true
  | i :: l, listed => (Region.ready .any ops listed).contains i && readyB ops l (listed.setIfInBounds i true)
theorem ready_le {i : Nat} {l1 l2 : Array Bool} (h : i ∈ Region.ready .any ops l1) (hle : ∀ j, l1.getD j false = true → l2.getD j false = true) (hu : l2.getD i true = false) : i ∈ Region.ready .any ops l2 := by
  rw [mem_ready] at *
  obtain ⟨_, o, ho, hall⟩ := h
  exact ⟨hu, o, ho, fun e he hb => hle _ (hall e he hb)⟩
theorem ready_first {listed : Array Bool} : ∀ {is : List Nat} {l0 : Array Bool}, l0.size = listed.size → readyB ops is l0 = true → (∀ j, l0.getD j false = true → listed.getD j false = true) → (∃ i ∈ is, listed.getD i true = false) → ∃ i ∈ is, i ∈ Region.ready .any ops listed
  | [], _, _, _, _, ⟨_, h, _⟩ => by cases h
  | i :: is, l0, hs, hr, hle, hex => by
    simp only [readyB, Bool.and_eq_true] at hr
    have hi : i ∈ Region.ready .any ops l0 := by simpa using hr.1
    cases hu : listed.getD i true with
    | false => exact ⟨i, by simp, ready_le hi hle hu⟩
    | true =>
      obtain ⟨j, hj, hju⟩ := hex
      rcases List.mem_cons.1 hj with rfl | hj
      · rw [hju] at hu; cases hu
      · have hu' : ∀ j, (l0.setIfInBounds i true).getD j false = true → listed.getD j false = true := fun k hk => by
          by_cases e : i = k
          · subst e
            have hlt : i < l0.size := by
              rcases Nat.lt_or_ge i l0.size with h' | h'
              · exact h'
              · simp at hk; omega
            rw [getD_lt (hs ▸ hlt) false true]; exact hu
          · rw [getD_set_ne false e] at hk; exact hle k hk
        obtain ⟨k, hk, hkr⟩ := ready_first (by simpa using hs) hr.2 hu' ⟨j, hj, hju⟩
        exact ⟨k, by simp [hk], hkr⟩
def makersB (ops : Array Oper) (tail : List Nat) (hs : List Nat) (mk : List (Nat × Nat)) (l0 : Array Bool) : Bool :=
  Nat.beq l0.size ops.size && readyB ops (mk.map (·.1)) l0 && decide (mk.map (·.1)).Nodup && decide (mk.map (·.2)).Nodup && (mk.all fun q => hs.all fun d => !(d == q.2))
   && (mk.all fun q => waitB ops tail q.1 && Nat.blt q.1 ops.size && !tail.contains q.1 && !l0.getD q.1 false) && ((List.range ops.size).all fun j => l0.getD j false || tail.contains j || (mk.map (·.1)).contains j)
end
end Go.Lx

