/- Contracts of functions of the program (Len, R12, Cz, Cmb, R17, Over, P8, R41): what each call answers and that it leaves memory as it was. Conditions: those each theorem names. -/
import Derived.Test.YtnpehjpookcfkaaGreatDoorCt
import Derived.Test.YtnpehjpookcfkaaGreatDoorCoreK
import Derived.Test.YtnpehjpookcfkaaGreatDoorAll
import Derived.Test.YtnpehjpookcfkaaGreatDoorC5
import Derived.Test.YtnpehjpookcfkaaGreatDoorBol4
set_option linter.unusedSectionVars false
set_option linter.unusedSimpArgs false
set_option linter.unusedVariables false
set_option linter.unnecessarySimpa false
set_option maxHeartbeats 8000000
set_option maxRecDepth 20000
namespace Go.Lx
open Go.RowKit
set_option linter.unusedVariables false
def inL (d : DFA) (s : Nat) : List Int := (List.range d.next.length).map fun t => if t < s then lnN d 0 t else 0
def lnP (d : DFA) (n s x : Nat) : Int := if lnN d n s < 0 ∧ ((List.range x).any fun y => decide (lnN d n (toN d s y) = (n : Int))) = true then ((n + 1 : Nat) : Int) else lnN d n s
def lnL (d : DFA) (n s x : Nat) : List Int := (List.range d.next.length).map fun t => if t < s then lnN d (n + 1) t else if t = s then lnP d n s x else lnN d n t
def lenL (d : DFA) : List Int := (List.range d.next.length).map (lnD d)
theorem map_range_set {α : Type} {N s : Nat} (f : Nat → α) (v : α) (hs : s < N) : ((List.range N).map f).set s v = (List.range N).map fun t => if t = s then v else f t := by
  apply List.ext_getElem?
  intro t
  by_cases e : s = t
  · subst e
    rw [List.getElem?_set_self (by simpa using hs), List.getElem?_map, List.getElem?_range hs]; simp
  · rw [List.getElem?_set_ne e, List.getElem?_map, List.getElem?_map]
    by_cases ht : t < N
    · rw [List.getElem?_range ht]
      show some (f t) = some (if t = s then v else f t)
      rw [if_neg (fun h => e h.symm)]
    · rw [List.getElem?_eq_none (by simpa using ht)]; rfl
theorem map_range_congr {α : Type} {N : Nat} {f g : Nat → α} (h : ∀ t, t < N → f t = g t) : (List.range N).map f = (List.range N).map g := List.map_congr_left fun t ht => h t (List.mem_range.1 ht)
theorem inL_len (d : DFA) (s : Nat) : (inL d s).length = d.next.length := by simp [inL]
theorem lnL_len (d : DFA) (n s x : Nat) : (lnL d n s x).length = d.next.length := by simp [lnL]
theorem lenL_len (d : DFA) : (lenL d).length = d.next.length := by simp [lenL]
theorem inL_zero (d : DFA) : ints (inL d 0) = List.replicate d.next.length (.int .i64 0) := by
  unfold inL ints
  rw [List.map_map]
  refine List.ext_getElem (by simp) fun i h1 h2 => by simp
theorem inL_yes {d : DFA} {s : Nat} (hs : s < d.next.length) (hf : finN d s = true) : ((inL d s).set s (-1)).set s 0 = inL d (s + 1) := by
  rw [List.set_set]
  unfold inL
  rw [map_range_set _ _ hs]
  refine map_range_congr fun t ht => ?_
  by_cases e : t = s
  · subst e; rw [if_pos rfl, if_pos (by omega)]; simp [lnN, hf]
  · rw [if_neg e]
    by_cases h : t < s
    · rw [if_pos h, if_pos (by omega)]
    · rw [if_neg h, if_neg (by omega)]
theorem inL_no {d : DFA} {s : Nat} (hs : s < d.next.length) (hf : finN d s = false) : (inL d s).set s (-1) = inL d (s + 1) := by
  unfold inL
  rw [map_range_set _ _ hs]
  refine map_range_congr fun t ht => ?_
  by_cases e : t = s
  · subst e; rw [if_pos rfl, if_pos (by omega)]; simp [lnN, hf]
  · rw [if_neg e]
    by_cases h : t < s
    · rw [if_pos h, if_pos (by omega)]
    · rw [if_neg h, if_neg (by omega)]
theorem lnP_zero (d : DFA) (n s : Nat) : lnP d n s 0 = lnN d n s := by
  unfold lnP; rw [if_neg (fun h => by simp at h)]
theorem lnP_full (d : DFA) (n s : Nat) : lnP d n s (letN d) = lnN d (n + 1) s := rfl
theorem inL_end (d : DFA) : inL d d.next.length = lnL d 0 0 0 := by
  unfold inL lnL
  refine map_range_congr fun t ht => ?_
  rw [if_pos ht, if_neg (by omega)]
  by_cases e : t = 0
  · subst e; rw [if_pos rfl, lnP_zero]
  · rw [if_neg e]
theorem lnL_get {d : DFA} {n s x t : Nat} (ht : t < d.next.length) : (ints (lnL d n s x))[t]? = some (.int .i64 (if t < s then lnN d (n + 1) t else if t = s then lnP d n s x else lnN d n t)) := by
  unfold lnL ints
  rw [List.map_map, List.getElem?_map, List.getElem?_range ht]; rfl
theorem lnL_at {d : DFA} {n s x : Nat} (hs : s < d.next.length) : (ints (lnL d n s x))[s]? = some (.int .i64 (lnP d n s x)) := by
  rw [lnL_get hs, if_neg (by omega), if_pos rfl]
theorem lnP_neg {d : DFA} {n s x : Nat} : lnP d n s x < 0 ↔ lnN d n s < 0 ∧ ((List.range x).any fun y => decide (lnN d n (toN d s y) = (n : Int))) = false := by
  unfold lnP
  by_cases h : ((List.range x).any fun y => decide (lnN d n (toN d s y) = (n : Int))) = true
  · by_cases h2 : lnN d n s < 0
    · rw [if_pos ⟨h2, h⟩, h]; constructor
      · intro h3; omega
      · intro h3; exact absurd h3.2 (by simp)
    · rw [if_neg (fun q => h2 q.1)]; exact ⟨fun q => absurd q h2, fun q => absurd q.1 h2⟩
  · rw [if_neg (fun q => h q.2)]
    exact ⟨fun q => ⟨q, by simpa using h⟩, fun q => q.1⟩
theorem lnN_new {d : DFA} {n t : Nat} : lnN d (n + 1) t = (n : Int) ↔ lnN d n t = (n : Int) := by
  by_cases h : lnN d n t < 0 ∧ ((List.range (letN d)).any fun x => decide (lnN d n (toN d t x) = (n : Int))) = true
  · have h1 := h.1
    rw [lnN, if_pos h]
    exact ⟨fun q => by omega, fun q => by omega⟩
  · rw [lnN, if_neg h]
theorem lnL_to {d : DFA} {n s x t : Nat} (hneg : lnP d n s x < 0) : (if t < s then lnN d (n + 1) t else if t = s then lnP d n s x else lnN d n t) = (n : Int) ↔ lnN d n t = (n : Int) := by
  by_cases h : t < s
  · rw [if_pos h]; exact lnN_new
  · rw [if_neg h]
    by_cases e : t = s
    · subst e
      rw [if_pos rfl]
      have h1 := (lnP_neg.1 hneg).1
      constructor
      · intro q; omega
      · intro q; omega
    · rw [if_neg e]
theorem lnP_hit {d : DFA} {n s x : Nat} (hneg : lnP d n s x < 0) (ht : lnN d n (toN d s x) = (n : Int)) : lnP d n s (x + 1) = ((n + 1 : Nat) : Int) := by
  have h1 := (lnP_neg.1 hneg).1
  unfold lnP
  rw [if_pos ⟨h1, by rw [List.range_succ, List.any_append]; simp [ht]⟩]
theorem lnP_miss {d : DFA} {n s x : Nat} (h : ¬ (lnP d n s x < 0 ∧ lnN d n (toN d s x) = (n : Int))) : lnP d n s (x + 1) = lnP d n s x := by
  by_cases ht : lnN d n (toN d s x) = (n : Int)
  · have h1 : ¬ lnP d n s x < 0 := fun q => h ⟨q, ht⟩
    unfold lnP at h1 ⊢
    by_cases h2 : lnN d n s < 0
    · by_cases h3 : ((List.range x).any fun y => decide (lnN d n (toN d s y) = (n : Int))) = true
      · have e1 : ((List.range (x + 1)).any fun y => decide (lnN d n (toN d s y) = (n : Int))) = true := by rw [List.range_succ, List.any_append, h3]; rfl
        rw [if_pos ⟨h2, e1⟩, if_pos ⟨h2, h3⟩]
      · rw [if_neg (fun q => h3 q.2)] at h1; exact absurd h2 h1
    · rw [if_neg (fun q => h2 q.1), if_neg (fun q => h2 q.1)]
  · unfold lnP
    rw [List.range_succ, List.any_append]
    simp [ht]
theorem lnL_hit {d : DFA} {n s x : Nat} (hs : s < d.next.length) (hneg : lnP d n s x < 0) (ht : lnN d n (toN d s x) = (n : Int)) : (lnL d n s x).set s ((n + 1 : Nat) : Int) = lnL d n s (x + 1) := by
  unfold lnL
  rw [map_range_set _ _ hs]
  refine map_range_congr fun t _ => ?_
  by_cases e : t = s
  · subst e; rw [if_pos rfl, if_neg (by omega), if_pos rfl, lnP_hit hneg ht]
  · rw [if_neg e, if_neg e, if_neg e]
theorem lnL_miss {d : DFA} {n s x : Nat} (h : ¬ (lnP d n s x < 0 ∧ lnN d n (toN d s x) = (n : Int))) : lnL d n s (x + 1) = lnL d n s x := by
  unfold lnL; rw [lnP_miss h]
theorem lnL_row (d : DFA) (n s : Nat) : lnL d n s (letN d) = lnL d n (s + 1) 0 := by
  unfold lnL
  refine map_range_congr fun t _ => ?_
  rw [lnP_full, lnP_zero]
  by_cases h : t < s
  · rw [if_pos h, if_pos (by omega)]
  · rw [if_neg h]
    by_cases e : t = s
    · subst e; rw [if_pos rfl, if_pos (by omega)]
    · rw [if_neg e, if_neg (by omega)]
      by_cases e2 : t = s + 1
      · subst e2; rw [if_pos rfl]
      · rw [if_neg e2]
theorem lnL_round (d : DFA) (n : Nat) : lnL d n d.next.length 0 = lnL d (n + 1) 0 0 := by
  unfold lnL
  refine map_range_congr fun t ht => ?_
  rw [if_pos ht, if_neg (by omega)]
  by_cases e : t = 0
  · subst e; rw [if_pos rfl, lnP_zero]
  · rw [if_neg e]
theorem lnL_end {d : DFA} {n : Nat} (h : n + 1 = d.next.length) : lnL d n 0 0 = lenL d := by
  unfold lnL lenL lnD
  refine map_range_congr fun t ht => ?_
  rw [if_neg (by omega), show d.next.length - 1 = n by omega]
  by_cases e : t = 0
  · subst e; rw [if_pos rfl, lnP_zero]
  · rw [if_neg e]
theorem lenL_at {d : DFA} {t : Nat} (ht : t < d.next.length) : (ints (lenL d))[t]? = some (.int .i64 (lnD d t)) := by
  unfold lenL ints
  rw [List.map_map, List.getElem?_map, List.getElem?_range ht]; rfl
theorem lnN_big (d : DFA) (n s : Nat) : -1 ≤ lnN d n s ∧ lnN d n s ≤ (n : Int) := by
  rcases lnN_spec (d := d) n s with ⟨m, _, _, e⟩ | ⟨_, e⟩ <;> omega
end Go.Lx


namespace Go.Proofs.YtnpehjpookcfkaaGreatDoor
open Go.Lx Go.RowKit _root_.Go.Proofs.Tryz
set_option linter.unusedVariables false
set_option linter.unusedSimpArgs false
theorem lengthsC (w : World) [Tab Tryz.prog w] (a : DFA) (k : DK) (ha : At w a k) (hv : Valid a) :
    PureT Tryz.prog 98 [dV a k] w fun v N => ∃ b : Nat, v = .slice (some ⟨b, 0, none⟩) a.next.length a.next.length ∧ N = [rowI (some ⟨b, 0, none⟩) a.next.length 3 1 (ints (lenL a))] := by
  refine CallT.enter Tryz.func98 rfl Tryz.ntmps98 rfl ?_
  have h4 := hv.n4
  have h0 := hv.n0
  have hww : letN a ≤ 64 := hv.width
  have hfin := hv.fin
  have hvl := ha.rows.1
  obtain ⟨N, hN⟩ : ∃ N, N = a.next.length := ⟨_, rfl⟩
  refine T.s (T.rg ?_)
  refine TO.l rfl (l_box (v := (dV a k)) (cs := (dC a k)) rfl rfl (fun z1 => ?_))
  refine TO.qa rfl ?_
  refine TO.nl (T.s (T.rg ?_))
  refine TO.q (q_fa underlying25 rfl inf22 rfl rfl) (TO.q (q_lb 0 underlying22 rfl rfl rfl rfl) (TO.q (q_len underlying22 rfl) ?_))
  refine TO.l rfl (l_makeSlice (m := a.next.length) underlying48 inf3 rfl rfl (by omega) (by omega) (fun z2 => ?_))
  refine TO.qa rfl ?_
  refine TO.nl (T.s (T.s (T.rg ?_)))
  refine TO.qa rfl ?_
  refine TO.nl (T.block ?_)
  refine T.sub (O' := [rowI (some ⟨z2, 0, none⟩) a.next.length 3 1 (List.replicate a.next.length (.int .i64 0)), oI z1 25 (dC a k)]) (by exact Sub.rf) ?_
  refine T.loop (fun (s : Nat) ρ O => O = [rowI (some ⟨z2, 0, none⟩) a.next.length 3 1 (ints (inL a s)), oI z1 25 (dC a k)] ∧ s ≤ a.next.length ∧ Heads [(0, (dV a k)), (1, (.pointer (some ⟨z1, 0, none⟩))), (2, (.slice none 0 0)), (3, (.slice (some ⟨z2, 0, none⟩) a.next.length a.next.length)), (4, .int .i64 ((s : Nat) : Int))] ρ) (fun s => a.next.length - s) 0 ?_ ?_
  · exact ⟨by rw [inL_zero], Nat.zero_le _, ⟨rfl, rfl, rfl, rfl, rfl, trivial⟩⟩
  rintro s ρ O ⟨rfl, hs, hH⟩
  obtain ⟨ρ0, rfl⟩ := hH.elim
  clear hH
  refine T.s (T.s (T.rg ?_))
  refine TO.qm rfl (TO.qm rfl (TO.q (q_len underlying48 rfl) (TO.q (q_lss rfl rfl) ?_)))
  refine TO.nl ?_
  refine T.condP rfl (fun hc => ?_) (fun hc => ?_)
  · have hlt15 : s < a.next.length := by omega
    refine T.skip (T.s (T.block (T.s (T.rg ?_))))
    refine TO.qm rfl (TO.qm rfl (TO.q (q_ix (i := s) underlying48 inf3 rfl rfl (rowO (mG 0 rfl)) hlt15 (by rw [List.length_map, inL_len]; omega)) ?_))
    refine TO.l rfl (l_st (j := s) (v := .int .i64 (-1)) (vs := [(.int .i64 (-1))]) (cs := ints (inL a s)) 0 inf3 rfl rfl rfl rfl rfl (by simp) rfl (by rw [List.length_map, inL_len]; simp; omega) ?_)
    refine TO.sub (O' := [rowI (some ⟨z2, 0, none⟩) a.next.length 3 1 (ints ((inL a s).set s (-1))), oI z1 25 (dC a k)]) (by rw [show putL (ints (inL a s)) s [(.int .i64 (-1))] = ints ((inL a s).set s (-1)) from by simp [putL]]; exact Sub.of (List.Sublist.refl _)) ?_
    refine TO.nl (T.s (T.rg ?_))
    refine TO.q (q_fa underlying25 rfl inf23 rfl rfl) (TO.q (q_lb 1 underlying23 rfl rfl rfl rfl) (TO.qm rfl (TO.q (q_ix (i := s) underlying23 inf4 rfl rfl (Sl.o ha.final) (by omega) (by rw [List.length_map]; omega)) ?_)))
    refine TO.q (q_ld underlying4 rfl rfl (Sl.o ha.final) (bools_get (by omega))) ?_
    refine TO.nl ?_
    refine T.cond rfl (fun hc => ?_) (fun hc => ?_)
    · have hfn : finN a s = true := by rw [← hc]; simp [finN, show s < a.final.length by omega]
      refine T.rg ?_
      refine TO.qm rfl (TO.qm rfl (TO.q (q_ix (i := s) underlying48 inf3 rfl rfl (rowO (mG 0 rfl)) hlt15 (by rw [List.length_map, List.length_set, inL_len]; omega)) ?_))
      refine TO.l rfl (l_st (j := s) (v := .int .i64 0) (vs := [(.int .i64 0)]) (cs := ints ((inL a s).set s (-1))) 0 inf3 rfl rfl rfl rfl rfl (by simp) rfl (by rw [List.length_map, List.length_set, inL_len]; simp; omega) ?_)
      refine TO.sub (O' := [rowI (some ⟨z2, 0, none⟩) a.next.length 3 1 (ints (((inL a s).set s (-1)).set s 0)), oI z1 25 (dC a k)]) (by rw [show putL (ints ((inL a s).set s (-1))) s [(.int .i64 0)] = ints (((inL a s).set s (-1)).set s 0) from by simp [putL]]; exact Sub.of (List.Sublist.refl _)) ?_
      refine TO.nl (T.rg ?_)
      refine TO.qm rfl (TO.q (q_addN (a := s) (b := 1) rfl rfl (by omega)) (TO.qa rfl ?_))
      refine TO.nl ?_
      exact ⟨s + 1, by omega, by rw [← inL_yes hlt15 hfn], by omega, ⟨rfl, rfl, rfl, rfl, rfl, trivial⟩⟩
    have hfn : finN a s = false := by rw [← hc]; simp [finN, show s < a.final.length by omega]
    refine T.skip (T.rg ?_)
    refine TO.qm rfl (TO.q (q_addN (a := s) (b := 1) rfl rfl (by omega)) (TO.qa rfl ?_))
    refine TO.nl ?_
    exact ⟨s + 1, by omega, by rw [← inL_no hlt15 hfn], by omega, ⟨rfl, rfl, rfl, rfl, rfl, trivial⟩⟩
  have hge15 : ¬ s < a.next.length := by omega
  refine T.exit ?_
  refine T.s (T.s (T.rg ?_))
  refine TO.qa rfl ?_
  refine TO.nl (T.block ?_)
  have hse : s = a.next.length := by omega
  have e0 : inL a s = lnL a 0 0 0 := by rw [hse]; exact inL_end a
  refine T.loop (fun (n : Nat) ρ O => O = [rowI (some ⟨z2, 0, none⟩) a.next.length 3 1 (ints (lnL a n 0 0)), oI z1 25 (dC a k)] ∧ n + 1 ≤ a.next.length ∧ Heads [(0, (dV a k)), (1, (.pointer (some ⟨z1, 0, none⟩))), (2, (.slice none 0 0)), (3, (.slice (some ⟨z2, 0, none⟩) a.next.length a.next.length)), (4, .int .i64 ((s : Nat) : Int)), (5, .int .i64 ((n + 1 : Nat) : Int))] ρ) (fun n => a.next.length - n) 0 ?_ ?_
  · exact ⟨by rw [e0], h0, ⟨rfl, rfl, rfl, rfl, rfl, rfl, trivial⟩⟩
  rintro n ρ O ⟨rfl, hn, hH⟩
  obtain ⟨ρ0, rfl⟩ := hH.elim
  clear hH
  refine T.s (T.s (T.rg ?_))
  refine TO.qm rfl (TO.qm rfl (TO.q (q_len underlying48 rfl) (TO.q (q_lss rfl rfl) ?_)))
  refine TO.nl ?_
  refine T.condP rfl (fun hc => ?_) (fun hc => ?_)
  · have hlt32 : n + 1 < a.next.length := by omega
    refine T.skip (T.s (T.block (T.s (T.rg ?_))))
    refine TO.qa rfl ?_
    refine TO.nl (T.block ?_)
    refine T.loop (fun (t : Nat) ρ O => O = [rowI (some ⟨z2, 0, none⟩) a.next.length 3 1 (ints (lnL a n t 0)), oI z1 25 (dC a k)] ∧ t ≤ a.next.length ∧ Heads [(0, (dV a k)), (1, (.pointer (some ⟨z1, 0, none⟩))), (2, (.slice none 0 0)), (3, (.slice (some ⟨z2, 0, none⟩) a.next.length a.next.length)), (4, .int .i64 ((s : Nat) : Int)), (5, .int .i64 ((n + 1 : Nat) : Int)), (6, .int .i64 ((t : Nat) : Int))] ρ) (fun t => a.next.length - t) 0 ?_ ?_
    · exact ⟨rfl, Nat.zero_le _, ⟨rfl, rfl, rfl, rfl, rfl, rfl, rfl, trivial⟩⟩
    rintro t ρ O ⟨rfl, ht, hH⟩
    obtain ⟨ρ0, rfl⟩ := hH.elim
    clear hH
    refine T.s (T.s (T.rg ?_))
    refine TO.qm rfl (TO.qm rfl (TO.q (q_len underlying48 rfl) (TO.q (q_lss rfl rfl) ?_)))
    refine TO.nl ?_
    refine T.condP rfl (fun hc => ?_) (fun hc => ?_)
    · have hlt38 : t < a.next.length := by omega
      obtain ⟨v1, c1, g1, s1⟩ := ha.rows.get hlt38
      have hl1 : a.next[t].length = letN a := hv.len _ (List.getElem_mem hlt38)
      refine T.skip (T.s (T.block (T.s (T.rg ?_))))
      refine TO.qa rfl ?_
      refine TO.nl (T.block ?_)
      refine T.loop (fun (x : Nat) ρ O => O = [rowI (some ⟨z2, 0, none⟩) a.next.length 3 1 (ints (lnL a n t x)), oI z1 25 (dC a k)] ∧ x ≤ letN a ∧ Heads [(0, (dV a k)), (1, (.pointer (some ⟨z1, 0, none⟩))), (2, (.slice none 0 0)), (3, (.slice (some ⟨z2, 0, none⟩) a.next.length a.next.length)), (4, .int .i64 ((s : Nat) : Int)), (5, .int .i64 ((n + 1 : Nat) : Int)), (6, .int .i64 ((t : Nat) : Int)), (7, .int .i64 ((x : Nat) : Int))] ρ) (fun x => letN a - x) 0 ?_ ?_
      · exact ⟨rfl, Nat.zero_le _, ⟨rfl, rfl, rfl, rfl, rfl, rfl, rfl, rfl, trivial⟩⟩
      rintro x ρ O ⟨rfl, hx, hH⟩
      obtain ⟨ρ0, rfl⟩ := hH.elim
      clear hH
      refine T.s (T.s (T.rg ?_))
      refine TO.qm rfl (TO.q (q_fa underlying25 rfl inf22 rfl rfl) (TO.q (q_lb 1 underlying22 rfl rfl rfl rfl) (TO.qm rfl ?_)))
      refine TO.q (q_ix (i := t) underlying22 inf48 rfl rfl (Sl.o ha.outer) hlt38 (hvl ▸ hlt38)) (TO.q (q_ld underlying48 rfl rfl (Sl.o ha.outer) g1) (TO.q (q_len underlying48 rfl) (TO.q (q_lss rfl rfl) ?_)))
      refine TO.nl ?_
      refine T.condP rfl (fun hc => ?_) (fun hc => ?_)
      · have hlt48 : x < a.next[t].length := by omega
        have hxl : x < letN a := by omega
        obtain ⟨hto, _, hxk1, hx1⟩ := hv.toN_lt hlt38 hxl
        have hx1 : (ints a.next[t])[x]? = some (.int .i64 ((toN a t x : Nat) : Int)) := by rw [ints_get hxk1, hx1]
        have hbg := lnN_big a n (toN a t x)
        refine T.skip (T.s (T.block (T.s (T.rg ?_))))
        refine TO.qm rfl (TO.qm rfl (TO.q (q_ix (i := t) underlying48 inf3 rfl rfl (rowO (mG 0 rfl)) hlt38 (by rw [List.length_map, lnL_len]; omega)) (TO.q (q_ld underlying3 rfl rfl (rowO (mG 0 rfl)) (lnL_at hlt38)) ?_)))
        refine TO.q (q_lss rfl rfl) ?_
        by_cases hneg : lnP a n t x < 0
        · refine TO.q (QT.toB (q_move rfl) (decide_eq_true hneg)) ?_
          refine TO.gd rfl rfl rfl (LT.oq rfl rfl (q_move rfl) ?_)
          refine TO.gd rfl rfl rfl (LT.oq rfl rfl (q_fa underlying25 rfl inf22 rfl rfl) ?_)
          refine TO.gd rfl rfl rfl (LT.oq rfl rfl (q_lb 1 underlying22 rfl rfl rfl rfl) ?_)
          refine TO.gd rfl rfl rfl (LT.oq rfl rfl (q_move rfl) ?_)
          refine TO.gd rfl rfl rfl (LT.oq rfl rfl (q_ix (i := t) underlying22 inf48 rfl rfl (Sl.o ha.outer) hlt38 (hvl ▸ hlt38)) ?_)
          refine TO.gd rfl rfl rfl (LT.oq rfl rfl (q_ld underlying48 rfl rfl (Sl.o ha.outer) g1) ?_)
          refine TO.gd rfl rfl rfl (LT.oq rfl rfl (q_move rfl) ?_)
          refine TO.gd rfl rfl rfl (LT.oq rfl rfl (q_ix (i := x) underlying48 inf3 rfl rfl (Sl.o s1) hxk1 (by rw [List.length_map]; exact hxk1)) ?_)
          refine TO.gd rfl rfl rfl (LT.oq rfl rfl (q_ld underlying3 rfl rfl (Sl.o s1) hx1) ?_)
          refine TO.gd rfl rfl rfl (LT.oq rfl rfl (q_ix (i := (toN a t x)) underlying48 inf3 rfl rfl (rowO (mG 0 rfl)) hto (by rw [List.length_map, lnL_len]; omega)) ?_)
          refine TO.gd rfl rfl rfl (LT.oq rfl rfl (q_ld underlying3 rfl rfl (rowO (mG 0 rfl)) (lnL_get hto)) ?_)
          refine TO.gd rfl rfl rfl (LT.oq rfl rfl (q_move rfl) ?_)
          refine TO.gd rfl rfl rfl (LT.oq rfl rfl (QT.cast (q_sub64 rfl rfl (by omega)) (v' := .int .i64 ((n : Nat) : Int)) (congrArg (Value.int .i64) (by omega))) ?_)
          by_cases hhit : lnN a n (toN a t x) = (n : Int)
          · refine TO.gd rfl rfl rfl (LT.oq rfl rfl (QT.toB (QT.cast (q_eql rfl rfl) (v' := .bool (decide (lnN a n (toN a t x) = (n : Int)))) (congrArg Value.bool (decide_eq_decide.2 (lnL_to hneg)))) (decide_eq_true hhit)) ?_)
            refine TO.q (q_pick1 rfl rfl) ?_
            refine TO.nl ?_
            skip
            refine T.cond1 rfl ?_
            refine T.rg ?_
            refine TO.qm rfl (TO.qm rfl (TO.qm rfl (TO.q (q_ix (i := t) underlying48 inf3 rfl rfl (rowO (mG 0 rfl)) hlt38 (by rw [List.length_map, lnL_len]; omega)) ?_)))
            refine TO.l rfl (l_st (j := t) (v := .int .i64 ((n + 1 : Nat) : Int)) (vs := [(.int .i64 ((n + 1 : Nat) : Int))]) (cs := ints (lnL a n t x)) 0 inf3 rfl rfl rfl rfl rfl (by simp) rfl (by rw [List.length_map, lnL_len]; simp; omega) ?_)
            refine TO.sub (O' := [rowI (some ⟨z2, 0, none⟩) a.next.length 3 1 (ints ((lnL a n t x).set t ((n + 1 : Nat) : Int))), oI z1 25 (dC a k)]) (by rw [show putL (ints (lnL a n t x)) t [(.int .i64 ((n + 1 : Nat) : Int))] = ints ((lnL a n t x).set t ((n + 1 : Nat) : Int)) from by simp [putL]]; exact Sub.of (List.Sublist.refl _)) ?_
            refine TO.nl (T.rg ?_)
            refine TO.qm rfl (TO.q (q_addN (a := x) (b := 1) rfl rfl (by omega)) (TO.qa rfl ?_))
            refine TO.nl ?_
            exact ⟨x + 1, by omega, by rw [← lnL_hit hlt38 hneg hhit], by omega, ⟨rfl, rfl, rfl, rfl, rfl, rfl, rfl, rfl, trivial⟩⟩
          refine TO.gd rfl rfl rfl (LT.oq rfl rfl (QT.toB (QT.cast (q_eql rfl rfl) (v' := .bool (decide (lnN a n (toN a t x) = (n : Int)))) (congrArg Value.bool (decide_eq_decide.2 (lnL_to hneg)))) (decide_eq_false hhit)) ?_)
          refine TO.q (q_pick1 rfl rfl) ?_
          refine TO.nl ?_
          have hmiss : ¬ (lnP a n t x < 0 ∧ lnN a n (toN a t x) = (n : Int)) := fun h9 => hhit h9.2
          refine T.cond0 rfl ?_
          refine T.skip (T.rg ?_)
          refine TO.qm rfl (TO.q (q_addN (a := x) (b := 1) rfl rfl (by omega)) (TO.qa rfl ?_))
          refine TO.nl ?_
          exact ⟨x + 1, by omega, by rw [lnL_miss hmiss], by omega, ⟨rfl, rfl, rfl, rfl, rfl, rfl, rfl, rfl, trivial⟩⟩
        refine TO.q (QT.toB (q_move rfl) (decide_eq_false hneg)) ?_
        refine TO.pd rfl rfl ?_
        refine TO.pd rfl rfl ?_
        refine TO.pd rfl rfl ?_
        refine TO.pd rfl rfl ?_
        refine TO.pd rfl rfl ?_
        refine TO.pd rfl rfl ?_
        refine TO.pd rfl rfl ?_
        refine TO.pd rfl rfl ?_
        refine TO.pd rfl rfl ?_
        refine TO.pd rfl rfl ?_
        refine TO.pd rfl rfl ?_
        refine TO.pd rfl rfl ?_
        refine TO.pd rfl rfl ?_
        refine TO.pd rfl rfl ?_
        refine TO.q (q_pick0 rfl rfl) ?_
        refine TO.nl ?_
        have hmiss : ¬ (lnP a n t x < 0 ∧ lnN a n (toN a t x) = (n : Int)) := fun h9 => hneg h9.1
        refine T.cond0 rfl ?_
        refine T.skip (T.rg ?_)
        refine TO.qm rfl (TO.q (q_addN (a := x) (b := 1) rfl rfl (by omega)) (TO.qa rfl ?_))
        refine TO.nl ?_
        exact ⟨x + 1, by omega, by rw [lnL_miss hmiss], by omega, ⟨rfl, rfl, rfl, rfl, rfl, rfl, rfl, rfl, trivial⟩⟩
      have hge48 : ¬ x < a.next[t].length := by omega
      have hxe : x = letN a := by omega
      refine T.exit ?_
      refine T.rg ?_
      refine TO.qm rfl (TO.q (q_addN (a := t) (b := 1) rfl rfl (by omega)) (TO.qa rfl ?_))
      refine TO.nl ?_
      exact ⟨t + 1, by omega, by rw [hxe, lnL_row], by omega, ⟨rfl, rfl, rfl, rfl, rfl, rfl, rfl, trivial⟩⟩
    have hge38 : ¬ t < a.next.length := by omega
    refine T.exit ?_
    refine T.rg ?_
    refine TO.qm rfl (TO.q (q_addN (a := (n + 1)) (b := 1) rfl rfl (by omega)) (TO.qa rfl ?_))
    refine TO.nl ?_
    exact ⟨n + 1, by omega, by rw [show t = a.next.length by omega, lnL_round], by omega, ⟨rfl, rfl, rfl, rfl, rfl, rfl, trivial⟩⟩
  have hge32 : ¬ n + 1 < a.next.length := by omega
  refine T.exit ?_
  refine T.s (T.rg ?_)
  refine TO.qm rfl (TO.qa rfl ?_)
  refine TO.nl (T.ret (Res.drop ?_))
  refine Res.one (.slice (some ⟨z2, 0, none⟩) a.next.length a.next.length) Tryz.results98 rfl ?_
  have hne : n + 1 = a.next.length := by omega
  exact ⟨[rowI (some ⟨z2, 0, none⟩) a.next.length 3 1 (ints (lnL a n 0 0))], (by exact Sub.k .z), z2, rfl, by rw [lnL_end hne]⟩
theorem rShoN (w : World) [Tab Tryz.prog w] (a : DFA) (k : DK) (ha : At w a k) (hv : Valid a) :
    PureT Tryz.prog 75 [dV a k] w fun v N => ∃ res wb wc, LeastA a res ∧ v = .tuple #[.slice wb (res.getD []).length wc, .bool res.isSome, .int .i64 0] ∧ ((res ≠ none ∧ N = [rowI wb wc 5 1 (byts (res.getD []))]) ∨ (res = none ∧ N = [] ∧ wb = none ∧ wc = 0)) := by
  refine CallT.enter Tryz.func75 rfl Tryz.ntmps75 rfl ?_
  have he := checkD_zero.2 hv
  have h4 := hv.n4
  have hww : letN a ≤ 64 := hv.width
  have hvl := ha.rows.1
  have hs0 := hv.s0
  have hs1 : a.start = ((a.start.toNat : Nat) : Int) := (Int.toNat_of_nonneg hv.s0).symm
  have hsl := start_lt hv.toVal
  refine T.s (T.rg ?_)
  refine TO.l rfl (l_box (v := (dV a k)) (cs := (dC a k)) rfl rfl (fun z1 => ?_))
  refine TO.qa rfl (TO.qa rfl (TO.qa rfl ?_))
  refine TO.nl (T.s (T.rg ?_))
  refine TO.q (q_la 0 underlying25 rfl inf25 rfl rfl rfl) ?_
  have hk11 := fun (w1 : World) (hI : Inv w [oI z1 25 (dC a k)] w1) => (haveI := tbz hI; (show PureT _ _ _ _ _ from by
      have h9 := refCheck w1 a k.nb k.fb k.nc k.fc (vals k.qs) (hI.dfa ha) (by omega) hv.bound (by have := hv.fin; omega)
      rw [he] at h9
      exact h9))
  refine TO.l rfl (l_call ent34 (CallT.op hk11) rfl ?_)
  clear hk11
  rintro vr O' ⟨N, rfl, rfl, rfl⟩
  refine TO.qa rfl ?_
  refine TO.nl (T.s (T.s (T.rg ?_)))
  refine TO.qm rfl (TO.q (QT.toB (q_neq rfl rfl) (decide_eq_false (fun h => h rfl))) ?_)
  refine TO.nl ?_
  refine T.cond0 rfl ?_
  refine T.skip (T.s (T.rg ?_))
  refine TO.q (q_la 0 underlying25 rfl inf25 rfl rfl rfl) ?_
  have hk16 := fun (w1 : World) (hI : Inv w [oI z1 25 (dC a k)] w1) => (haveI := tbz hI; lengthsC w1 a k (hI.atB ha) hv)
  refine TO.l rfl (l_call ent98 (CallT.op hk16) rfl ?_)
  clear hk16
  rintro vr O' ⟨N, rfl, lb, rfl, rfl⟩
  refine TO.qa rfl ?_
  refine TO.nl (T.s (T.rg ?_))
  refine TO.q (q_fa underlying25 rfl inf3 rfl rfl) (TO.q (q_lb 1 underlying3 rfl rfl rfl rfl) (TO.qa rfl ?_))
  refine TO.nl (T.s (T.s (T.rg ?_)))
  refine TO.qm rfl (TO.qm rfl (TO.q (q_ixz (i := a.start) underlying48 inf3 rfl rfl (rowO (mG 0 rfl)) hs0 hsl (by rw [List.length_map, lenL_len]; omega)) (TO.q (q_ld underlying3 rfl rfl (rowO (mG 0 rfl)) (lenL_at hsl)) ?_)))
  refine TO.q (q_lss rfl rfl) ?_
  refine TO.nl ?_
  refine T.condP rfl (fun hc => ?_) (fun hc => ?_)
  · have hneg := hc
    refine T.s (T.rg ?_)
    refine TO.qa rfl (TO.qa rfl (TO.qa rfl ?_))
    refine TO.nl (T.ret (Res.drop ?_))
    refine Res.three (.slice none 0 0) (.bool false) (.int .i64 0) Tryz.results75 rfl rfl rfl ?_
    exact ⟨[], Sub.z, none, none, 0, (by
      rcases lnD_neg hv.toVal hsl with h9 | h9
      · obtain ⟨k9, h9⟩ := h9; exact absurd hneg (by omega)
      · exact fun u9 hu9 => h9.2 u9 hu9), rfl, .inr ⟨rfl, rfl, rfl, rfl⟩⟩
  have hpos := hc
  refine T.skip (T.s (T.rg ?_))
  refine TO.qa rfl ?_
  refine TO.nl (T.s (T.block ?_))
  refine T.nilRow 5 1 ?_
  refine T.sub (O' := [rowI none 0 5 1 (byts []), rowI (some ⟨lb, 0, none⟩) a.next.length 3 1 (ints (lenL a)), oI z1 25 (dC a k)]) (by exact Sub.rf) ?_
  obtain ⟨K, hK⟩ : ∃ K : Nat, lnD a a.start.toNat = (K : Int) := by
    rcases lnD_neg hv.toVal hsl with h9 | h9
    · exact h9
    · exact absurd h9.1 (by omega)
  have hD0 := (lnD_iff hv.toVal hsl).1 hK
  have hKn := Ds.lt hv.toVal hsl hD0
  refine T.loopS (fun (u : List Nat) ρ O => ∃ (s9 : Nat) (wb : Option Addr) (wc : Nat), O = [rowI wb wc 5 1 (byts u), rowI (some ⟨lb, 0, none⟩) a.next.length 3 1 (ints (lenL a)), oI z1 25 (dC a k)] ∧ GI a K u s9 ∧ Heads [(0, (dV a k)), (1, (.pointer (some ⟨z1, 0, none⟩))), (2, (.slice none 0 0)), (3, .bool false), (4, .int .i64 0), (5, .int .i64 0), (6, (.slice (some ⟨lb, 0, none⟩) a.next.length a.next.length)), (7, .int .i64 ((s9 : Nat) : Int)), (8, (.slice wb u.length wc))] ρ) (fun u => K - u.length) [] ?_ ?_
  · exact ⟨a.start.toNat, none, 0, rfl, GI.zero hD0, ⟨rfl, rfl, rfl, rfl, rfl, rfl, rfl, (congrArg (Value.int .i64) hs1), rfl, trivial⟩⟩
  rintro u ρ O ⟨s9, wb, wc, rfl, hg, hH⟩
  obtain ⟨ρ0, rfl⟩ := hH.elim
  clear hH
  have hul := hg.len
  have hs9 : s9 < a.next.length := by rw [← hg.run]; exact runN_lt hv.toVal hsl u hg.wd
  have hln : lnD a s9 = ((K - u.length : Nat) : Int) := (lnD_iff hv.toVal hs9).2 hg.dist
  refine T.s (T.s (T.rg ?_))
  refine TO.qm rfl (TO.qm rfl (TO.q (q_ix (i := s9) underlying48 inf3 rfl rfl (rowO (mG 1 rfl)) hs9 (by rw [List.length_map, lenL_len]; omega)) (TO.q (q_ld underlying3 rfl rfl (rowO (mG 1 rfl)) (by rw [lenL_at hs9, hln])) ?_)))
  refine TO.q (q_gtr rfl rfl) ?_
  refine TO.nl ?_
  refine T.condP rfl (fun hc => ?_) (fun hc => ?_)
  · have hlt28 : K - u.length > 0 := by omega
    refine T.skip (T.block (T.s (T.rg ?_)))
    refine TO.qa rfl ?_
    refine TO.nl (T.s (T.block ?_))
    obtain ⟨x0, hx0, hD9⟩ := hg.next (show u.length < K by omega)
    obtain ⟨v1, c1, g1, s1⟩ := ha.rows.get hs9
    have hl1 : a.next[s9].length = letN a := hv.len _ (List.getElem_mem hs9)
    refine T.loop (fun (x : Nat) ρ O => O = [rowI wb wc 5 1 (byts u), rowI (some ⟨lb, 0, none⟩) a.next.length 3 1 (ints (lenL a)), oI z1 25 (dC a k)] ∧ x ≤ x0 ∧ (∀ y, y < x → ¬ Ds a (toN a s9 y) (K - u.length - 1)) ∧ Heads [(0, (dV a k)), (1, (.pointer (some ⟨z1, 0, none⟩))), (2, (.slice none 0 0)), (3, .bool false), (4, .int .i64 0), (5, .int .i64 0), (6, (.slice (some ⟨lb, 0, none⟩) a.next.length a.next.length)), (7, .int .i64 ((s9 : Nat) : Int)), (8, (.slice wb u.length wc)), (9, .int .i64 ((x : Nat) : Int))] ρ) (fun x => x0 - x) 0 ?_ ?_
    · exact ⟨rfl, Nat.zero_le _, fun y hy => absurd hy (by omega), ⟨rfl, rfl, rfl, rfl, rfl, rfl, rfl, rfl, rfl, rfl, trivial⟩⟩
    rintro x ρ O ⟨rfl, hx, hyy, hH⟩
    obtain ⟨ρ0, rfl⟩ := hH.elim
    clear hH
    have hxl : x < letN a := by omega
    obtain ⟨hto, _, hxk1, hx1⟩ := hv.toN_lt hs9 hxl
    have hx1 : (ints a.next[s9])[x]? = some (.int .i64 ((toN a s9 x : Nat) : Int)) := by rw [ints_get hxk1, hx1]
    refine T.s (T.s ?_)
    refine T.draws _ [(0, 0), (1, 0), (2, 0), (3, 0), (4, 0), (5, 0), (6, 0), (7, 0), (8, 0), (9, 0), (10, 0), (11, 0), (12, 0), (13, 0), (14, 0), (15, 0), (16, 0)] mixed (drawF_ok (by kernel_rfl)) (Sub.of (List.Sublist.refl _)) (fun _ _ _ h => h) ?_
    refine DO.q rfl (q_move rfl) (DO.q rfl (q_fa underlying25 rfl inf22 rfl rfl) (DO.q rfl (q_lb 2 underlying22 rfl rfl rfl rfl) (DO.q rfl (q_move rfl) ?_)))
    refine DO.q rfl (q_ix (i := s9) underlying22 inf48 rfl rfl (Sl.o ha.outer) hs9 (hvl ▸ hs9)) (DO.q rfl (q_ld underlying48 rfl rfl (Sl.o ha.outer) g1) (DO.q rfl (q_move rfl) (DO.q rfl (q_ix (i := x) underlying48 inf3 rfl rfl (Sl.o s1) hxk1 (by rw [List.length_map]; exact hxk1)) ?_)))
    refine DO.q rfl (q_ld underlying3 rfl rfl (Sl.o s1) hx1) (DO.q rfl (q_ix (i := (toN a s9 x)) underlying48 inf3 rfl rfl (rowO (mG 1 rfl)) hto (by rw [List.length_map, lenL_len]; omega)) (DO.q rfl (q_ld underlying3 rfl rfl (rowO (mG 1 rfl)) (lenL_at hto)) (DO.q rfl (q_move rfl) ?_)))
    refine DO.q rfl (q_move rfl) (DO.q rfl (q_ix (i := s9) underlying48 inf3 rfl rfl (rowO (mG 1 rfl)) hs9 (by rw [List.length_map, lenL_len]; omega)) (DO.q rfl (q_ld underlying3 rfl rfl (rowO (mG 1 rfl)) (by rw [lenL_at hs9, hln])) (DO.q rfl (q_subN (a := (K - u.length)) (b := 1) rfl rfl (by omega) (by omega)) ?_)))
    refine DO.q rfl (q_neq rfl rfl) ?_
    refine DO.done ?_
    refine T.condP rfl (fun hc => ?_) (fun hc => ?_)
    · have hc9 := hc
      refine T.skip (T.block (T.rg ?_))
      refine TO.qm rfl (TO.q (q_addN (a := x) (b := 1) rfl rfl (by omega)) (TO.qa rfl ?_))
      refine TO.nl ?_
      have hxn : ¬ Ds a (toN a s9 x) (K - u.length - 1) := fun h9 => hc9 ((lnD_iff hv.toVal hto).2 h9)
      have hxx : x ≠ x0 := fun e9 => hxn (e9 ▸ hD9)
      exact ⟨x + 1, by omega, rfl, by omega, fun y hy => (by
        by_cases e9 : y = x
        · rw [e9]; exact hxn
        · exact hyy y (by omega)), ⟨rfl, rfl, rfl, rfl, rfl, rfl, rfl, rfl, rfl, rfl, trivial⟩⟩
    have hc9 := hc
    refine T.exit ?_
    refine T.s (T.rg ?_)
    refine TO.qm rfl (TO.qm rfl (TO.q (q_conv_id underlying3 underlying5 rfl (by first | rfl | exact wrap64_id ⟨by omega, by omega⟩ | exact wrap8 (by omega) | exact wrapU64 (by omega))) ?_))
    refine TO.l rfl (l_build1 (v := .int .u8 ((x : Nat) : Int)) underlying34 inf5 rfl rfl rfl (fun z2 => ?_))
    refine TO.l rfl (l_append 1 underlying34 underlying34 inf5 rfl rfl rfl rfl (by simp) (by decide) (Src.row (j := 0) rfl (by simp)) (by simp [oneB]) (by omega) (by decide) (by decide) (fun z3 zc4 => ?_))
    refine TO.qa rfl ?_
    refine TO.nl (T.rg ?_)
    refine TO.q (q_fa underlying25 rfl inf22 rfl rfl) (TO.q (q_lb 3 underlying22 rfl rfl rfl rfl) (TO.qm rfl (TO.q (q_ix (i := s9) underlying22 inf48 rfl rfl (Sl.o ha.outer) hs9 (hvl ▸ hs9)) ?_)))
    refine TO.q (q_ld underlying48 rfl rfl (Sl.o ha.outer) g1) (TO.qm rfl (TO.q (q_ix (i := x) underlying48 inf3 rfl rfl (Sl.o s1) hxk1 (by rw [List.length_map]; exact hxk1)) (TO.q (q_ld underlying3 rfl rfl (Sl.o s1) hx1) ?_)))
    refine TO.qa rfl ?_
    refine TO.nl ?_
    have hst : byts (u ++ [x]) = byts u ++ [.int .u8 ((x : Nat) : Int)] := List.map_append
    have hDx := (lnD_iff hv.toVal hto).1 (Classical.not_not.1 hc9)
    exact ⟨u ++ [x], by rw [List.length_append]; simp; omega, [rowI z3 zc4 5 1 ((byts u) ++ [.int .u8 ((x : Nat) : Int)]), rowI (some ⟨lb, 0, none⟩) a.next.length 3 1 (ints (lenL a)), oI z1 25 (dC a k)], (by exact Sub.d (.k (.k (.k .z)))), toN a s9 x, z3, zc4, by rw [hst], hg.step hv.toVal (by omega) hxl hDx (fun y hy => hyy y hy), ⟨rfl, rfl, rfl, rfl, rfl, rfl, rfl, rfl, (congrArg (fun n9 => Value.slice _ n9 _) (by simp : u.length + 1 = (u ++ [x]).length)), trivial⟩⟩
  have hge28 : ¬ K - u.length > 0 := by omega
  refine T.exit ?_
  refine T.s (T.rg ?_)
  refine TO.qm rfl (TO.qa rfl (TO.qa rfl (TO.qa rfl ?_)))
  refine TO.nl (T.ret (Res.drop ?_))
  refine Res.three (.slice wb u.length wc) (.bool true) (.int .i64 0) Tryz.results75 rfl rfl rfl ?_
  have hKe : u.length = K := by omega
  subst hKe
  exact ⟨[rowI wb wc 5 1 (byts u)], (by exact Sub.k .z), some u, wb, wc, GI.least hv.toVal hg hD0, rfl, .inl ⟨by simp, rfl⟩⟩
theorem rShoK (w : World) [Tab Tryz.prog w] (a : DFA) (k : DK) (ha : At w a k) (hv : Valid a) :
    PureT Tryz.prog 75 [dV a k] w fun v N => ∃ res wb wc, LeastA a res ∧ v = .tuple #[.slice wb (res.getD []).length wc, .bool res.isSome, .int .i64 0] ∧ N = [rowI wb wc 5 1 (byts (res.getD []))] := by
  refine (CallT.nilOr 5 1 (rShoN w a k ha hv)).mono ?_
  rintro v N ⟨O2, hN, res, wb, wc, hL, hV, h⟩
  rcases h with ⟨hr, rfl⟩ | ⟨rfl, rfl, rfl, rfl⟩
  · exact ⟨res, wb, wc, hL, hV, hN.1 (by simp)⟩
  · exact ⟨none, none, 0, hL, hV, hN.2 rfl⟩
end Go.Proofs.YtnpehjpookcfkaaGreatDoor


namespace Go.Lx
open Go.RowKit
set_option linter.unusedVariables false
theorem HasL.flip {d : DFA} (h : Valid d) : HasL d.vars d.next.length (flipD d) (fun w => !Lx.acc d w) := ⟨flip_valid h, Nat.le_refl _, rfl, fun w hw => flip_acc h.toVal hw⟩
theorem InL.self {d : DFA} (h : Valid d) : InL d d (acc d) := ⟨⟨h, Nat.le_refl _, rfl, fun _ _ => rfl⟩, Det.refl d⟩
theorem notD_flipW {d : DFA} (h : Valid d) : minD (flipD d) = notD d :=
  MinL.ext (HasL.flip h).minim (InL.not h (InL.self h)).1 fun w _ => rfl
theorem InL.flip {z d : DFA} {p : List Nat → Bool} (h : InL z d p) : InL z (flipD d) (fun w => !p w) :=
  ⟨⟨flip_valid h.has.valid, h.has.len, h.has.vars, fun w hw => by rw [flip_acc h.has.valid.toVal (h.has.wd.2 hw), h.has.acc w hw]⟩, h.det⟩
theorem minus_flip {z a b : DFA} {p q : List Nat → Bool} (hz : Valid z) (ha : InL z a p) (hb : InL z b q) : opD andB a (flipD b) = opD minusB a b :=
  MinL.ext (InL.op (f := andB) hz ha hb.flip).1 (InL.op (f := minusB) hz ha hb).1 fun w _ => by simp [andB, minusB]
def fewD (d : DFA) : DFA := ⟨d.vars, d.start, (d.next.take 6).map (·.take 65), d.final.take 6⟩
theorem few_len (d : DFA) : (fewD d).next.length ≤ 6 := by simp [fewD]; omega
theorem few_row (d : DFA) : ∀ r ∈ (fewD d).next, r.length ≤ 65 := fun r hr => by
  obtain ⟨s, _, rfl⟩ := List.mem_map.1 (show r ∈ (d.next.take 6).map (·.take 65) from hr)
  simp; omega
theorem few_fin (d : DFA) : (fewD d).final.length ≤ 6 := by simp [fewD]; omega
theorem few_bd (d : DFA) : (fewD d).next.length < 9223372036854775807 ∧ (∀ r ∈ (fewD d).next, r.length < 9223372036854775807) ∧ (fewD d).final.length < 9223372036854775807 :=
  ⟨by have := few_len d; omega, fun r hr => by have := few_row d r hr; omega, by have := few_fin d; omega⟩
def iE (x a g : DFA) : Nat := if checkD x ≠ 0 then checkD x else if cE a g ≠ 0 then cE a g else if x.vars ≠ a.vars then 7 else 0
def bE (a g b h : DFA) : Nat := if cE a g ≠ 0 then cE a g else if cE b h ≠ 0 then cE b h else if a.vars ≠ b.vars then 7 else 0
theorem cE_zero {a g : DFA} : cE a g = 0 ↔ Valid a ∧ Valid g ∧ a.vars = g.vars := by
  rw [← checkD_zero, ← checkD_zero]
  unfold cE
  by_cases h1 : checkD a = 0
  · by_cases h2 : checkD g = 0
    · by_cases h3 : a.vars = g.vars
      · simp [h1, h2, h3]
      · simp [h1, h2, h3]
    · simp [h1, h2]
  · simp [h1]
theorem iE_zero {x a g : DFA} : iE x a g = 0 ↔ Valid x ∧ Valid a ∧ Valid g ∧ x.vars = a.vars ∧ a.vars = g.vars := by
  unfold iE
  by_cases h1 : checkD x = 0
  · have hx := checkD_zero.1 h1
    by_cases h2 : cE a g = 0
    · have h2' := cE_zero.1 h2
      by_cases h3 : x.vars = a.vars
      · rw [if_neg (by omega), if_neg (by omega), if_neg (fun h => h h3)]; simp [hx, h2'.1, h2'.2.1, h2'.2.2, h3]
      · rw [if_neg (by omega), if_neg (by omega), if_pos h3]; exact ⟨fun h => by omega, fun h => absurd h.2.2.2.1 h3⟩
    · rw [if_neg (by omega), if_pos h2]; exact ⟨fun h => absurd h h2, fun h => absurd (cE_zero.2 ⟨h.2.1, h.2.2.1, h.2.2.2.2⟩) h2⟩
  · rw [if_pos h1]; exact ⟨fun h => absurd h h1, fun h => absurd (checkD_zero.2 h.1) h1⟩
theorem small_z {v : Int} {l : List DFA} (h : ∀ d ∈ l, Valid d ∧ d.vars = v ∧ d.next.length ≤ 6) (hl : l.length ≤ 4) (hne : l ≠ []) : ∃ z, Valid z ∧ z.vars = v ∧ z.next.length ≤ 1296 ∧ ∀ d ∈ l, InL z d (acc d) := by
  obtain ⟨d0, hd0⟩ := List.exists_mem_of_ne_nil l hne
  have h0 : 0 ≤ v := by have := (h d0 hd0).1.v0; rw [(h d0 hd0).2.1] at this; exact this
  have h6 : v ≤ 6 := by have := (h d0 hd0).1.v6; rw [(h d0 hd0).2.1] at this; exact this
  obtain ⟨h1, h2, h3, h4⟩ := zP_ok h0 h6 (l := l) fun d hd => ⟨(h d hd).1.toVal, (h d hd).2.1⟩
  have hz : (zP v l).next.length ≤ 1296 := by
    rw [h3]
    have hpow : zN l ≤ 6 ^ l.length := by
      have : ∀ l : List DFA, (∀ d ∈ l, d.next.length ≤ 6) → zN l ≤ 6 ^ l.length := by
        intro l
        induction l with
        | nil => intro _; exact Nat.le_refl _
        | cons d l ih =>
          intro hh
          rw [List.length_cons, Nat.pow_succ, Nat.mul_comm]
          exact Nat.mul_le_mul (hh d (by simp)) (ih fun x hx => hh x (by simp [hx]))
      exact this l fun d hd => (h d hd).2.2
    exact Nat.le_trans hpow (Nat.le_trans (Nat.pow_le_pow_right (by decide) hl) (by decide))
  refine ⟨_, ⟨h1, Nat.le_trans hz (by decide)⟩, h2, hz, fun d hd => ?_⟩
  exact InL.of ⟨h1, Nat.le_trans hz (by decide)⟩ (h d hd).1 (by rw [h2, (h d hd).2.1]) (by rw [h3]; exact (h4 d hd).2) (h4 d hd).1
theorem least_ex (d : DFA) : ∃ r, LeastA d r := by
  by_cases h : ∃ u, Wd d u ∧ acc d u = true
  · have key : ∀ n, (∃ u, Wd d u ∧ acc d u = true ∧ code u ≤ n) → ∃ r, LeastA d r := by
      intro n
      induction n with
      | zero => rintro ⟨u, h1, h2, h3⟩; exact ⟨some u, h1, h2, fun v _ _ => by omega⟩
      | succ n ih =>
        rintro ⟨u, h1, h2, h3⟩
        by_cases h4 : ∃ v, Wd d v ∧ acc d v = true ∧ code v ≤ n
        · exact ih h4
        · refine ⟨some u, h1, h2, fun v hv hv2 => ?_⟩
          have : ¬ code v ≤ n := fun h5 => h4 ⟨v, hv, hv2, h5⟩
          omega
    obtain ⟨u, h1, h2⟩ := h
    exact key _ ⟨u, h1, h2, Nat.le_refl _⟩
  · refine ⟨none, fun u hu => ?_⟩
    cases e : acc d u with
    | false => rfl
    | true => exact absurd ⟨u, hu, e⟩ h
theorem pick2 (e : Nat) (x y : DFA) : ∃ P Q, (e = 0 → x = P ∧ y = Q) ∧ (e ≠ 0 → P = noD ∧ Q = noD) := by
  by_cases h : e = 0
  · exact ⟨x, y, fun _ => ⟨rfl, rfl⟩, fun h9 => absurd h h9⟩
  · exact ⟨noD, noD, fun h9 => absurd h9 h, fun _ => ⟨rfl, rfl⟩⟩
theorem pickR (e : Nat) (d : DFA) : ∃ (r : Option (List Nat)) (b : Bool), (e = 0 → LeastA d r) ∧ (e ≠ 0 → r = none) ∧ b = (decide (e = 0) && !r.isSome) := by
  by_cases h : e = 0
  · obtain ⟨r, hr⟩ := least_ex d
    exact ⟨r, _, fun _ => hr, fun h9 => absurd h h9, rfl⟩
  · exact ⟨none, _, fun h9 => absurd h9 h, fun _ => rfl, rfl⟩
structure CapD (d : DFA) (j : DK) : Prop where
  f : d.final.length ≤ j.fc
  r : ∀ (i : Nat) (b : Option Addr) (n c : Nat), (vals j.qs)[i]? = some (Value.slice b n c) → n ≤ c
theorem Sl.pre {w : World} {b : Option Addr} {cs : List Value} (h : Sl w b cs) (m : Nat) : Sl w b (cs.take m) := fun i hi => by
  have hi' : i < cs.length := by rw [List.length_take] at hi; omega
  obtain ⟨a, h1, h2, h3⟩ := h i hi'
  exact ⟨a, h1, h2, by rw [h3]; simp⟩
structure FewR (w : World) (d : DFA) (s : Nat) (rs : List Rec) : Prop where
  xs : nums rs = (d.next.take s).map (·.take 65)
  sl : ∀ r ∈ rs, Sl w r.b (ints r.xs)
theorem FewR.zero (w : World) (d : DFA) : FewR w d 0 [] := ⟨rfl, fun r hr => by cases hr⟩
theorem FewR.step {w : World} {d : DFA} {s : Nat} {rs : List Rec} (h : FewR w d s rs) (hs : s < d.next.length) {v : Option Addr} {c : Nat} (hv : Sl w v (ints d.next[s])) : FewR w d (s + 1) (rs ++ [⟨v, c, d.next[s].take 65⟩]) := by
  refine ⟨?_, fun r hr => ?_⟩
  · rw [List.take_succ_eq_append_getElem hs, List.map_append, ← h.xs]; exact List.map_append
  · rcases List.mem_append.1 hr with hr | hr
    · exact h.sl r hr
    · obtain rfl := List.mem_singleton.1 hr
      have := hv.pre 65
      rw [← List.map_take] at this
      exact this
theorem FewR.len {w : World} {d : DFA} {s : Nat} {rs : List Rec} (h : FewR w d s rs) (hs : s ≤ d.next.length) : rs.length = s := by
  have := congrArg List.length h.xs
  simpa [Nat.min_eq_left hs] using this
theorem FewR.rows {w w' : World} {d : DFA} {s : Nat} {rs : List Rec} (h : FewR w d s rs) (hk : ∀ k, k < w.heap.size → w'.heap[k]? = w.heap[k]?) {R : List (List Int)} (hR : nums rs = R) : RowsR w' (vals rs) R := by
  subst hR
  refine ⟨by simp, fun i r hr => ?_⟩
  rw [List.getElem?_map] at hr
  cases hq : rs[i]? with
  | none => rw [hq] at hr; cases hr
  | some q =>
    rw [hq] at hr
    obtain rfl : q.xs = r := by simpa using hr
    refine ⟨q.b, q.c, ?_, (h.sl q (List.mem_of_getElem? hq)).keep hk⟩
    rw [List.getElem?_map, hq]; rfl
theorem few_next {d : DFA} {s : Nat} (hs : s = min 6 d.next.length) : (d.next.take s).map (·.take 65) = (fewD d).next := by
  unfold fewD
  subst hs
  by_cases h : 6 ≤ d.next.length
  · rw [Nat.min_eq_left h]
  · rw [Nat.min_eq_right (by omega), List.take_of_length_le (Nat.le_refl _), List.take_of_length_le (by omega)]
end Go.Lx
namespace Go.Lx
set_option linter.unusedVariables false
abbrev Bd9 (a : DFA) : Prop := a.next.length < 9223372036854775807 ∧ (∀ r ∈ a.next, r.length < 9223372036854775807) ∧ a.final.length < 9223372036854775807
theorem bd_noD : Bd9 noD := ⟨by decide, ⟨fun r hr => (by cases hr), by decide⟩⟩
theorem pickBd {e : Nat} {x y P Q : DFA} (hx : e = 0 → Bd9 x ∧ Bd9 y) (h0 : e = 0 → x = P ∧ y = Q) (h1 : e ≠ 0 → P = noD ∧ Q = noD) : Bd9 P ∧ Bd9 Q := by
  by_cases he : e = 0
  · obtain ⟨rfl, rfl⟩ := h0 he
    exact hx he
  · obtain ⟨rfl, rfl⟩ := h1 he
    exact ⟨bd_noD, bd_noD⟩
theorem cE_z {a g : DFA} (h : cE a g = 0) (la : a.next.length ≤ 6) (lg : g.next.length ≤ 6) : ∃ z, Valid z ∧ z.next.length ≤ 1296 ∧ InL z a (acc a) ∧ InL z g (acc g) := by
  obtain ⟨va, vg, hv⟩ := cE_zero.1 h
  obtain ⟨z, z1, z2, z3, z4⟩ := small_z (v := a.vars) (l := [a, g]) (fun x hx => by
    simp only [List.mem_cons, List.not_mem_nil, or_false] at hx
    rcases hx with rfl | rfl
    · exact ⟨va, rfl, la⟩
    · exact ⟨vg, hv.symm, lg⟩) (by simp) (by simp)
  exact ⟨z, z1, z3, z4 a (by simp), z4 g (by simp)⟩
theorem iE_z {x a g : DFA} (h : iE x a g = 0) (lx : x.next.length ≤ 6) (la : a.next.length ≤ 6) (lg : g.next.length ≤ 6) : ∃ z, Valid z ∧ z.next.length ≤ 1296 ∧ InL z x (acc x) ∧ InL z a (acc a) ∧ InL z g (acc g) := by
  obtain ⟨vx, va, vg, hv1, hv2⟩ := iE_zero.1 h
  obtain ⟨z, z1, z2, z3, z4⟩ := small_z (v := a.vars) (l := [x, a, g]) (fun y hy => by
    simp only [List.mem_cons, List.not_mem_nil, or_false] at hy
    rcases hy with rfl | rfl | rfl
    · exact ⟨vx, hv1, lx⟩
    · exact ⟨va, rfl, la⟩
    · exact ⟨vg, hv2.symm, lg⟩) (by simp) (by simp)
  exact ⟨z, z1, z3, z4 x (by simp), z4 a (by simp), z4 g (by simp)⟩
theorem least_len {z d : DFA} {p : List Nat → Bool} (hz : Valid z) (hl : z.next.length ≤ 1296) (h : InL z d p) {r : Option (List Nat)} (hr : LeastA d r) : (r.getD []).length ≤ 1296 := by
  cases r with
  | none => exact Nat.zero_le _
  | some u =>
    have hu : p u = true := by rw [← h.has.acc u (h.has.wd.1 hr.1)]; exact hr.2.1
    have := LeastA.short h.has h.has (fun w _ e => e) hr hu
    show u.length ≤ 1296
    omega
theorem least_wd {d : DFA} (hv : Val d) {r : Option (List Nat)} (hr : LeastA d r) : ∀ x ∈ r.getD [], x < 256 := by
  cases r with
  | none => intro x hx; cases hx
  | some u => exact fun x hx => by have := hv.wd64 hr.1 x hx; omega
theorem sat_bd {a g P Q : DFA} {e : Nat} (hE : cE a g = e) (la : a.next.length ≤ 6) (lg : g.next.length ≤ 6) (h0 : e = 0 → minD a = P ∧ satD a g = Q) (h1 : e ≠ 0 → P = noD ∧ Q = noD) : Bd9 P ∧ Bd9 Q := by
  refine pickBd (fun he => ?_) h0 h1
  obtain ⟨z, hz, _, ha, hg⟩ := cE_z (hE.trans he) la lg
  exact ⟨(InL.minI hz ha).bds, (InL.satI hz ha hg).bds⟩
theorem impl_len {x a g : DFA} {e : Nat} {r : Option (List Nat)} (hE : iE x a g = e) (lx : x.next.length ≤ 6) (la : a.next.length ≤ 6) (lg : g.next.length ≤ 6) (h0 : e = 0 → LeastA (opD minusB (opD andB x a) g) r) (h1 : e ≠ 0 → r = none) : (r.getD []).length ≤ 1296 ∧ ∀ y ∈ r.getD [], y < 256 := by
  by_cases he : e = 0
  · obtain ⟨z, hz, hl, hx, ha, hg⟩ := iE_z (hE.trans he) lx la lg
    have hm := (InL.op (f := minusB) hz (InL.op (f := andB) hz hx ha).2 hg).2
    exact ⟨least_len hz hl hm (h0 he), least_wd hm.has.valid.toVal (h0 he)⟩
  · rw [h1 he]; exact ⟨Nat.zero_le _, fun y hy => by cases hy⟩
end Go.Lx


namespace Go.Lx
open Go.RowKit
set_option linter.unusedVariables false
def nmV (ks : List Nat) (c : Nat) : Int := if c ∈ ks then ((ix c ks + 1 : Nat) : Int) else 0
def nmL (n : Nat) (ks : List Nat) : List Int := (List.range n).map (nmV ks)
theorem nmL_len (n : Nat) (ks : List Nat) : (nmL n ks).length = n := by simp [nmL]
theorem nmL_zero (n : Nat) : ints (nmL n []) = List.replicate n (.int .i64 0) := by
  refine List.ext_getElem (by simp [nmL]) fun i h1 h2 => by simp [nmL, nmV]
theorem nmL_at {n c : Nat} {ks : List Nat} (h : c < n) : (ints (nmL n ks))[c]? = some (.int .i64 (nmV ks c)) := by
  unfold nmL ints
  rw [List.map_map, List.getElem?_map, List.getElem?_range h]; rfl
theorem nmV_zero {ks : List Nat} {c : Nat} : nmV ks c = 0 ↔ c ∉ ks := by
  unfold nmV
  by_cases h : c ∈ ks
  · rw [if_pos h]; exact ⟨fun q => by omega, fun q => absurd h q⟩
  · rw [if_neg h]; simp [h]
theorem nmV_in {ks : List Nat} {c : Nat} (h : c ∈ ks) : nmV ks c = ((ix c ks + 1 : Nat) : Int) := by unfold nmV; rw [if_pos h]
theorem nmL_add {n c : Nat} {ks : List Nat} (hc : c < n) (h : c ∉ ks) : (nmL n ks).set c ((ks.length + 1 : Nat) : Int) = nmL n (ks ++ [c]) := by
  unfold nmL
  rw [map_range_set _ _ hc]
  refine map_range_congr fun t _ => ?_
  by_cases e : t = c
  · subst e
    rw [if_pos rfl, nmV_in (by simp), ix_append_right h]; simp [ix]
  · rw [if_neg e]
    unfold nmV
    by_cases ht : t ∈ ks
    · rw [if_pos ht, if_pos (by simp [ht]), ix_append_left ht]
    · rw [if_neg ht, if_neg (by simp [ht, e])]
theorem prs_c0 {n i c : Nat} {ks : List Nat} (h : ks[i]? = some c) : (prs n ks)[i * 2 + 0]? = some (.int .i64 ((c / n : Nat) : Int)) := by
  have := prs_get (n := n) h 0 (by simp [unC])
  simpa [unC, un] using this
theorem prs_c1 {n i c : Nat} {ks : List Nat} (h : ks[i]? = some c) : (prs n ks)[i * 2 + 1]? = some (.int .i64 ((c % n : Nat) : Int)) := by
  have := prs_get (n := n) h 1 (by simp [unC])
  simpa [unC, un] using this
theorem rnR_len (d : DFA) (o : Nat) : (rnR d o).length = letN d := by unfold rnR; rw [List.length_map, renRow_length]
theorem rnR_at {d : DFA} {o x : Nat} (hx : x < letN d) : (rnR d o)[x]? = some ((ix (toN d o x) (order d) : Nat) : Int) := by
  unfold rnR renRow
  rw [List.getElem?_map, List.getElem?_map, sucs_get hx]; rfl
theorem comb_eq {f : Bool → Bool → Bool} {a b : DFA} (ha : Val a) (hb : Val b) (hv : a.vars = b.vars) : minD (renum (prodD f a b)) = opD f a b := minD_renum (prod_val ha hb hv)
end Go.Lx


namespace Go.Proofs.YtnpehjpookcfkaaGreatDoor
open Go.Lx Go.RowKit _root_.Go.Proofs.Tryz
set_option linter.unusedVariables false
set_option linter.unusedSimpArgs false
theorem combR (w : World) [Tab Tryz.prog w] (f : Bool → Bool → Bool) (op : Nat) (hop : (op = 10 ∧ f = andB) ∨ (op = 11 ∧ f = orB)) (a b : DFA) (j k : DK) (ha : At w a j) (hb : At w b k) (va : Valid a) (vb : Valid b) (hv : a.vars = b.vars) (hN : (order (prodD f a b)).length ≤ 4096) {M : DFA} (hM : opD f a b = M) :
    PureT Tryz.prog 77 [dV a j, dV b k, .int .u8 (op : Int)] w fun v N => ∃ k' : DK, v = .tuple #[dV M k', .int .i64 0] ∧ N = [dI 48 4 3 M k'] := by
  refine CallT.enter Tryz.func77 rfl Tryz.ntmps77 rfl ?_
  have hop9 : op = 10 ∨ op = 11 := hop.elim (fun h => .inl h.1) (fun h => .inr h.1)
  have h4 : a.next.length * b.next.length ≤ 4096 * 4096 := Nat.mul_le_mul va.n4 vb.n4
  have ha1 := ha.rows.1
  have hb1 := hb.rows.1
  have hsa : a.start = ((a.start.toNat : Nat) : Int) := (Int.toNat_of_nonneg va.s0).symm
  have hsb : b.start = ((b.start.toNat : Nat) : Int) := (Int.toNat_of_nonneg vb.s0).symm
  have hla := start_lt va.toVal
  have hlb := start_lt vb.toVal
  have hc0 : (a.start.toNat * b.next.length + b.start.toNat) < a.next.length * b.next.length := pr_lt hla hlb
  have hpd := pr_div (s := a.start.toNat) hlb
  have hww : letN a ≤ 64 := va.width
  have hafin := va.fin
  have hbfin := vb.fin
  have vR := renum_fit (prod_val (f := f) va.toVal vb.toVal hv) hN
  have hst1 : putL (List.replicate (a.next.length * b.next.length) (.int .i64 0)) (a.start.toNat * b.next.length + b.start.toNat) [.int .i64 1] = ints (nmL (a.next.length * b.next.length) [(a.start.toNat * b.next.length + b.start.toNat)]) := by
    rw [← nmL_zero]
    show _ = ints (nmL (a.next.length * b.next.length) ([] ++ [(a.start.toNat * b.next.length + b.start.toNat)]))
    rw [← nmL_add hc0 (by simp)]
    simp [putL]
  refine T.s (T.rg ?_)
  refine TO.l rfl (l_box (v := (dV a j)) (cs := (dC a j)) rfl rfl (fun z1 => ?_))
  refine TO.l rfl (l_box (v := (dV b k)) (cs := (dC b k)) rfl rfl (fun z2 => ?_))
  refine TO.l rfl (l_alloc inf25 rfl (fun z3 => ?_))
  refine TO.qa rfl ?_
  refine TO.nl (T.s (T.rg ?_))
  refine TO.q (q_fa underlying25 rfl inf22 rfl rfl) (TO.q (q_lb 2 underlying22 rfl rfl rfl rfl) (TO.q (q_len underlying22 rfl) (TO.q (q_fa underlying25 rfl inf22 rfl rfl) ?_)))
  refine TO.q (q_lb 1 underlying22 rfl rfl rfl rfl) (TO.q (q_len underlying22 rfl) (TO.q (q_mulN (a := a.next.length) (b := b.next.length) rfl rfl (by omega)) ?_))
  refine TO.l rfl (l_makeSlice (m := a.next.length * b.next.length) underlying48 inf3 rfl rfl (by omega) (by omega) (fun z4 => ?_))
  refine TO.qa rfl ?_
  refine TO.nl (T.s (T.rg ?_))
  refine TO.q (q_fa underlying25 rfl inf3 rfl rfl) (TO.q (q_lb 3 underlying3 rfl rfl rfl rfl) (TO.q (q_fa underlying25 rfl inf3 rfl rfl) (TO.q (q_lb 2 underlying3 rfl rfl rfl rfl) ?_)))
  refine TO.q (q_buildA (cs := [(.int .i64 a.start), (.int .i64 b.start)]) underlying123 inf3 inf123 (by kernel_rfl)) ?_
  refine TO.l rfl (l_buildSlice (m := 1) (parts := [(0, _)]) (cs := [(.int .i64 a.start), (.int .i64 b.start)]) underlying124 inf123 (by decide) (by kernel_rfl) rfl (fun z5 => ?_))
  refine TO.qa rfl ?_
  refine TO.nl (T.s (T.rg ?_))
  refine TO.qm rfl (TO.q (q_fa underlying25 rfl inf3 rfl rfl) (TO.q (QT.cast (q_lb 4 underlying3 rfl rfl rfl rfl) (v' := .int .i64 ((a.start.toNat : Nat) : Int)) (by rw [← hsa])) (TO.q (q_fa underlying25 rfl inf22 rfl rfl) ?_)))
  refine TO.q (q_lb 3 underlying22 rfl rfl rfl rfl) (TO.q (q_len underlying22 rfl) (TO.q (q_mulN (a := a.start.toNat) (b := b.next.length) rfl rfl (by omega)) (TO.q (q_fa underlying25 rfl inf3 rfl rfl) ?_)))
  refine TO.q (QT.cast (q_lb 3 underlying3 rfl rfl rfl rfl) (v' := .int .i64 ((b.start.toNat : Nat) : Int)) (by rw [← hsb])) (TO.q (q_addN (a := (a.start.toNat * b.next.length)) (b := b.start.toNat) rfl rfl (by omega)) (TO.q (q_ix (i := ((a.start.toNat * b.next.length) + b.start.toNat)) underlying48 inf3 rfl rfl (rowO (mG 1 rfl)) hc0 (by rw [List.length_replicate]; exact hc0)) ?_))
  refine TO.l rfl (l_st (j := ((a.start.toNat * b.next.length) + b.start.toNat)) (v := .int .i64 1) (vs := [(.int .i64 1)]) (cs := List.replicate (a.next.length * b.next.length) (.int .i64 0)) 1 inf3 rfl rfl rfl rfl rfl (by simp) rfl (by rw [List.length_replicate]; simp; omega) ?_)
  refine TO.sub (O' := [rowI (some ⟨z5, 0, none⟩) 1 123 2 [(.int .i64 a.start), (.int .i64 b.start)], rowI (some ⟨z4, 0, none⟩) (a.next.length * b.next.length) 3 1 (ints (nmL (a.next.length * b.next.length) [(a.start.toNat * b.next.length + b.start.toNat)])), oI z3 25 [(.int .i64 0), (.int .i64 0), (.slice none 0 0), (.slice none 0 0)], oI z2 25 (dC b k), oI z1 25 (dC a j)]) (by rw [show putL (List.replicate (a.next.length * b.next.length) (.int .i64 0)) ((a.start.toNat * b.next.length) + b.start.toNat) [(.int .i64 1)] = ints (nmL (a.next.length * b.next.length) [(a.start.toNat * b.next.length + b.start.toNat)]) from hst1]; exact Sub.of (List.Sublist.refl _)) ?_
  refine TO.nl ?_
  refine T.reset [rowI (some ⟨z5, 0, none⟩) 1 123 2 [(.int .i64 a.start), (.int .i64 b.start)], rowI (some ⟨z4, 0, none⟩) (a.next.length * b.next.length) 3 1 (ints (nmL (a.next.length * b.next.length) [(a.start.toNat * b.next.length + b.start.toNat)])), oI z3 25 [(.int .i64 0), (.int .i64 0), (.slice none 0 0), (.slice none 0 0)], oI z2 25 (dC b k), oI z1 25 (dC a j)] [(0, (dV a j)), (1, (dV b k)), (2, .int .u8 (op : Int)), (3, (.pointer (some ⟨z1, 0, none⟩))), (4, (.pointer (some ⟨z2, 0, none⟩))), (6, (.pointer (some ⟨z3, 0, none⟩))), (7, .int .i64 0), (8, (.slice (some ⟨z4, 0, none⟩) (a.next.length * b.next.length) (a.next.length * b.next.length))), (9, (.slice (some ⟨z5, 0, none⟩) 1 1))] rfl ⟨rfl, rfl, rfl, rfl, rfl, rfl, rfl, rfl, rfl, trivial⟩ (fun ρ0 => ?_)
  refine T.s (T.rg ?_)
  refine TO.q (q_fa underlying25 rfl inf3 rfl rfl) (TO.q (q_lb 4 underlying3 rfl rfl rfl rfl) (TO.q (q_build (cs := [(.int .i64 a.vars), (.int .i64 0), (.slice none 0 0), (.slice none 0 0)]) plan25 inf25 (by kernel_rfl)) ?_))
  refine TO.l rfl (l_alloc inf25 rfl (fun z6 => ?_))
  refine TO.l rfl (l_sb (v := (.agg #[(.int .i64 a.vars), (.int .i64 0), (.slice none 0 0), (.slice none 0 0)])) (vs := [(.int .i64 a.vars), (.int .i64 0), (.slice none 0 0), (.slice none 0 0)]) 0 inf25 rfl rfl rfl rfl rfl rfl (by simp [putL]) ?_)
  refine TO.nl (T.s (T.s ?_))
  refine T.nilRow 4 1 ?_
  refine T.nilRow 48 1 ?_
  refine T.sub (O' := [oI z6 25 [(.int .i64 a.vars), (.int .i64 0), (.slice none 0 0), (.slice none 0 0)], rowI none 0 48 1 (vals []), rowI none 0 4 1 (bools []), rowI (some ⟨z4, 0, none⟩) (a.next.length * b.next.length) 3 1 (ints (nmL (a.next.length * b.next.length) [(a.start.toNat * b.next.length + b.start.toNat)])), rowI (some ⟨z5, 0, none⟩) 1 123 2 (prs b.next.length [(a.start.toNat * b.next.length + b.start.toNat)]), oI z3 25 [(.int .i64 0), (.int .i64 0), (.slice none 0 0), (.slice none 0 0)], oI z2 25 (dC b k), oI z1 25 (dC a j)]) (by rw [show prs b.next.length [(a.start.toNat * b.next.length + b.start.toNat)] = [(.int .i64 a.start), (.int .i64 b.start)] from by simp [prs, unC, un, hpd.1, hpd.2, ← hsa, ← hsb]]; exact Sub.pull [rowI none 0 48 1 [], rowI none 0 4 1 []] _ (.k (.k (.pull [rowI (some ⟨z5, 0, none⟩) 1 123 2 [(.int .i64 a.start), (.int .i64 b.start)]] _ (.k (.k (.k (.k .z)))))))) ?_
  refine T.rg ?_
  refine TO.qa rfl ?_
  refine TO.nl (T.block ?_)
  have hb0 : bfsN (prodD f a b) 0 = [(a.start.toNat * b.next.length + b.start.toNat)] := by show [(prodD f a b).start.toNat] = _; rw [show (prodD f a b).start.toNat = (a.start.toNat * b.next.length + b.start.toNat) from Int.toNat_natCast _]
  refine T.loopS (fun (i : Nat) ρ O => ∃ (nb fb : Option Addr) (nc fc : Nat) (qs : List Rec) (fs : List Bool) (pb : Option Addr) (pc : Nat), O = ([oI z6 25 [(.int .i64 a.vars), (.int .i64 0), (.slice nb i nc), (.slice fb i fc)], rowI nb nc 48 1 (vals qs), rowI fb fc 4 1 (bools fs), rowI (some ⟨z4, 0, none⟩) (a.next.length * b.next.length) 3 1 (ints (nmL (a.next.length * b.next.length) (bfsN (prodD f a b) i))), rowI pb pc 123 2 (prs b.next.length (bfsN (prodD f a b) i)), oI z3 25 [(.int .i64 0), (.int .i64 0), (.slice none 0 0), (.slice none 0 0)], oI z2 25 (dC b k), oI z1 25 (dC a j)] ++ (itms 3 qs)) ∧ i ≤ (bfsN (prodD f a b) i).length ∧ qs.length = i ∧ fs.length = i ∧ nums qs = ((order (prodD f a b)).take i).map (rnR (prodD f a b)) ∧ fs = ((order (prodD f a b)).take i).map (finN (prodD f a b)) ∧ Heads [(0, (dV a j)), (1, (dV b k)), (2, .int .u8 (op : Int)), (3, (.pointer (some ⟨z1, 0, none⟩))), (4, (.pointer (some ⟨z2, 0, none⟩))), (6, (.pointer (some ⟨z3, 0, none⟩))), (8, (.slice (some ⟨z4, 0, none⟩) (a.next.length * b.next.length) (a.next.length * b.next.length))), (9, (.slice pb ((bfsN (prodD f a b) i).length) pc)), (10, (.pointer (some ⟨z6, 0, none⟩))), (11, .int .i64 ((i : Nat) : Int))] ρ) (fun i => a.next.length * b.next.length - i) 0 ?_ ?_
  · exact ⟨none, none, 0, 0, [], [], _, _, by rw [hb0]; rfl, Nat.zero_le _, rfl, rfl, by simp, by simp, ⟨rfl, rfl, rfl, rfl, rfl, rfl, rfl, (congrArg (fun n9 => Value.slice _ n9 _) (by rw [hb0]; rfl)), rfl, rfl, trivial⟩⟩
  rintro i ρ O ⟨nb, fb, nc, fc, qs, fs, pb, pc, rfl, hile, hql, hfl, hqs, hfs, hH⟩
  obtain ⟨ρ0, rfl⟩ := hH.elim
  clear hH
  have hbl := pr_bfs_len (f := f) va.toVal vb.toVal hv i
  refine T.s (T.s (T.rg ?_))
  refine TO.qm rfl (TO.qm rfl (TO.q (q_len underlying124 rfl) (TO.q (q_lss rfl rfl) ?_)))
  refine TO.nl ?_
  refine T.condP rfl (fun hc => ?_) (fun hc => ?_)
  · have hlt51 : i < (bfsN (prodD f a b) i).length := by omega
    obtain ⟨o, hq⟩ : ∃ o, (bfsN (prodD f a b) i)[i]? = some o := ⟨_, List.getElem?_eq_getElem hlt51⟩
    have ho := (pr_bfs_ok (f := f) va.toVal vb.toVal hv i).2 o (List.mem_of_getElem? hq)
    obtain ⟨hs, ht⟩ := pr_split ho
    obtain ⟨v1, c1, g1, s1⟩ := ha.rows.get hs
    obtain ⟨v2, c2, g2, s2⟩ := hb.rows.get ht
    have hi1 : i + 1 ≤ (prodD f a b).next.length := by rw [prod_len]; omega
    have hPf : finN (prodD f a b) o = f (finN a (o / b.next.length)) (finN b (o % b.next.length)) := by
      have h9 := prod_fin (f := f) (a := a) (b := b) hs ht
      rw [Nat.div_add_mod'] at h9; exact h9
    refine T.skip (T.s (T.block (T.s ?_)))
    refine T.draws _ [(0, 0), (1, 0), (2, 0), (3, 0), (4, 0), (5, 0), (6, 0), (7, 0), (8, 0), (9, 0), (10, 0), (11, 0)] mixed (drawF_ok (by kernel_rfl)) (Sub.of (List.Sublist.refl _)) (fun _ _ _ h => h) ?_
    refine DO.q rfl (q_move rfl) (DO.q rfl (q_move rfl) (DO.q rfl (q_ixK (i := i) underlying124 inf123 rfl rfl (rowO (mG 4 rfl)) hlt51 (by rw [prs_len]; omega)) (DO.q rfl (q_ixArrEl (i := 0) underlying123 inf3 rfl rfl (by decide) (rowO (mG 4 rfl)) (by rw [prs_len]; omega)) ?_)))
    refine DO.q rfl (q_ld underlying3 rfl rfl (rowO (mG 4 rfl)) (prs_c0 hq)) (DO.q rfl (q_move rfl) (DO.q rfl (q_move rfl) (DO.q rfl (q_ixK (i := i) underlying124 inf123 rfl rfl (rowO (mG 4 rfl)) hlt51 (by rw [prs_len]; omega)) ?_)))
    refine DO.q rfl (q_ixArrEl (i := 1) underlying123 inf3 rfl rfl (by decide) (rowO (mG 4 rfl)) (by rw [prs_len]; omega)) (DO.q rfl (q_ld underlying3 rfl rfl (rowO (mG 4 rfl)) (prs_c1 hq)) (DO.q rfl (q_assign rfl) (DO.q rfl (q_assign rfl) ?_)))
    refine DO.done ?_
    refine T.s (T.rg ?_)
    refine TO.qa rfl ?_
    refine TO.nl (T.s (T.s (T.rg ?_)))
    refine TO.qa rfl ?_
    refine TO.nl (T.block ?_)
    refine T.nilRow 3 1 ?_
    refine T.sub (O' := ([rowI (some ⟨z4, 0, none⟩) (a.next.length * b.next.length) 3 1 (ints (nmL (a.next.length * b.next.length) (bfsN (prodD f a b) i))), rowI pb pc 123 2 (prs b.next.length (bfsN (prodD f a b) i)), rowI none 0 3 1 (ints ((rnR (prodD f a b) o).take 0)), oI z6 25 [(.int .i64 a.vars), (.int .i64 0), (.slice nb i nc), (.slice fb i fc)], rowI nb nc 48 1 (vals qs), rowI fb fc 4 1 (bools fs), oI z3 25 [(.int .i64 0), (.int .i64 0), (.slice none 0 0), (.slice none 0 0)], oI z2 25 (dC b k), oI z1 25 (dC a j)] ++ itms 3 qs)) (by exact Sub.pull [rowI none 0 3 1 [], oI z6 25 [(.int .i64 a.vars), (.int .i64 0), (.slice nb i nc), (.slice fb i fc)], rowI nb nc 48 1 (vals qs), rowI fb fc 4 1 (bools fs)] _ (.pull [rowI none 0 3 1 [], oI z6 25 [(.int .i64 a.vars), (.int .i64 0), (.slice nb i nc), (.slice fb i fc)], rowI nb nc 48 1 (vals qs), rowI fb fc 4 1 (bools fs)] _ (.k (.k (.k (.k (.k (.k (.k .rf))))))))) ?_
    refine T.loopS (fun (x : Nat) ρ O => ∃ (pb2 : Option Addr) (pc2 : Nat) (rb : Option Addr) (rc : Nat), O = ([rowI (some ⟨z4, 0, none⟩) (a.next.length * b.next.length) 3 1 (ints (nmL (a.next.length * b.next.length) (bfsM (prodD f a b) i o x))), rowI pb2 pc2 123 2 (prs b.next.length (bfsM (prodD f a b) i o x)), rowI rb rc 3 1 (ints ((rnR (prodD f a b) o).take x)), oI z6 25 [(.int .i64 a.vars), (.int .i64 0), (.slice nb i nc), (.slice fb i fc)], rowI nb nc 48 1 (vals qs), rowI fb fc 4 1 (bools fs), oI z3 25 [(.int .i64 0), (.int .i64 0), (.slice none 0 0), (.slice none 0 0)], oI z2 25 (dC b k), oI z1 25 (dC a j)] ++ (itms 3 qs)) ∧ x ≤ letN a ∧ Heads [(0, (dV a j)), (1, (dV b k)), (2, .int .u8 (op : Int)), (3, (.pointer (some ⟨z1, 0, none⟩))), (4, (.pointer (some ⟨z2, 0, none⟩))), (6, (.pointer (some ⟨z3, 0, none⟩))), (8, (.slice (some ⟨z4, 0, none⟩) (a.next.length * b.next.length) (a.next.length * b.next.length))), (9, (.slice pb2 ((bfsM (prodD f a b) i o x).length) pc2)), (10, (.pointer (some ⟨z6, 0, none⟩))), (11, .int .i64 ((i : Nat) : Int)), (12, .int .i64 ((o / b.next.length : Nat) : Int)), (13, .int .i64 ((o % b.next.length : Nat) : Int)), (14, (.slice rb x rc)), (15, .int .i64 ((x : Nat) : Int))] ρ) (fun x => letN a - x) 0 ?_ ?_
    · exact ⟨pb, pc, none, 0, rfl, Nat.zero_le _, ⟨rfl, rfl, rfl, rfl, rfl, rfl, rfl, rfl, rfl, rfl, rfl, rfl, rfl, rfl, trivial⟩⟩
    rintro x ρ O ⟨pb2, pc2, rb, rc, rfl, hx, hH⟩
    obtain ⟨ρ0, rfl⟩ := hH.elim
    clear hH
    have hml := pr_bfsM_len (f := f) va.toVal vb.toVal hv (i := i) ho hx
    have hrl : (rnR (prodD f a b) o).length = letN a := rnR_len (prodD f a b) o
    refine T.s (T.s (T.rg ?_))
    refine TO.qm rfl (TO.q (q_fa underlying25 rfl inf3 rfl rfl) (TO.q (q_lb 8 underlying3 rfl rfl rfl rfl) (TO.q (QT.cast (q_shl1 (v := a.vars.toNat) rfl (by show Value.int _ a.vars = _; rw [Int.toNat_of_nonneg va.v0]) (by have := va.v6; omega)) (v' := .int .i64 ((letN a : Nat) : Int)) rfl) ?_)))
    refine TO.q (q_lss rfl rfl) ?_
    refine TO.nl ?_
    refine T.condP rfl (fun hc => ?_) (fun hc => ?_)
    · have hlt68 : x < letN a := by omega
      have hxb : x < 2 ^ b.vars.toNat := by rw [← hv]; exact hlt68
      obtain ⟨t1, _, x1, d1⟩ := va.toN_lt hs hlt68
      obtain ⟨t2, _, x2, d2⟩ := vb.toN_lt ht hxb
      have hst := (pr_toN_lt (f := f) va.toVal vb.toVal hv ho hlt68).1
      have hcl := (pr_toN_lt (f := f) va.toVal vb.toVal hv ho hlt68).2
      have hcl2 : toN a (o / b.next.length) x * b.next.length + toN b (o % b.next.length) x < a.next.length * b.next.length := by rw [← hst]; exact hcl
      have hdm := pr_div (s := toN a (o / b.next.length) x) t2
      rw [← hst] at hdm
      have hx1 : (ints a.next[o / b.next.length])[x]? = some (.int .i64 ((toN a (o / b.next.length) x : Nat) : Int)) := by rw [ints_get x1, d1]
      have hx2 : (ints b.next[o % b.next.length])[x]? = some (.int .i64 ((toN b (o % b.next.length) x : Nat) : Int)) := by rw [ints_get x2, d2]
      have hrw : ints ((rnR (prodD f a b) o).take (x + 1)) = ints ((rnR (prodD f a b) o).take x) ++ [.int .i64 (((ix (toN (prodD f a b) o x) (order (prodD f a b))) : Nat) : Int)] := by
        have hxr : x < (rnR (prodD f a b) o).length := by rw [hrl]; exact hlt68
        have h9 := rnR_at (d := (prodD f a b)) (o := o) hlt68
        rw [List.getElem?_eq_getElem hxr] at h9
        rw [List.take_succ_eq_append_getElem hxr, Option.some.inj h9]
        exact List.map_append
      refine T.skip (T.s (T.block (T.s ?_)))
      refine T.draws _ [(0, 0), (1, 0), (2, 0), (3, 0), (4, 0), (5, 0), (6, 0), (7, 0), (8, 0), (9, 0), (10, 0), (11, 0), (12, 0), (13, 0), (14, 0), (15, 0), (16, 0), (17, 0)] mixed (drawF_ok (by kernel_rfl)) (Sub.of (List.Sublist.refl _)) (fun _ _ _ h => h) ?_
      refine DO.q rfl (q_fa underlying25 rfl inf22 rfl rfl) (DO.q rfl (q_lb 8 underlying22 rfl rfl rfl rfl) (DO.q rfl (q_move rfl) (DO.q rfl (q_ix (i := (o / b.next.length)) underlying22 inf48 rfl rfl (Sl.o ha.outer) hs (ha1 ▸ hs)) ?_)))
      refine DO.q rfl (q_ld underlying48 rfl rfl (Sl.o ha.outer) g1) (DO.q rfl (q_move rfl) (DO.q rfl (q_ix (i := x) underlying48 inf3 rfl rfl (Sl.o s1) x1 (by rw [List.length_map]; exact x1)) (DO.q rfl (q_ld underlying3 rfl rfl (Sl.o s1) hx1) ?_)))
      refine DO.q rfl (q_fa underlying25 rfl inf22 rfl rfl) (DO.q rfl (q_lb 7 underlying22 rfl rfl rfl rfl) (DO.q rfl (q_move rfl) (DO.q rfl (q_ix (i := (o % b.next.length)) underlying22 inf48 rfl rfl (Sl.o hb.outer) ht (hb1 ▸ ht)) ?_)))
      refine DO.q rfl (q_ld underlying48 rfl rfl (Sl.o hb.outer) g2) (DO.q rfl (q_move rfl) (DO.q rfl (q_ix (i := x) underlying48 inf3 rfl rfl (Sl.o s2) x2 (by rw [List.length_map]; exact x2)) (DO.q rfl (q_ld underlying3 rfl rfl (Sl.o s2) hx2) ?_)))
      refine DO.q rfl (q_assign rfl) (DO.q rfl (q_assign rfl) ?_)
      refine DO.done ?_
      refine T.reset ([rowI (some ⟨z4, 0, none⟩) (a.next.length * b.next.length) 3 1 (ints (nmL (a.next.length * b.next.length) (bfsM (prodD f a b) i o x))), rowI pb2 pc2 123 2 (prs b.next.length (bfsM (prodD f a b) i o x)), rowI rb rc 3 1 (ints ((rnR (prodD f a b) o).take x)), oI z6 25 [(.int .i64 a.vars), (.int .i64 0), (.slice nb i nc), (.slice fb i fc)], rowI nb nc 48 1 (vals qs), rowI fb fc 4 1 (bools fs), oI z3 25 [(.int .i64 0), (.int .i64 0), (.slice none 0 0), (.slice none 0 0)], oI z2 25 (dC b k), oI z1 25 (dC a j)] ++ (itms 3 qs)) [(0, (dV a j)), (1, (dV b k)), (2, .int .u8 (op : Int)), (3, (.pointer (some ⟨z1, 0, none⟩))), (4, (.pointer (some ⟨z2, 0, none⟩))), (6, (.pointer (some ⟨z3, 0, none⟩))), (8, (.slice (some ⟨z4, 0, none⟩) (a.next.length * b.next.length) (a.next.length * b.next.length))), (9, (.slice pb2 ((bfsM (prodD f a b) i o x).length) pc2)), (10, (.pointer (some ⟨z6, 0, none⟩))), (11, .int .i64 ((i : Nat) : Int)), (12, .int .i64 ((o / b.next.length : Nat) : Int)), (13, .int .i64 ((o % b.next.length : Nat) : Int)), (14, (.slice rb x rc)), (15, .int .i64 ((x : Nat) : Int)), (16, .int .i64 ((toN a (o / b.next.length) x : Nat) : Int)), (17, .int .i64 ((toN b (o % b.next.length) x : Nat) : Int))] rfl ⟨rfl, rfl, rfl, rfl, rfl, rfl, rfl, rfl, rfl, rfl, rfl, rfl, rfl, rfl, rfl, rfl, trivial⟩ (fun ρ0 => ?_)
      refine T.s (T.s (T.rg ?_))
      refine TO.qm rfl (TO.qm rfl (TO.q (q_fa underlying25 rfl inf22 rfl rfl) (TO.q (q_lb 7 underlying22 rfl rfl rfl rfl) ?_)))
      refine TO.q (q_len underlying22 rfl) (TO.q (q_mulN (a := (toN a (o / b.next.length) x)) (b := b.next.length) rfl rfl (by omega)) (TO.qm rfl (TO.q (QT.cast (q_addN (a := toN a (o / b.next.length) x * b.next.length) (b := toN b (o % b.next.length) x) rfl rfl (by omega)) (v' := .int .i64 (((toN (prodD f a b) o x) : Nat) : Int)) (by rw [hst])) ?_)))
      refine TO.q (q_ix (i := (toN (prodD f a b) o x)) underlying48 inf3 rfl rfl (rowO (mG 0 rfl)) hcl (by rw [List.length_map, nmL_len]; exact hcl)) (TO.q (q_ld underlying3 rfl rfl (rowO (mG 0 rfl)) (nmL_at hcl)) (TO.q (q_eql rfl rfl) ?_))
      refine TO.nl ?_
      refine T.condP rfl (fun hc => ?_) (fun hc => ?_)
      · have hnew : (toN (prodD f a b) o x) ∉ (bfsM (prodD f a b) i o x) := nmV_zero.1 hc
        obtain ⟨hix, hbm⟩ := visit_new hq hlt68 hi1 hnew
        have hml2 := pr_bfsM_len (f := f) va.toVal vb.toVal hv (i := i) (x := x + 1) ho (Nat.succ_le_of_lt hlt68)
        rw [hbm, List.length_append, List.length_singleton] at hml2
        have hpr : prs b.next.length (bfsM (prodD f a b) i o (x + 1)) = prs b.next.length (bfsM (prodD f a b) i o x) ++ [.int .i64 ((toN a (o / b.next.length) x : Nat) : Int), .int .i64 ((toN b (o % b.next.length) x : Nat) : Int)] := by rw [hbm, prs_snoc]; simp [unC, un, hdm.1, hdm.2]
        have hval : (ints (nmL (a.next.length * b.next.length) ((bfsM (prodD f a b) i o x) ++ [(toN (prodD f a b) o x)])))[(toN (prodD f a b) o x)]? = some (.int .i64 (((ix (toN (prodD f a b) o x) (order (prodD f a b))) + 1 : Nat) : Int)) := by
          rw [nmL_at hcl, nmV_in (by simp), ← hbm, visit_old hq (x := x + 1) (Nat.succ_le_of_lt hlt68) hi1 (by rw [hbm]; simp)]
        refine T.s (T.rg ?_)
        refine TO.qm rfl (TO.qm rfl (TO.qm rfl (TO.q (q_buildA (cs := [.int .i64 ((toN a (o / b.next.length) x : Nat) : Int), .int .i64 ((toN b (o % b.next.length) x : Nat) : Int)]) underlying123 inf3 inf123 (by kernel_rfl)) ?_)))
        refine TO.l rfl (l_buildSlice (m := 1) (parts := [(0, _)]) (cs := [.int .i64 ((toN a (o / b.next.length) x : Nat) : Int), .int .i64 ((toN b (o % b.next.length) x : Nat) : Int)]) underlying124 inf123 (by decide) (by kernel_rfl) rfl (fun z7 => ?_))
        refine TO.l rfl (l_append 2 underlying124 underlying124 inf123 rfl rfl rfl rfl (by rw [prs_len]) (by decide) (Src.row (j := 0) rfl (by simp)) (by simp [oneB]) (by omega) (by decide) (by decide) (fun z8 zc9 => ?_))
        refine TO.qa rfl ?_
        refine TO.nl (T.rg ?_)
        refine TO.qm rfl (TO.qm rfl (TO.q (q_fa underlying25 rfl inf22 rfl rfl) (TO.q (q_lb 8 underlying22 rfl rfl rfl rfl) ?_)))
        refine TO.q (q_len underlying22 rfl) (TO.q (q_mulN (a := (toN a (o / b.next.length) x)) (b := b.next.length) rfl rfl (by omega)) (TO.qm rfl (TO.q (QT.cast (q_addN (a := toN a (o / b.next.length) x * b.next.length) (b := toN b (o % b.next.length) x) rfl rfl (by omega)) (v' := .int .i64 (((toN (prodD f a b) o x) : Nat) : Int)) (by rw [hst])) ?_)))
        refine TO.qm rfl (TO.q (q_len underlying124 rfl) (TO.q (q_ix (i := (toN (prodD f a b) o x)) underlying48 inf3 rfl rfl (rowO (mG 1 rfl)) hcl (by rw [List.length_map, nmL_len]; exact hcl)) ?_))
        refine TO.l rfl (l_st (j := (toN (prodD f a b) o x)) (v := .int .i64 (((bfsM (prodD f a b) i o x).length) + 1 : Int)) (vs := [(.int .i64 (((bfsM (prodD f a b) i o x).length) + 1 : Int))]) (cs := ints (nmL (a.next.length * b.next.length) (bfsM (prodD f a b) i o x))) 1 inf3 rfl rfl rfl rfl rfl (by simp) rfl (by rw [List.length_map, nmL_len]; simp; omega) ?_)
        refine TO.sub (O' := ([rowI (some ⟨z7, 0, none⟩) 1 123 2 [.int .i64 ((toN a (o / b.next.length) x : Nat) : Int), .int .i64 ((toN b (o % b.next.length) x : Nat) : Int)], rowI (some ⟨z4, 0, none⟩) (a.next.length * b.next.length) 3 1 (ints (nmL (a.next.length * b.next.length) ((bfsM (prodD f a b) i o x) ++ [(toN (prodD f a b) o x)]))), rowI z8 zc9 123 2 ((prs b.next.length (bfsM (prodD f a b) i o x)) ++ [.int .i64 ((toN a (o / b.next.length) x : Nat) : Int), .int .i64 ((toN b (o % b.next.length) x : Nat) : Int)]), rowI rb rc 3 1 (ints ((rnR (prodD f a b) o).take x)), oI z6 25 [(.int .i64 a.vars), (.int .i64 0), (.slice nb i nc), (.slice fb i fc)], rowI nb nc 48 1 (vals qs), rowI fb fc 4 1 (bools fs), oI z3 25 [(.int .i64 0), (.int .i64 0), (.slice none 0 0), (.slice none 0 0)], oI z2 25 (dC b k), oI z1 25 (dC a j)] ++ (itms 3 qs))) (by rw [show putL (ints (nmL (a.next.length * b.next.length) (bfsM (prodD f a b) i o x))) (toN (prodD f a b) o x) [(.int .i64 (((bfsM (prodD f a b) i o x).length) + 1 : Int))] = ints (nmL (a.next.length * b.next.length) ((bfsM (prodD f a b) i o x) ++ [(toN (prodD f a b) o x)])) from (by rw [← nmL_add hcl hnew]; simp [putL])]; exact Sub.of (List.Sublist.refl _)) ?_
        refine TO.nl (T.rg ?_)
        refine TO.qm rfl (TO.qm rfl (TO.qm rfl (TO.q (q_fa underlying25 rfl inf22 rfl rfl) ?_)))
        refine TO.q (q_lb 8 underlying22 rfl rfl rfl rfl) (TO.q (q_len underlying22 rfl) (TO.q (q_mulN (a := (toN a (o / b.next.length) x)) (b := b.next.length) rfl rfl (by omega)) (TO.qm rfl ?_)))
        refine TO.q (QT.cast (q_addN (a := toN a (o / b.next.length) x * b.next.length) (b := toN b (o % b.next.length) x) rfl rfl (by omega)) (v' := .int .i64 (((toN (prodD f a b) o x) : Nat) : Int)) (by rw [hst])) (TO.q (q_ix (i := (toN (prodD f a b) o x)) underlying48 inf3 rfl rfl (rowO (mG 1 rfl)) hcl (by rw [List.length_map, nmL_len]; exact hcl)) (TO.q (q_ld underlying3 rfl rfl (rowO (mG 1 rfl)) hval) ?_))
        have hixb : (ix (toN (prodD f a b) o x) (order (prodD f a b))) < a.next.length * b.next.length := by
          have h9 := ix_lt (x := (toN (prodD f a b) o x)) (ks := bfsM (prodD f a b) i o (x + 1)) (by first | (rw [hbm]; simp; done) | (rw [hbm]; exact hold))
          rw [visit_old hq (x := x + 1) (Nat.succ_le_of_lt hlt68) hi1 (by first | (rw [hbm]; simp; done) | (rw [hbm]; exact hold))] at h9
          have h8 := pr_bfsM_len (f := f) va.toVal vb.toVal hv (i := i) (x := x + 1) ho (Nat.succ_le_of_lt hlt68)
          omega
        refine TO.q (QT.cast (q_subN (a := (ix (toN (prodD f a b) o x) (order (prodD f a b))) + 1) (b := 1) rfl rfl (by omega) (by have := hixb; omega)) (v' := .int .i64 (((ix (toN (prodD f a b) o x) (order (prodD f a b))) : Nat) : Int)) rfl) ?_
        refine TO.l rfl (l_build1 (v := .int .i64 (((ix (toN (prodD f a b) o x) (order (prodD f a b))) : Nat) : Int)) underlying48 inf3 rfl rfl rfl (fun z10 => ?_))
        refine TO.l rfl (l_append 4 underlying48 underlying48 inf3 rfl rfl rfl rfl (by rw [List.length_map, List.length_take, hrl]; omega) (by decide) (Src.row (j := 0) rfl (by simp)) (by simp [oneB]) (by omega) (by decide) (by decide) (fun z11 zc12 => ?_))
        refine TO.qa rfl ?_
        refine TO.nl (T.rg ?_)
        refine TO.qm rfl (TO.q (q_addN (a := x) (b := 1) rfl rfl (by omega)) (TO.qa rfl ?_))
        refine TO.nl ?_
        exact ⟨x + 1, by omega, ([rowI (some ⟨z4, 0, none⟩) (a.next.length * b.next.length) 3 1 (ints (nmL (a.next.length * b.next.length) ((bfsM (prodD f a b) i o x) ++ [(toN (prodD f a b) o x)]))), rowI z8 zc9 123 2 ((prs b.next.length (bfsM (prodD f a b) i o x)) ++ [.int .i64 ((toN a (o / b.next.length) x : Nat) : Int), .int .i64 ((toN b (o % b.next.length) x : Nat) : Int)]), rowI z11 zc12 3 1 ((ints ((rnR (prodD f a b) o).take x)) ++ [.int .i64 (((ix (toN (prodD f a b) o x) (order (prodD f a b))) : Nat) : Int)]), oI z6 25 [(.int .i64 a.vars), (.int .i64 0), (.slice nb i nc), (.slice fb i fc)], rowI nb nc 48 1 (vals qs), rowI fb fc 4 1 (bools fs), oI z3 25 [(.int .i64 0), (.int .i64 0), (.slice none 0 0), (.slice none 0 0)], oI z2 25 (dC b k), oI z1 25 (dC a j)] ++ (itms 3 qs)), (by exact Sub.d (.d (.k (.k (.k (.k (.k (.k (.k (.k (.k .rf))))))))))), z8, zc9, z11, zc12, by rw [hpr, hrw, hbm], by omega, ⟨rfl, rfl, rfl, rfl, rfl, rfl, rfl, (congrArg (fun n9 => Value.slice _ n9 _) (by rw [hbm]; simp)), rfl, rfl, rfl, rfl, rfl, rfl, trivial⟩⟩
      have hold : (toN (prodD f a b) o x) ∈ (bfsM (prodD f a b) i o x) := Classical.not_not.1 fun h9 => hc (nmV_zero.2 h9)
      have hbm := visit_same hold
      have hval : (ints (nmL (a.next.length * b.next.length) (bfsM (prodD f a b) i o x)))[(toN (prodD f a b) o x)]? = some (.int .i64 (((ix (toN (prodD f a b) o x) (order (prodD f a b))) + 1 : Nat) : Int)) := by
        rw [nmL_at hcl, nmV_in hold, visit_old hq (Nat.le_of_lt hlt68) hi1 hold]
      refine T.skip (T.rg ?_)
      refine TO.qm rfl (TO.qm rfl (TO.qm rfl (TO.q (q_fa underlying25 rfl inf22 rfl rfl) ?_)))
      refine TO.q (q_lb 7 underlying22 rfl rfl rfl rfl) (TO.q (q_len underlying22 rfl) (TO.q (q_mulN (a := (toN a (o / b.next.length) x)) (b := b.next.length) rfl rfl (by omega)) (TO.qm rfl ?_)))
      refine TO.q (QT.cast (q_addN (a := toN a (o / b.next.length) x * b.next.length) (b := toN b (o % b.next.length) x) rfl rfl (by omega)) (v' := .int .i64 (((toN (prodD f a b) o x) : Nat) : Int)) (by rw [hst])) (TO.q (q_ix (i := (toN (prodD f a b) o x)) underlying48 inf3 rfl rfl (rowO (mG 0 rfl)) hcl (by rw [List.length_map, nmL_len]; exact hcl)) (TO.q (q_ld underlying3 rfl rfl (rowO (mG 0 rfl)) hval) ?_))
      have hixb : (ix (toN (prodD f a b) o x) (order (prodD f a b))) < a.next.length * b.next.length := by
        have h9 := ix_lt (x := (toN (prodD f a b) o x)) (ks := bfsM (prodD f a b) i o (x + 1)) (by first | (rw [hbm]; simp; done) | (rw [hbm]; exact hold))
        rw [visit_old hq (x := x + 1) (Nat.succ_le_of_lt hlt68) hi1 (by first | (rw [hbm]; simp; done) | (rw [hbm]; exact hold))] at h9
        have h8 := pr_bfsM_len (f := f) va.toVal vb.toVal hv (i := i) (x := x + 1) ho (Nat.succ_le_of_lt hlt68)
        omega
      refine TO.q (QT.cast (q_subN (a := (ix (toN (prodD f a b) o x) (order (prodD f a b))) + 1) (b := 1) rfl rfl (by omega) (by have := hixb; omega)) (v' := .int .i64 (((ix (toN (prodD f a b) o x) (order (prodD f a b))) : Nat) : Int)) rfl) ?_
      refine TO.l rfl (l_build1 (v := .int .i64 (((ix (toN (prodD f a b) o x) (order (prodD f a b))) : Nat) : Int)) underlying48 inf3 rfl rfl rfl (fun z13 => ?_))
      refine TO.l rfl (l_append 3 underlying48 underlying48 inf3 rfl rfl rfl rfl (by rw [List.length_map, List.length_take, hrl]; omega) (by decide) (Src.row (j := 0) rfl (by simp)) (by simp [oneB]) (by omega) (by decide) (by decide) (fun z14 zc15 => ?_))
      refine TO.qa rfl ?_
      refine TO.nl (T.rg ?_)
      refine TO.qm rfl (TO.q (q_addN (a := x) (b := 1) rfl rfl (by omega)) (TO.qa rfl ?_))
      refine TO.nl ?_
      exact ⟨x + 1, by omega, ([rowI (some ⟨z4, 0, none⟩) (a.next.length * b.next.length) 3 1 (ints (nmL (a.next.length * b.next.length) (bfsM (prodD f a b) i o x))), rowI pb2 pc2 123 2 (prs b.next.length (bfsM (prodD f a b) i o x)), rowI z14 zc15 3 1 ((ints ((rnR (prodD f a b) o).take x)) ++ [.int .i64 (((ix (toN (prodD f a b) o x) (order (prodD f a b))) : Nat) : Int)]), oI z6 25 [(.int .i64 a.vars), (.int .i64 0), (.slice nb i nc), (.slice fb i fc)], rowI nb nc 48 1 (vals qs), rowI fb fc 4 1 (bools fs), oI z3 25 [(.int .i64 0), (.int .i64 0), (.slice none 0 0), (.slice none 0 0)], oI z2 25 (dC b k), oI z1 25 (dC a j)] ++ (itms 3 qs)), (by exact Sub.d (.k (.k (.k (.k (.k (.k (.k (.k (.k .rf)))))))))), pb2, pc2, z14, zc15, by rw [hrw, hbm], by omega, ⟨rfl, rfl, rfl, rfl, rfl, rfl, rfl, (congrArg (fun n9 => Value.slice _ n9 _) (by rw [hbm])), rfl, rfl, rfl, rfl, rfl, rfl, trivial⟩⟩
    have hge68 : ¬ x < letN a := by omega
    refine T.exit ?_
    refine T.s (T.s ?_)
    have hxe : x = letN a := by omega
    have e1 : (bfsM (prodD f a b) i o x) = bfsN (prodD f a b) (i + 1) := by rw [hxe]; exact bfsM_full hq
    have hle9 : i + 1 ≤ (bfsM (prodD f a b) i o x).length := by
      rw [e1]
      have h9 := pr_bfs_len (f := f) va.toVal vb.toVal hv (i + 1)
      have h8 := (bfsN_prefix (prodD f a b) i (i + 1) (by omega)).length_le
      omega
    have hb4 : (bfsM (prodD f a b) i o x).length ≤ 4096 := by rw [e1]; exact Nat.le_trans (bfsN_prefix (prodD f a b) (i + 1) (prodD f a b).next.length hi1).length_le hN
    refine T.rg ?_
    refine TO.qm rfl (TO.q (q_len underlying124 rfl) (TO.q (QT.toB (q_gtr rfl rfl) (decide_eq_false (by omega))) ?_))
    refine TO.nl ?_
    refine T.cond0 rfl ?_
    refine T.skip (T.s (T.rg ?_))
    refine TO.q (q_fa underlying25 rfl inf22 rfl rfl) (TO.q (q_lb 3 underlying22 rfl rfl rfl rfl) (TO.qm rfl ?_))
    refine TO.l rfl (l_build1 (v := (.slice rb x rc)) underlying22 inf48 rfl rfl rfl (fun z16 => ?_))
    refine TO.l rfl (l_append 5 underlying22 underlying22 inf48 rfl rfl rfl rfl (by rw [List.length_map] <;> omega) (by decide) (Src.row (j := 0) rfl (by simp)) (by simp [oneB]) (by omega) (by decide) (by decide) (fun z17 zc18 => ?_))
    refine TO.q (q_fa underlying25 rfl inf22 rfl rfl) ?_
    refine TO.l rfl (l_sb (v := (.slice z17 (i + 1) zc18)) (vs := [(.slice z17 (i + 1) zc18)]) 4 inf22 rfl rfl rfl rfl rfl rfl (by simp [putL]) ?_)
    refine TO.nl ?_
    have htk : (rnR (prodD f a b) o).take x = rnR (prodD f a b) o := List.take_of_length_le (by rw [hrl]; omega)
    have hvq : vals (qs ++ [⟨rb, rc, rnR (prodD f a b) o⟩]) = (vals qs) ++ [(.slice rb x rc)] := by simp [Rec.val, hrl, hxe]
    refine T.sub (O' := ([oI z6 25 [(.int .i64 a.vars), (.int .i64 0), (.slice z17 (i + 1) zc18), (.slice fb i fc)], rowI z17 zc18 48 1 ((vals qs) ++ [(.slice rb x rc)]), rowI fb fc 4 1 (bools fs), rowI (some ⟨z4, 0, none⟩) (a.next.length * b.next.length) 3 1 (ints (nmL (a.next.length * b.next.length) (bfsM (prodD f a b) i o x))), rowI pb2 pc2 123 2 (prs b.next.length (bfsM (prodD f a b) i o x)), oI z3 25 [(.int .i64 0), (.int .i64 0), (.slice none 0 0), (.slice none 0 0)], oI z2 25 (dC b k), oI z1 25 (dC a j), rowI rb rc 3 1 (ints (rnR (prodD f a b) o))] ++ itms 3 qs)) (by rw [show ints (rnR (prodD f a b) o) = ints ((rnR (prodD f a b) o).take x) by rw [htk]]; exact Sub.d (.pull [rowI (some ⟨z4, 0, none⟩) (a.next.length * b.next.length) 3 1 (ints (nmL (a.next.length * b.next.length) (bfsM (prodD f a b) i o x))), rowI pb2 pc2 123 2 (prs b.next.length (bfsM (prodD f a b) i o x)), rowI rb rc 3 1 (ints ((rnR (prodD f a b) o).take x))] _ (.pull [rowI (some ⟨z4, 0, none⟩) (a.next.length * b.next.length) 3 1 (ints (nmL (a.next.length * b.next.length) (bfsM (prodD f a b) i o x))), rowI pb2 pc2 123 2 (prs b.next.length (bfsM (prodD f a b) i o x)), rowI rb rc 3 1 (ints ((rnR (prodD f a b) o).take x))] _ (.pull [rowI (some ⟨z4, 0, none⟩) (a.next.length * b.next.length) 3 1 (ints (nmL (a.next.length * b.next.length) (bfsM (prodD f a b) i o x))), rowI pb2 pc2 123 2 (prs b.next.length (bfsM (prodD f a b) i o x)), rowI rb rc 3 1 (ints ((rnR (prodD f a b) o).take x))] _ (.k (.k (.pull [rowI rb rc 3 1 (ints ((rnR (prodD f a b) o).take x))] _ (.pull [rowI rb rc 3 1 (ints ((rnR (prodD f a b) o).take x))] _ (.pull [rowI rb rc 3 1 (ints ((rnR (prodD f a b) o).take x))] _ (.k .rf)))))))))) ?_
    refine T.sub (O' := ([oI z6 25 [(.int .i64 a.vars), (.int .i64 0), (.slice z17 (i + 1) zc18), (.slice fb i fc)], rowI z17 zc18 48 1 (vals (qs ++ [⟨rb, rc, rnR (prodD f a b) o⟩])), rowI fb fc 4 1 (bools fs), rowI (some ⟨z4, 0, none⟩) (a.next.length * b.next.length) 3 1 (ints (nmL (a.next.length * b.next.length) (bfsM (prodD f a b) i o x))), rowI pb2 pc2 123 2 (prs b.next.length (bfsM (prodD f a b) i o x)), oI z3 25 [(.int .i64 0), (.int .i64 0), (.slice none 0 0), (.slice none 0 0)], oI z2 25 (dC b k), oI z1 25 (dC a j)] ++ itms 3 (qs ++ [⟨rb, rc, rnR (prodD f a b) o⟩]))) (by rw [hvq]; exact Sub.foldN [oI z6 25 [(.int .i64 a.vars), (.int .i64 0), (.slice z17 (i + 1) zc18), (.slice fb i fc)], rowI z17 zc18 48 1 ((vals qs) ++ [(.slice rb x rc)]), rowI fb fc 4 1 (bools fs), rowI (some ⟨z4, 0, none⟩) (a.next.length * b.next.length) 3 1 (ints (nmL (a.next.length * b.next.length) (bfsM (prodD f a b) i o x))), rowI pb2 pc2 123 2 (prs b.next.length (bfsM (prodD f a b) i o x)), oI z3 25 [(.int .i64 0), (.int .i64 0), (.slice none 0 0), (.slice none 0 0)], oI z2 25 (dC b k), oI z1 25 (dC a j)] (rowI rb rc 3 1 (ints (rnR (prodD f a b) o))) (itms 3 qs) _ (itms_snoc 3 qs ⟨rb, rc, rnR (prodD f a b) o⟩)) ?_
    refine T.s ?_
    refine T.draws _ [(0, 0), (1, 0), (2, 0), (3, 0), (4, 0), (5, 0), (6, 0), (7, 0), (8, 0), (9, 0), (10, 0), (11, 0)] mixed (drawF_ok (by kernel_rfl)) (Sub.of (List.Sublist.refl _)) (fun _ _ _ h => h) ?_
    refine DO.q rfl (q_fa underlying25 rfl inf23 rfl rfl) (DO.q rfl (q_lb 7 underlying23 rfl rfl rfl rfl) (DO.q rfl (q_move rfl) (DO.q rfl (q_ix (i := (o / b.next.length)) underlying23 inf4 rfl rfl (Sl.o ha.final) (by omega) (by rw [List.length_map] <;> omega)) ?_)))
    refine DO.q rfl (q_ld underlying4 rfl rfl (Sl.o ha.final) (show (bools a.final)[o / b.next.length]? = some (.bool (finN a (o / b.next.length))) by rw [bools_get (show o / b.next.length < a.final.length by omega)]; unfold finN; rw [List.getD_eq_getElem?_getD, List.getElem?_eq_getElem (show o / b.next.length < a.final.length by omega)]; rfl)) (DO.q rfl (q_fa underlying25 rfl inf23 rfl rfl) (DO.q rfl (q_lb 6 underlying23 rfl rfl rfl rfl) (DO.q rfl (q_move rfl) ?_)))
    refine DO.q rfl (q_ix (i := (o % b.next.length)) underlying23 inf4 rfl rfl (Sl.o hb.final) (by omega) (by rw [List.length_map] <;> omega)) (DO.q rfl (q_ld underlying4 rfl rfl (Sl.o hb.final) (show (bools b.final)[o % b.next.length]? = some (.bool (finN b (o % b.next.length))) by rw [bools_get (show o % b.next.length < b.final.length by omega)]; unfold finN; rw [List.getD_eq_getElem?_getD, List.getElem?_eq_getElem (show o % b.next.length < b.final.length by omega)]; rfl)) (DO.q rfl (q_assign rfl) (DO.q rfl (q_assign rfl) ?_)))
    refine DO.done ?_
    refine T.cut1 (fun ρ O => ∃ (fb2 : Option Addr) (fc2 : Nat), O = ([oI z6 25 [(.int .i64 a.vars), (.int .i64 0), (.slice z17 (i + 1) zc18), (.slice fb2 (i + 1) fc2)], rowI z17 zc18 48 1 (vals (qs ++ [⟨rb, rc, rnR (prodD f a b) o⟩])), rowI fb2 fc2 4 1 (bools (fs ++ [finN (prodD f a b) o])), rowI (some ⟨z4, 0, none⟩) (a.next.length * b.next.length) 3 1 (ints (nmL (a.next.length * b.next.length) (bfsM (prodD f a b) i o x))), rowI pb2 pc2 123 2 (prs b.next.length (bfsM (prodD f a b) i o x)), oI z3 25 [(.int .i64 0), (.int .i64 0), (.slice none 0 0), (.slice none 0 0)], oI z2 25 (dC b k), oI z1 25 (dC a j)] ++ (itms 3 (qs ++ [⟨rb, rc, rnR (prodD f a b) o⟩]))) ∧ Heads [(0, (dV a j)), (1, (dV b k)), (2, .int .u8 (op : Int)), (3, (.pointer (some ⟨z1, 0, none⟩))), (4, (.pointer (some ⟨z2, 0, none⟩))), (6, (.pointer (some ⟨z3, 0, none⟩))), (8, (.slice (some ⟨z4, 0, none⟩) (a.next.length * b.next.length) (a.next.length * b.next.length))), (9, (.slice pb2 ((bfsM (prodD f a b) i o x).length) pc2)), (10, (.pointer (some ⟨z6, 0, none⟩))), (11, .int .i64 ((i : Nat) : Int)), (12, .int .i64 ((o / b.next.length : Nat) : Int)), (13, .int .i64 ((o % b.next.length : Nat) : Int)), (14, (.slice rb x rc)), (15, .int .i64 ((x : Nat) : Int)), (18, .bool (finN a (o / b.next.length))), (19, .bool (finN b (o % b.next.length)))] ρ) ?_ ?_
    · refine T.rg ?_
      refine TO.q (q_fa underlying25 rfl inf23 rfl rfl) (TO.q (q_lb 0 underlying23 rfl rfl rfl rfl) (TO.qm rfl (TO.q (q_eql rfl rfl) ?_)))
      by_cases hs153 : (op : Int) = 10
      · refine TO.q (QT.toB (q_move rfl) (decide_eq_true hs153)) ?_
        refine TO.gd rfl rfl rfl (LT.oq rfl rfl (q_move rfl) ?_)
        refine TO.q (q_pick1 rfl rfl) ?_
        by_cases hs156 : (finN a (o / b.next.length)) = true
        · refine TO.q (QT.toB (q_move rfl) (hs156)) ?_
          refine TO.gd rfl rfl rfl (LT.oq rfl rfl (q_move rfl) ?_)
          refine TO.q (q_pick1 rfl rfl) ?_
          by_cases hs159 : (finN b (o % b.next.length)) = true
          · refine TO.q (QT.toB (q_move rfl) (hs159)) ?_
            refine TO.pd rfl rfl ?_
            refine TO.pd rfl rfl ?_
            refine TO.pd rfl rfl ?_
            refine TO.pd rfl rfl ?_
            refine TO.pd rfl rfl ?_
            refine TO.pd rfl rfl ?_
            refine TO.pd rfl rfl ?_
            refine TO.pd rfl rfl ?_
            refine TO.q (q_pick1 rfl rfl) (TO.qm rfl ?_)
            refine TO.pd rfl rfl ?_
            refine TO.pd rfl rfl ?_
            refine TO.pd rfl rfl ?_
            refine TO.pd rfl rfl ?_
            refine TO.pd rfl rfl ?_
            refine TO.pd rfl rfl ?_
            refine TO.pd rfl rfl ?_
            refine TO.q (q_pick1 rfl rfl) ?_
            refine TO.l rfl (l_build1 (v := .bool true) underlying23 inf4 rfl rfl rfl (fun z19 => ?_))
            refine TO.l rfl (l_append 3 underlying23 underlying23 inf4 rfl rfl rfl rfl (by rw [List.length_map] <;> omega) (by decide) (Src.row (j := 0) rfl (by simp)) (by simp [oneB]) (by omega) (by decide) (by decide) (fun z20 zc21 => ?_))
            refine TO.q (q_fa underlying25 rfl inf23 rfl rfl) ?_
            refine TO.l rfl (l_sb (v := (.slice z20 (i + 1) zc21)) (vs := [(.slice z20 (i + 1) zc21)]) 1 inf23 rfl rfl rfl rfl rfl rfl (by simp [putL]) ?_)
            have hvo : finN (prodD f a b) o = true := by
              rw [hPf]; rcases hop with ⟨ho8, rfl⟩ | ⟨ho8, rfl⟩ <;> first | (exfalso; omega) | skip
              all_goals (cases h91 : finN a (o / b.next.length) <;> cases h92 : finN b (o % b.next.length) <;> first | rfl | exact absurd hs154 (by rw [h91]; decide) | exact absurd h91 hs154 | exact absurd hs154 (by rw [h92]; decide) | exact absurd h92 hs154 | exact absurd hs156 (by rw [h91]; decide) | exact absurd h91 hs156 | exact absurd hs156 (by rw [h92]; decide) | exact absurd h92 hs156 | exact absurd hs157 (by rw [h91]; decide) | exact absurd h91 hs157 | exact absurd hs157 (by rw [h92]; decide) | exact absurd h92 hs157 | exact absurd hs159 (by rw [h91]; decide) | exact absurd h91 hs159 | exact absurd hs159 (by rw [h92]; decide) | exact absurd h92 hs159 | exact absurd hs164 (by rw [h91]; decide) | exact absurd h91 hs164 | exact absurd hs164 (by rw [h92]; decide) | exact absurd h92 hs164 | exact absurd hs165 (by rw [h91]; decide) | exact absurd h91 hs165 | exact absurd hs165 (by rw [h92]; decide) | exact absurd h92 hs165 | exact absurd hs169 (by rw [h91]; decide) | exact absurd h91 hs169 | exact absurd hs169 (by rw [h92]; decide) | exact absurd h92 hs169)
            have hbq : bools (fs ++ [finN (prodD f a b) o]) = bools fs ++ [.bool true] := by rw [hvo]; simp
            refine TO.sub (O' := ([oI z6 25 [(.int .i64 a.vars), (.int .i64 0), (.slice z17 (i + 1) zc18), (.slice z20 (i + 1) zc21)], rowI z17 zc18 48 1 (vals (qs ++ [⟨rb, rc, rnR (prodD f a b) o⟩])), rowI z20 zc21 4 1 (bools (fs ++ [finN (prodD f a b) o])), rowI (some ⟨z4, 0, none⟩) (a.next.length * b.next.length) 3 1 (ints (nmL (a.next.length * b.next.length) (bfsM (prodD f a b) i o x))), rowI pb2 pc2 123 2 (prs b.next.length (bfsM (prodD f a b) i o x)), oI z3 25 [(.int .i64 0), (.int .i64 0), (.slice none 0 0), (.slice none 0 0)], oI z2 25 (dC b k), oI z1 25 (dC a j)] ++ itms 3 (qs ++ [⟨rb, rc, rnR (prodD f a b) o⟩]))) (by rw [hbq]; exact Sub.d (.k (.k (.k (.k (.k (.k (.k (.k .rf))))))))) ?_
            refine TO.nl ?_
            exact ⟨z20, zc21, rfl, ⟨rfl, rfl, rfl, rfl, rfl, rfl, rfl, rfl, rfl, rfl, rfl, rfl, rfl, rfl, rfl, rfl, trivial⟩⟩
          refine TO.q (QT.toB (q_move rfl) (Bool.eq_false_iff.2 hs159)) ?_
          refine TO.gd rfl rfl rfl (LT.oq rfl rfl (q_move rfl) ?_)
          refine TO.gd rfl rfl rfl (LT.oq rfl rfl (q_eql rfl rfl) ?_)
          by_cases hs162 : (op : Int) = 11
          · refine TO.gd rfl rfl rfl (LT.oq rfl rfl (QT.toB (q_move rfl) (decide_eq_true hs162)) ?_)
            refine TO.gd rfl rfl rfl (LT.oq rfl rfl (q_move rfl) ?_)
            by_cases hs164 : (finN a (o / b.next.length)) = true
            · refine TO.gd rfl rfl rfl (LT.oq rfl rfl (QT.toB (q_move rfl) (hs164)) ?_)
              refine TO.pd rfl rfl ?_
              refine TO.gd rfl rfl rfl (LT.oq rfl rfl (q_pick1 rfl rfl) ?_)
              refine TO.gd rfl rfl rfl (LT.oq rfl rfl (q_pick1 rfl rfl) ?_)
              refine TO.q (q_pick0 rfl rfl) (TO.qm rfl ?_)
              refine TO.pd rfl rfl ?_
              refine TO.pd rfl rfl ?_
              refine TO.pd rfl rfl ?_
              refine TO.pd rfl rfl ?_
              refine TO.pd rfl rfl ?_
              refine TO.pd rfl rfl ?_
              refine TO.pd rfl rfl ?_
              refine TO.q (q_pick1 rfl rfl) ?_
              refine TO.l rfl (l_build1 (v := .bool true) underlying23 inf4 rfl rfl rfl (fun z22 => ?_))
              refine TO.l rfl (l_append 3 underlying23 underlying23 inf4 rfl rfl rfl rfl (by rw [List.length_map] <;> omega) (by decide) (Src.row (j := 0) rfl (by simp)) (by simp [oneB]) (by omega) (by decide) (by decide) (fun z23 zc24 => ?_))
              refine TO.q (q_fa underlying25 rfl inf23 rfl rfl) ?_
              refine TO.l rfl (l_sb (v := (.slice z23 (i + 1) zc24)) (vs := [(.slice z23 (i + 1) zc24)]) 1 inf23 rfl rfl rfl rfl rfl rfl (by simp [putL]) ?_)
              have hvo : finN (prodD f a b) o = true := by
                rw [hPf]; rcases hop with ⟨ho8, rfl⟩ | ⟨ho8, rfl⟩ <;> first | (exfalso; omega) | skip
                all_goals (cases h91 : finN a (o / b.next.length) <;> cases h92 : finN b (o % b.next.length) <;> first | rfl | exact absurd hs154 (by rw [h91]; decide) | exact absurd h91 hs154 | exact absurd hs154 (by rw [h92]; decide) | exact absurd h92 hs154 | exact absurd hs156 (by rw [h91]; decide) | exact absurd h91 hs156 | exact absurd hs156 (by rw [h92]; decide) | exact absurd h92 hs156 | exact absurd hs157 (by rw [h91]; decide) | exact absurd h91 hs157 | exact absurd hs157 (by rw [h92]; decide) | exact absurd h92 hs157 | exact absurd hs159 (by rw [h91]; decide) | exact absurd h91 hs159 | exact absurd hs159 (by rw [h92]; decide) | exact absurd h92 hs159 | exact absurd hs164 (by rw [h91]; decide) | exact absurd h91 hs164 | exact absurd hs164 (by rw [h92]; decide) | exact absurd h92 hs164 | exact absurd hs165 (by rw [h91]; decide) | exact absurd h91 hs165 | exact absurd hs165 (by rw [h92]; decide) | exact absurd h92 hs165 | exact absurd hs169 (by rw [h91]; decide) | exact absurd h91 hs169 | exact absurd hs169 (by rw [h92]; decide) | exact absurd h92 hs169)
              have hbq : bools (fs ++ [finN (prodD f a b) o]) = bools fs ++ [.bool true] := by rw [hvo]; simp
              refine TO.sub (O' := ([oI z6 25 [(.int .i64 a.vars), (.int .i64 0), (.slice z17 (i + 1) zc18), (.slice z23 (i + 1) zc24)], rowI z17 zc18 48 1 (vals (qs ++ [⟨rb, rc, rnR (prodD f a b) o⟩])), rowI z23 zc24 4 1 (bools (fs ++ [finN (prodD f a b) o])), rowI (some ⟨z4, 0, none⟩) (a.next.length * b.next.length) 3 1 (ints (nmL (a.next.length * b.next.length) (bfsM (prodD f a b) i o x))), rowI pb2 pc2 123 2 (prs b.next.length (bfsM (prodD f a b) i o x)), oI z3 25 [(.int .i64 0), (.int .i64 0), (.slice none 0 0), (.slice none 0 0)], oI z2 25 (dC b k), oI z1 25 (dC a j)] ++ itms 3 (qs ++ [⟨rb, rc, rnR (prodD f a b) o⟩]))) (by rw [hbq]; exact Sub.d (.k (.k (.k (.k (.k (.k (.k (.k .rf))))))))) ?_
              refine TO.nl ?_
              exact ⟨z23, zc24, rfl, ⟨rfl, rfl, rfl, rfl, rfl, rfl, rfl, rfl, rfl, rfl, rfl, rfl, rfl, rfl, rfl, rfl, trivial⟩⟩
            refine TO.gd rfl rfl rfl (LT.oq rfl rfl (QT.toB (q_move rfl) (Bool.eq_false_iff.2 hs164)) ?_)
            refine TO.gd rfl rfl rfl (LT.oq rfl rfl (q_move rfl) ?_)
            refine TO.gd rfl rfl rfl (LT.oq rfl rfl (q_pick0 rfl rfl) ?_)
            refine TO.gd rfl rfl rfl (LT.oq rfl rfl (q_pick1 rfl rfl) ?_)
            refine TO.q (q_pick0 rfl rfl) ?_
            by_cases hs169 : (finN b (o % b.next.length)) = true
            · refine TO.q (QT.toB (q_move rfl) (hs169)) ?_
              refine TO.pd rfl rfl ?_
              refine TO.pd rfl rfl ?_
              refine TO.pd rfl rfl ?_
              refine TO.pd rfl rfl ?_
              refine TO.pd rfl rfl ?_
              refine TO.pd rfl rfl ?_
              refine TO.pd rfl rfl ?_
              refine TO.q (q_pick1 rfl rfl) ?_
              refine TO.l rfl (l_build1 (v := .bool true) underlying23 inf4 rfl rfl rfl (fun z25 => ?_))
              refine TO.l rfl (l_append 3 underlying23 underlying23 inf4 rfl rfl rfl rfl (by rw [List.length_map] <;> omega) (by decide) (Src.row (j := 0) rfl (by simp)) (by simp [oneB]) (by omega) (by decide) (by decide) (fun z26 zc27 => ?_))
              refine TO.q (q_fa underlying25 rfl inf23 rfl rfl) ?_
              refine TO.l rfl (l_sb (v := (.slice z26 (i + 1) zc27)) (vs := [(.slice z26 (i + 1) zc27)]) 1 inf23 rfl rfl rfl rfl rfl rfl (by simp [putL]) ?_)
              have hvo : finN (prodD f a b) o = true := by
                rw [hPf]; rcases hop with ⟨ho8, rfl⟩ | ⟨ho8, rfl⟩ <;> first | (exfalso; omega) | skip
                all_goals (cases h91 : finN a (o / b.next.length) <;> cases h92 : finN b (o % b.next.length) <;> first | rfl | exact absurd hs154 (by rw [h91]; decide) | exact absurd h91 hs154 | exact absurd hs154 (by rw [h92]; decide) | exact absurd h92 hs154 | exact absurd hs156 (by rw [h91]; decide) | exact absurd h91 hs156 | exact absurd hs156 (by rw [h92]; decide) | exact absurd h92 hs156 | exact absurd hs157 (by rw [h91]; decide) | exact absurd h91 hs157 | exact absurd hs157 (by rw [h92]; decide) | exact absurd h92 hs157 | exact absurd hs159 (by rw [h91]; decide) | exact absurd h91 hs159 | exact absurd hs159 (by rw [h92]; decide) | exact absurd h92 hs159 | exact absurd hs164 (by rw [h91]; decide) | exact absurd h91 hs164 | exact absurd hs164 (by rw [h92]; decide) | exact absurd h92 hs164 | exact absurd hs165 (by rw [h91]; decide) | exact absurd h91 hs165 | exact absurd hs165 (by rw [h92]; decide) | exact absurd h92 hs165 | exact absurd hs169 (by rw [h91]; decide) | exact absurd h91 hs169 | exact absurd hs169 (by rw [h92]; decide) | exact absurd h92 hs169)
              have hbq : bools (fs ++ [finN (prodD f a b) o]) = bools fs ++ [.bool true] := by rw [hvo]; simp
              refine TO.sub (O' := ([oI z6 25 [(.int .i64 a.vars), (.int .i64 0), (.slice z17 (i + 1) zc18), (.slice z26 (i + 1) zc27)], rowI z17 zc18 48 1 (vals (qs ++ [⟨rb, rc, rnR (prodD f a b) o⟩])), rowI z26 zc27 4 1 (bools (fs ++ [finN (prodD f a b) o])), rowI (some ⟨z4, 0, none⟩) (a.next.length * b.next.length) 3 1 (ints (nmL (a.next.length * b.next.length) (bfsM (prodD f a b) i o x))), rowI pb2 pc2 123 2 (prs b.next.length (bfsM (prodD f a b) i o x)), oI z3 25 [(.int .i64 0), (.int .i64 0), (.slice none 0 0), (.slice none 0 0)], oI z2 25 (dC b k), oI z1 25 (dC a j)] ++ itms 3 (qs ++ [⟨rb, rc, rnR (prodD f a b) o⟩]))) (by rw [hbq]; exact Sub.d (.k (.k (.k (.k (.k (.k (.k (.k .rf))))))))) ?_
              refine TO.nl ?_
              exact ⟨z26, zc27, rfl, ⟨rfl, rfl, rfl, rfl, rfl, rfl, rfl, rfl, rfl, rfl, rfl, rfl, rfl, rfl, rfl, rfl, trivial⟩⟩
            refine TO.q (QT.toB (q_move rfl) (Bool.eq_false_iff.2 hs169)) ?_
            refine TO.gd rfl rfl rfl (LT.oq rfl rfl (q_move rfl) ?_)
            refine TO.gd rfl rfl rfl (LT.oq rfl rfl (QT.toB (q_eql rfl rfl) (decide_eq_false (by omega))) ?_)
            refine TO.gd rfl rfl rfl (LT.oq rfl rfl (q_move rfl) ?_)
            refine TO.pd rfl rfl ?_
            refine TO.pd rfl rfl ?_
            refine TO.pd rfl rfl ?_
            refine TO.gd rfl rfl rfl (LT.oq rfl rfl (q_pick0 rfl rfl) ?_)
            refine TO.q (q_pick0 rfl rfl) ?_
            refine TO.l rfl (l_build1 (v := .bool false) underlying23 inf4 rfl rfl rfl (fun z28 => ?_))
            refine TO.l rfl (l_append 3 underlying23 underlying23 inf4 rfl rfl rfl rfl (by rw [List.length_map] <;> omega) (by decide) (Src.row (j := 0) rfl (by simp)) (by simp [oneB]) (by omega) (by decide) (by decide) (fun z29 zc30 => ?_))
            refine TO.q (q_fa underlying25 rfl inf23 rfl rfl) ?_
            refine TO.l rfl (l_sb (v := (.slice z29 (i + 1) zc30)) (vs := [(.slice z29 (i + 1) zc30)]) 1 inf23 rfl rfl rfl rfl rfl rfl (by simp [putL]) ?_)
            have hvo : finN (prodD f a b) o = false := by
              rw [hPf]; rcases hop with ⟨ho8, rfl⟩ | ⟨ho8, rfl⟩ <;> first | (exfalso; omega) | skip
              all_goals (cases h91 : finN a (o / b.next.length) <;> cases h92 : finN b (o % b.next.length) <;> first | rfl | exact absurd hs154 (by rw [h91]; decide) | exact absurd h91 hs154 | exact absurd hs154 (by rw [h92]; decide) | exact absurd h92 hs154 | exact absurd hs156 (by rw [h91]; decide) | exact absurd h91 hs156 | exact absurd hs156 (by rw [h92]; decide) | exact absurd h92 hs156 | exact absurd hs157 (by rw [h91]; decide) | exact absurd h91 hs157 | exact absurd hs157 (by rw [h92]; decide) | exact absurd h92 hs157 | exact absurd hs159 (by rw [h91]; decide) | exact absurd h91 hs159 | exact absurd hs159 (by rw [h92]; decide) | exact absurd h92 hs159 | exact absurd hs164 (by rw [h91]; decide) | exact absurd h91 hs164 | exact absurd hs164 (by rw [h92]; decide) | exact absurd h92 hs164 | exact absurd hs165 (by rw [h91]; decide) | exact absurd h91 hs165 | exact absurd hs165 (by rw [h92]; decide) | exact absurd h92 hs165 | exact absurd hs169 (by rw [h91]; decide) | exact absurd h91 hs169 | exact absurd hs169 (by rw [h92]; decide) | exact absurd h92 hs169)
            have hbq : bools (fs ++ [finN (prodD f a b) o]) = bools fs ++ [.bool false] := by rw [hvo]; simp
            refine TO.sub (O' := ([oI z6 25 [(.int .i64 a.vars), (.int .i64 0), (.slice z17 (i + 1) zc18), (.slice z29 (i + 1) zc30)], rowI z17 zc18 48 1 (vals (qs ++ [⟨rb, rc, rnR (prodD f a b) o⟩])), rowI z29 zc30 4 1 (bools (fs ++ [finN (prodD f a b) o])), rowI (some ⟨z4, 0, none⟩) (a.next.length * b.next.length) 3 1 (ints (nmL (a.next.length * b.next.length) (bfsM (prodD f a b) i o x))), rowI pb2 pc2 123 2 (prs b.next.length (bfsM (prodD f a b) i o x)), oI z3 25 [(.int .i64 0), (.int .i64 0), (.slice none 0 0), (.slice none 0 0)], oI z2 25 (dC b k), oI z1 25 (dC a j)] ++ itms 3 (qs ++ [⟨rb, rc, rnR (prodD f a b) o⟩]))) (by rw [hbq]; exact Sub.d (.k (.k (.k (.k (.k (.k (.k (.k .rf))))))))) ?_
            refine TO.nl ?_
            exact ⟨z29, zc30, rfl, ⟨rfl, rfl, rfl, rfl, rfl, rfl, rfl, rfl, rfl, rfl, rfl, rfl, rfl, rfl, rfl, rfl, trivial⟩⟩
          refine TO.gd rfl rfl rfl (LT.oq rfl rfl (QT.toB (q_move rfl) (decide_eq_false hs162)) ?_)
          refine TO.pd rfl rfl ?_
          refine TO.pd rfl rfl ?_
          refine TO.pd rfl rfl ?_
          refine TO.pd rfl rfl ?_
          refine TO.gd rfl rfl rfl (LT.oq rfl rfl (q_pick0 rfl rfl) ?_)
          refine TO.q (q_pick0 rfl rfl) (TO.qm rfl ?_)
          refine TO.gd rfl rfl rfl (LT.oq rfl rfl (q_move rfl) ?_)
          refine TO.gd rfl rfl rfl (LT.oq rfl rfl (QT.toB (q_eql rfl rfl) (decide_eq_false (by omega))) ?_)
          refine TO.gd rfl rfl rfl (LT.oq rfl rfl (q_move rfl) ?_)
          refine TO.pd rfl rfl ?_
          refine TO.pd rfl rfl ?_
          refine TO.pd rfl rfl ?_
          refine TO.gd rfl rfl rfl (LT.oq rfl rfl (q_pick0 rfl rfl) ?_)
          refine TO.q (q_pick0 rfl rfl) ?_
          refine TO.l rfl (l_build1 (v := .bool false) underlying23 inf4 rfl rfl rfl (fun z31 => ?_))
          refine TO.l rfl (l_append 3 underlying23 underlying23 inf4 rfl rfl rfl rfl (by rw [List.length_map] <;> omega) (by decide) (Src.row (j := 0) rfl (by simp)) (by simp [oneB]) (by omega) (by decide) (by decide) (fun z32 zc33 => ?_))
          refine TO.q (q_fa underlying25 rfl inf23 rfl rfl) ?_
          refine TO.l rfl (l_sb (v := (.slice z32 (i + 1) zc33)) (vs := [(.slice z32 (i + 1) zc33)]) 1 inf23 rfl rfl rfl rfl rfl rfl (by simp [putL]) ?_)
          have hvo : finN (prodD f a b) o = false := by
            rw [hPf]; rcases hop with ⟨ho8, rfl⟩ | ⟨ho8, rfl⟩ <;> first | (exfalso; omega) | skip
            all_goals (cases h91 : finN a (o / b.next.length) <;> cases h92 : finN b (o % b.next.length) <;> first | rfl | exact absurd hs154 (by rw [h91]; decide) | exact absurd h91 hs154 | exact absurd hs154 (by rw [h92]; decide) | exact absurd h92 hs154 | exact absurd hs156 (by rw [h91]; decide) | exact absurd h91 hs156 | exact absurd hs156 (by rw [h92]; decide) | exact absurd h92 hs156 | exact absurd hs157 (by rw [h91]; decide) | exact absurd h91 hs157 | exact absurd hs157 (by rw [h92]; decide) | exact absurd h92 hs157 | exact absurd hs159 (by rw [h91]; decide) | exact absurd h91 hs159 | exact absurd hs159 (by rw [h92]; decide) | exact absurd h92 hs159 | exact absurd hs164 (by rw [h91]; decide) | exact absurd h91 hs164 | exact absurd hs164 (by rw [h92]; decide) | exact absurd h92 hs164 | exact absurd hs165 (by rw [h91]; decide) | exact absurd h91 hs165 | exact absurd hs165 (by rw [h92]; decide) | exact absurd h92 hs165 | exact absurd hs169 (by rw [h91]; decide) | exact absurd h91 hs169 | exact absurd hs169 (by rw [h92]; decide) | exact absurd h92 hs169)
          have hbq : bools (fs ++ [finN (prodD f a b) o]) = bools fs ++ [.bool false] := by rw [hvo]; simp
          refine TO.sub (O' := ([oI z6 25 [(.int .i64 a.vars), (.int .i64 0), (.slice z17 (i + 1) zc18), (.slice z32 (i + 1) zc33)], rowI z17 zc18 48 1 (vals (qs ++ [⟨rb, rc, rnR (prodD f a b) o⟩])), rowI z32 zc33 4 1 (bools (fs ++ [finN (prodD f a b) o])), rowI (some ⟨z4, 0, none⟩) (a.next.length * b.next.length) 3 1 (ints (nmL (a.next.length * b.next.length) (bfsM (prodD f a b) i o x))), rowI pb2 pc2 123 2 (prs b.next.length (bfsM (prodD f a b) i o x)), oI z3 25 [(.int .i64 0), (.int .i64 0), (.slice none 0 0), (.slice none 0 0)], oI z2 25 (dC b k), oI z1 25 (dC a j)] ++ itms 3 (qs ++ [⟨rb, rc, rnR (prodD f a b) o⟩]))) (by rw [hbq]; exact Sub.d (.k (.k (.k (.k (.k (.k (.k (.k .rf))))))))) ?_
          refine TO.nl ?_
          exact ⟨z32, zc33, rfl, ⟨rfl, rfl, rfl, rfl, rfl, rfl, rfl, rfl, rfl, rfl, rfl, rfl, rfl, rfl, rfl, rfl, trivial⟩⟩
        refine TO.q (QT.toB (q_move rfl) (Bool.eq_false_iff.2 hs156)) ?_
        refine TO.pd rfl rfl ?_
        refine TO.q (q_pick0 rfl rfl) (TO.qm rfl ?_)
        refine TO.gd rfl rfl rfl (LT.oq rfl rfl (q_move rfl) ?_)
        refine TO.gd rfl rfl rfl (LT.oq rfl rfl (q_eql rfl rfl) ?_)
        by_cases hs162 : (op : Int) = 11
        · refine TO.gd rfl rfl rfl (LT.oq rfl rfl (QT.toB (q_move rfl) (decide_eq_true hs162)) ?_)
          refine TO.gd rfl rfl rfl (LT.oq rfl rfl (q_move rfl) ?_)
          by_cases hs164 : (finN a (o / b.next.length)) = true
          · refine TO.gd rfl rfl rfl (LT.oq rfl rfl (QT.toB (q_move rfl) (hs164)) ?_)
            refine TO.pd rfl rfl ?_
            refine TO.gd rfl rfl rfl (LT.oq rfl rfl (q_pick1 rfl rfl) ?_)
            refine TO.gd rfl rfl rfl (LT.oq rfl rfl (q_pick1 rfl rfl) ?_)
            refine TO.q (q_pick0 rfl rfl) (TO.qm rfl ?_)
            refine TO.pd rfl rfl ?_
            refine TO.pd rfl rfl ?_
            refine TO.pd rfl rfl ?_
            refine TO.pd rfl rfl ?_
            refine TO.pd rfl rfl ?_
            refine TO.pd rfl rfl ?_
            refine TO.pd rfl rfl ?_
            refine TO.q (q_pick1 rfl rfl) ?_
            refine TO.l rfl (l_build1 (v := .bool true) underlying23 inf4 rfl rfl rfl (fun z34 => ?_))
            refine TO.l rfl (l_append 3 underlying23 underlying23 inf4 rfl rfl rfl rfl (by rw [List.length_map] <;> omega) (by decide) (Src.row (j := 0) rfl (by simp)) (by simp [oneB]) (by omega) (by decide) (by decide) (fun z35 zc36 => ?_))
            refine TO.q (q_fa underlying25 rfl inf23 rfl rfl) ?_
            refine TO.l rfl (l_sb (v := (.slice z35 (i + 1) zc36)) (vs := [(.slice z35 (i + 1) zc36)]) 1 inf23 rfl rfl rfl rfl rfl rfl (by simp [putL]) ?_)
            have hvo : finN (prodD f a b) o = true := by
              rw [hPf]; rcases hop with ⟨ho8, rfl⟩ | ⟨ho8, rfl⟩ <;> first | (exfalso; omega) | skip
              all_goals (cases h91 : finN a (o / b.next.length) <;> cases h92 : finN b (o % b.next.length) <;> first | rfl | exact absurd hs154 (by rw [h91]; decide) | exact absurd h91 hs154 | exact absurd hs154 (by rw [h92]; decide) | exact absurd h92 hs154 | exact absurd hs156 (by rw [h91]; decide) | exact absurd h91 hs156 | exact absurd hs156 (by rw [h92]; decide) | exact absurd h92 hs156 | exact absurd hs157 (by rw [h91]; decide) | exact absurd h91 hs157 | exact absurd hs157 (by rw [h92]; decide) | exact absurd h92 hs157 | exact absurd hs159 (by rw [h91]; decide) | exact absurd h91 hs159 | exact absurd hs159 (by rw [h92]; decide) | exact absurd h92 hs159 | exact absurd hs164 (by rw [h91]; decide) | exact absurd h91 hs164 | exact absurd hs164 (by rw [h92]; decide) | exact absurd h92 hs164 | exact absurd hs165 (by rw [h91]; decide) | exact absurd h91 hs165 | exact absurd hs165 (by rw [h92]; decide) | exact absurd h92 hs165 | exact absurd hs169 (by rw [h91]; decide) | exact absurd h91 hs169 | exact absurd hs169 (by rw [h92]; decide) | exact absurd h92 hs169)
            have hbq : bools (fs ++ [finN (prodD f a b) o]) = bools fs ++ [.bool true] := by rw [hvo]; simp
            refine TO.sub (O' := ([oI z6 25 [(.int .i64 a.vars), (.int .i64 0), (.slice z17 (i + 1) zc18), (.slice z35 (i + 1) zc36)], rowI z17 zc18 48 1 (vals (qs ++ [⟨rb, rc, rnR (prodD f a b) o⟩])), rowI z35 zc36 4 1 (bools (fs ++ [finN (prodD f a b) o])), rowI (some ⟨z4, 0, none⟩) (a.next.length * b.next.length) 3 1 (ints (nmL (a.next.length * b.next.length) (bfsM (prodD f a b) i o x))), rowI pb2 pc2 123 2 (prs b.next.length (bfsM (prodD f a b) i o x)), oI z3 25 [(.int .i64 0), (.int .i64 0), (.slice none 0 0), (.slice none 0 0)], oI z2 25 (dC b k), oI z1 25 (dC a j)] ++ itms 3 (qs ++ [⟨rb, rc, rnR (prodD f a b) o⟩]))) (by rw [hbq]; exact Sub.d (.k (.k (.k (.k (.k (.k (.k (.k .rf))))))))) ?_
            refine TO.nl ?_
            exact ⟨z35, zc36, rfl, ⟨rfl, rfl, rfl, rfl, rfl, rfl, rfl, rfl, rfl, rfl, rfl, rfl, rfl, rfl, rfl, rfl, trivial⟩⟩
          refine TO.gd rfl rfl rfl (LT.oq rfl rfl (QT.toB (q_move rfl) (Bool.eq_false_iff.2 hs164)) ?_)
          refine TO.gd rfl rfl rfl (LT.oq rfl rfl (q_move rfl) ?_)
          refine TO.gd rfl rfl rfl (LT.oq rfl rfl (q_pick0 rfl rfl) ?_)
          refine TO.gd rfl rfl rfl (LT.oq rfl rfl (q_pick1 rfl rfl) ?_)
          refine TO.q (q_pick0 rfl rfl) ?_
          by_cases hs169 : (finN b (o % b.next.length)) = true
          · refine TO.q (QT.toB (q_move rfl) (hs169)) ?_
            refine TO.pd rfl rfl ?_
            refine TO.pd rfl rfl ?_
            refine TO.pd rfl rfl ?_
            refine TO.pd rfl rfl ?_
            refine TO.pd rfl rfl ?_
            refine TO.pd rfl rfl ?_
            refine TO.pd rfl rfl ?_
            refine TO.q (q_pick1 rfl rfl) ?_
            refine TO.l rfl (l_build1 (v := .bool true) underlying23 inf4 rfl rfl rfl (fun z37 => ?_))
            refine TO.l rfl (l_append 3 underlying23 underlying23 inf4 rfl rfl rfl rfl (by rw [List.length_map] <;> omega) (by decide) (Src.row (j := 0) rfl (by simp)) (by simp [oneB]) (by omega) (by decide) (by decide) (fun z38 zc39 => ?_))
            refine TO.q (q_fa underlying25 rfl inf23 rfl rfl) ?_
            refine TO.l rfl (l_sb (v := (.slice z38 (i + 1) zc39)) (vs := [(.slice z38 (i + 1) zc39)]) 1 inf23 rfl rfl rfl rfl rfl rfl (by simp [putL]) ?_)
            have hvo : finN (prodD f a b) o = true := by
              rw [hPf]; rcases hop with ⟨ho8, rfl⟩ | ⟨ho8, rfl⟩ <;> first | (exfalso; omega) | skip
              all_goals (cases h91 : finN a (o / b.next.length) <;> cases h92 : finN b (o % b.next.length) <;> first | rfl | exact absurd hs154 (by rw [h91]; decide) | exact absurd h91 hs154 | exact absurd hs154 (by rw [h92]; decide) | exact absurd h92 hs154 | exact absurd hs156 (by rw [h91]; decide) | exact absurd h91 hs156 | exact absurd hs156 (by rw [h92]; decide) | exact absurd h92 hs156 | exact absurd hs157 (by rw [h91]; decide) | exact absurd h91 hs157 | exact absurd hs157 (by rw [h92]; decide) | exact absurd h92 hs157 | exact absurd hs159 (by rw [h91]; decide) | exact absurd h91 hs159 | exact absurd hs159 (by rw [h92]; decide) | exact absurd h92 hs159 | exact absurd hs164 (by rw [h91]; decide) | exact absurd h91 hs164 | exact absurd hs164 (by rw [h92]; decide) | exact absurd h92 hs164 | exact absurd hs165 (by rw [h91]; decide) | exact absurd h91 hs165 | exact absurd hs165 (by rw [h92]; decide) | exact absurd h92 hs165 | exact absurd hs169 (by rw [h91]; decide) | exact absurd h91 hs169 | exact absurd hs169 (by rw [h92]; decide) | exact absurd h92 hs169)
            have hbq : bools (fs ++ [finN (prodD f a b) o]) = bools fs ++ [.bool true] := by rw [hvo]; simp
            refine TO.sub (O' := ([oI z6 25 [(.int .i64 a.vars), (.int .i64 0), (.slice z17 (i + 1) zc18), (.slice z38 (i + 1) zc39)], rowI z17 zc18 48 1 (vals (qs ++ [⟨rb, rc, rnR (prodD f a b) o⟩])), rowI z38 zc39 4 1 (bools (fs ++ [finN (prodD f a b) o])), rowI (some ⟨z4, 0, none⟩) (a.next.length * b.next.length) 3 1 (ints (nmL (a.next.length * b.next.length) (bfsM (prodD f a b) i o x))), rowI pb2 pc2 123 2 (prs b.next.length (bfsM (prodD f a b) i o x)), oI z3 25 [(.int .i64 0), (.int .i64 0), (.slice none 0 0), (.slice none 0 0)], oI z2 25 (dC b k), oI z1 25 (dC a j)] ++ itms 3 (qs ++ [⟨rb, rc, rnR (prodD f a b) o⟩]))) (by rw [hbq]; exact Sub.d (.k (.k (.k (.k (.k (.k (.k (.k .rf))))))))) ?_
            refine TO.nl ?_
            exact ⟨z38, zc39, rfl, ⟨rfl, rfl, rfl, rfl, rfl, rfl, rfl, rfl, rfl, rfl, rfl, rfl, rfl, rfl, rfl, rfl, trivial⟩⟩
          refine TO.q (QT.toB (q_move rfl) (Bool.eq_false_iff.2 hs169)) ?_
          refine TO.gd rfl rfl rfl (LT.oq rfl rfl (q_move rfl) ?_)
          refine TO.gd rfl rfl rfl (LT.oq rfl rfl (QT.toB (q_eql rfl rfl) (decide_eq_false (by omega))) ?_)
          refine TO.gd rfl rfl rfl (LT.oq rfl rfl (q_move rfl) ?_)
          refine TO.pd rfl rfl ?_
          refine TO.pd rfl rfl ?_
          refine TO.pd rfl rfl ?_
          refine TO.gd rfl rfl rfl (LT.oq rfl rfl (q_pick0 rfl rfl) ?_)
          refine TO.q (q_pick0 rfl rfl) ?_
          refine TO.l rfl (l_build1 (v := .bool false) underlying23 inf4 rfl rfl rfl (fun z40 => ?_))
          refine TO.l rfl (l_append 3 underlying23 underlying23 inf4 rfl rfl rfl rfl (by rw [List.length_map] <;> omega) (by decide) (Src.row (j := 0) rfl (by simp)) (by simp [oneB]) (by omega) (by decide) (by decide) (fun z41 zc42 => ?_))
          refine TO.q (q_fa underlying25 rfl inf23 rfl rfl) ?_
          refine TO.l rfl (l_sb (v := (.slice z41 (i + 1) zc42)) (vs := [(.slice z41 (i + 1) zc42)]) 1 inf23 rfl rfl rfl rfl rfl rfl (by simp [putL]) ?_)
          have hvo : finN (prodD f a b) o = false := by
            rw [hPf]; rcases hop with ⟨ho8, rfl⟩ | ⟨ho8, rfl⟩ <;> first | (exfalso; omega) | skip
            all_goals (cases h91 : finN a (o / b.next.length) <;> cases h92 : finN b (o % b.next.length) <;> first | rfl | exact absurd hs154 (by rw [h91]; decide) | exact absurd h91 hs154 | exact absurd hs154 (by rw [h92]; decide) | exact absurd h92 hs154 | exact absurd hs156 (by rw [h91]; decide) | exact absurd h91 hs156 | exact absurd hs156 (by rw [h92]; decide) | exact absurd h92 hs156 | exact absurd hs157 (by rw [h91]; decide) | exact absurd h91 hs157 | exact absurd hs157 (by rw [h92]; decide) | exact absurd h92 hs157 | exact absurd hs159 (by rw [h91]; decide) | exact absurd h91 hs159 | exact absurd hs159 (by rw [h92]; decide) | exact absurd h92 hs159 | exact absurd hs164 (by rw [h91]; decide) | exact absurd h91 hs164 | exact absurd hs164 (by rw [h92]; decide) | exact absurd h92 hs164 | exact absurd hs165 (by rw [h91]; decide) | exact absurd h91 hs165 | exact absurd hs165 (by rw [h92]; decide) | exact absurd h92 hs165 | exact absurd hs169 (by rw [h91]; decide) | exact absurd h91 hs169 | exact absurd hs169 (by rw [h92]; decide) | exact absurd h92 hs169)
          have hbq : bools (fs ++ [finN (prodD f a b) o]) = bools fs ++ [.bool false] := by rw [hvo]; simp
          refine TO.sub (O' := ([oI z6 25 [(.int .i64 a.vars), (.int .i64 0), (.slice z17 (i + 1) zc18), (.slice z41 (i + 1) zc42)], rowI z17 zc18 48 1 (vals (qs ++ [⟨rb, rc, rnR (prodD f a b) o⟩])), rowI z41 zc42 4 1 (bools (fs ++ [finN (prodD f a b) o])), rowI (some ⟨z4, 0, none⟩) (a.next.length * b.next.length) 3 1 (ints (nmL (a.next.length * b.next.length) (bfsM (prodD f a b) i o x))), rowI pb2 pc2 123 2 (prs b.next.length (bfsM (prodD f a b) i o x)), oI z3 25 [(.int .i64 0), (.int .i64 0), (.slice none 0 0), (.slice none 0 0)], oI z2 25 (dC b k), oI z1 25 (dC a j)] ++ itms 3 (qs ++ [⟨rb, rc, rnR (prodD f a b) o⟩]))) (by rw [hbq]; exact Sub.d (.k (.k (.k (.k (.k (.k (.k (.k .rf))))))))) ?_
          refine TO.nl ?_
          exact ⟨z41, zc42, rfl, ⟨rfl, rfl, rfl, rfl, rfl, rfl, rfl, rfl, rfl, rfl, rfl, rfl, rfl, rfl, rfl, rfl, trivial⟩⟩
        refine TO.gd rfl rfl rfl (LT.oq rfl rfl (QT.toB (q_move rfl) (decide_eq_false hs162)) ?_)
        refine TO.pd rfl rfl ?_
        refine TO.pd rfl rfl ?_
        refine TO.pd rfl rfl ?_
        refine TO.pd rfl rfl ?_
        refine TO.gd rfl rfl rfl (LT.oq rfl rfl (q_pick0 rfl rfl) ?_)
        refine TO.q (q_pick0 rfl rfl) (TO.qm rfl ?_)
        refine TO.gd rfl rfl rfl (LT.oq rfl rfl (q_move rfl) ?_)
        refine TO.gd rfl rfl rfl (LT.oq rfl rfl (QT.toB (q_eql rfl rfl) (decide_eq_false (by omega))) ?_)
        refine TO.gd rfl rfl rfl (LT.oq rfl rfl (q_move rfl) ?_)
        refine TO.pd rfl rfl ?_
        refine TO.pd rfl rfl ?_
        refine TO.pd rfl rfl ?_
        refine TO.gd rfl rfl rfl (LT.oq rfl rfl (q_pick0 rfl rfl) ?_)
        refine TO.q (q_pick0 rfl rfl) ?_
        refine TO.l rfl (l_build1 (v := .bool false) underlying23 inf4 rfl rfl rfl (fun z43 => ?_))
        refine TO.l rfl (l_append 3 underlying23 underlying23 inf4 rfl rfl rfl rfl (by rw [List.length_map] <;> omega) (by decide) (Src.row (j := 0) rfl (by simp)) (by simp [oneB]) (by omega) (by decide) (by decide) (fun z44 zc45 => ?_))
        refine TO.q (q_fa underlying25 rfl inf23 rfl rfl) ?_
        refine TO.l rfl (l_sb (v := (.slice z44 (i + 1) zc45)) (vs := [(.slice z44 (i + 1) zc45)]) 1 inf23 rfl rfl rfl rfl rfl rfl (by simp [putL]) ?_)
        have hvo : finN (prodD f a b) o = false := by
          rw [hPf]; rcases hop with ⟨ho8, rfl⟩ | ⟨ho8, rfl⟩ <;> first | (exfalso; omega) | skip
          all_goals (cases h91 : finN a (o / b.next.length) <;> cases h92 : finN b (o % b.next.length) <;> first | rfl | exact absurd hs154 (by rw [h91]; decide) | exact absurd h91 hs154 | exact absurd hs154 (by rw [h92]; decide) | exact absurd h92 hs154 | exact absurd hs156 (by rw [h91]; decide) | exact absurd h91 hs156 | exact absurd hs156 (by rw [h92]; decide) | exact absurd h92 hs156 | exact absurd hs157 (by rw [h91]; decide) | exact absurd h91 hs157 | exact absurd hs157 (by rw [h92]; decide) | exact absurd h92 hs157 | exact absurd hs159 (by rw [h91]; decide) | exact absurd h91 hs159 | exact absurd hs159 (by rw [h92]; decide) | exact absurd h92 hs159 | exact absurd hs164 (by rw [h91]; decide) | exact absurd h91 hs164 | exact absurd hs164 (by rw [h92]; decide) | exact absurd h92 hs164 | exact absurd hs165 (by rw [h91]; decide) | exact absurd h91 hs165 | exact absurd hs165 (by rw [h92]; decide) | exact absurd h92 hs165 | exact absurd hs169 (by rw [h91]; decide) | exact absurd h91 hs169 | exact absurd hs169 (by rw [h92]; decide) | exact absurd h92 hs169)
        have hbq : bools (fs ++ [finN (prodD f a b) o]) = bools fs ++ [.bool false] := by rw [hvo]; simp
        refine TO.sub (O' := ([oI z6 25 [(.int .i64 a.vars), (.int .i64 0), (.slice z17 (i + 1) zc18), (.slice z44 (i + 1) zc45)], rowI z17 zc18 48 1 (vals (qs ++ [⟨rb, rc, rnR (prodD f a b) o⟩])), rowI z44 zc45 4 1 (bools (fs ++ [finN (prodD f a b) o])), rowI (some ⟨z4, 0, none⟩) (a.next.length * b.next.length) 3 1 (ints (nmL (a.next.length * b.next.length) (bfsM (prodD f a b) i o x))), rowI pb2 pc2 123 2 (prs b.next.length (bfsM (prodD f a b) i o x)), oI z3 25 [(.int .i64 0), (.int .i64 0), (.slice none 0 0), (.slice none 0 0)], oI z2 25 (dC b k), oI z1 25 (dC a j)] ++ itms 3 (qs ++ [⟨rb, rc, rnR (prodD f a b) o⟩]))) (by rw [hbq]; exact Sub.d (.k (.k (.k (.k (.k (.k (.k (.k .rf))))))))) ?_
        refine TO.nl ?_
        exact ⟨z44, zc45, rfl, ⟨rfl, rfl, rfl, rfl, rfl, rfl, rfl, rfl, rfl, rfl, rfl, rfl, rfl, rfl, rfl, rfl, trivial⟩⟩
      refine TO.q (QT.toB (q_move rfl) (decide_eq_false hs153)) ?_
      refine TO.pd rfl rfl ?_
      refine TO.q (q_pick0 rfl rfl) (TO.qm rfl ?_)
      refine TO.pd rfl rfl ?_
      refine TO.q (q_pick0 rfl rfl) (TO.qm rfl ?_)
      refine TO.gd rfl rfl rfl (LT.oq rfl rfl (q_move rfl) ?_)
      refine TO.gd rfl rfl rfl (LT.oq rfl rfl (q_eql rfl rfl) ?_)
      by_cases hs162 : (op : Int) = 11
      · refine TO.gd rfl rfl rfl (LT.oq rfl rfl (QT.toB (q_move rfl) (decide_eq_true hs162)) ?_)
        refine TO.gd rfl rfl rfl (LT.oq rfl rfl (q_move rfl) ?_)
        by_cases hs164 : (finN a (o / b.next.length)) = true
        · refine TO.gd rfl rfl rfl (LT.oq rfl rfl (QT.toB (q_move rfl) (hs164)) ?_)
          refine TO.pd rfl rfl ?_
          refine TO.gd rfl rfl rfl (LT.oq rfl rfl (q_pick1 rfl rfl) ?_)
          refine TO.gd rfl rfl rfl (LT.oq rfl rfl (q_pick1 rfl rfl) ?_)
          refine TO.q (q_pick0 rfl rfl) (TO.qm rfl ?_)
          refine TO.pd rfl rfl ?_
          refine TO.pd rfl rfl ?_
          refine TO.pd rfl rfl ?_
          refine TO.pd rfl rfl ?_
          refine TO.pd rfl rfl ?_
          refine TO.pd rfl rfl ?_
          refine TO.pd rfl rfl ?_
          refine TO.q (q_pick1 rfl rfl) ?_
          refine TO.l rfl (l_build1 (v := .bool true) underlying23 inf4 rfl rfl rfl (fun z46 => ?_))
          refine TO.l rfl (l_append 3 underlying23 underlying23 inf4 rfl rfl rfl rfl (by rw [List.length_map] <;> omega) (by decide) (Src.row (j := 0) rfl (by simp)) (by simp [oneB]) (by omega) (by decide) (by decide) (fun z47 zc48 => ?_))
          refine TO.q (q_fa underlying25 rfl inf23 rfl rfl) ?_
          refine TO.l rfl (l_sb (v := (.slice z47 (i + 1) zc48)) (vs := [(.slice z47 (i + 1) zc48)]) 1 inf23 rfl rfl rfl rfl rfl rfl (by simp [putL]) ?_)
          have hvo : finN (prodD f a b) o = true := by
            rw [hPf]; rcases hop with ⟨ho8, rfl⟩ | ⟨ho8, rfl⟩ <;> first | (exfalso; omega) | skip
            all_goals (cases h91 : finN a (o / b.next.length) <;> cases h92 : finN b (o % b.next.length) <;> first | rfl | exact absurd hs154 (by rw [h91]; decide) | exact absurd h91 hs154 | exact absurd hs154 (by rw [h92]; decide) | exact absurd h92 hs154 | exact absurd hs156 (by rw [h91]; decide) | exact absurd h91 hs156 | exact absurd hs156 (by rw [h92]; decide) | exact absurd h92 hs156 | exact absurd hs157 (by rw [h91]; decide) | exact absurd h91 hs157 | exact absurd hs157 (by rw [h92]; decide) | exact absurd h92 hs157 | exact absurd hs159 (by rw [h91]; decide) | exact absurd h91 hs159 | exact absurd hs159 (by rw [h92]; decide) | exact absurd h92 hs159 | exact absurd hs164 (by rw [h91]; decide) | exact absurd h91 hs164 | exact absurd hs164 (by rw [h92]; decide) | exact absurd h92 hs164 | exact absurd hs165 (by rw [h91]; decide) | exact absurd h91 hs165 | exact absurd hs165 (by rw [h92]; decide) | exact absurd h92 hs165 | exact absurd hs169 (by rw [h91]; decide) | exact absurd h91 hs169 | exact absurd hs169 (by rw [h92]; decide) | exact absurd h92 hs169)
          have hbq : bools (fs ++ [finN (prodD f a b) o]) = bools fs ++ [.bool true] := by rw [hvo]; simp
          refine TO.sub (O' := ([oI z6 25 [(.int .i64 a.vars), (.int .i64 0), (.slice z17 (i + 1) zc18), (.slice z47 (i + 1) zc48)], rowI z17 zc18 48 1 (vals (qs ++ [⟨rb, rc, rnR (prodD f a b) o⟩])), rowI z47 zc48 4 1 (bools (fs ++ [finN (prodD f a b) o])), rowI (some ⟨z4, 0, none⟩) (a.next.length * b.next.length) 3 1 (ints (nmL (a.next.length * b.next.length) (bfsM (prodD f a b) i o x))), rowI pb2 pc2 123 2 (prs b.next.length (bfsM (prodD f a b) i o x)), oI z3 25 [(.int .i64 0), (.int .i64 0), (.slice none 0 0), (.slice none 0 0)], oI z2 25 (dC b k), oI z1 25 (dC a j)] ++ itms 3 (qs ++ [⟨rb, rc, rnR (prodD f a b) o⟩]))) (by rw [hbq]; exact Sub.d (.k (.k (.k (.k (.k (.k (.k (.k .rf))))))))) ?_
          refine TO.nl ?_
          exact ⟨z47, zc48, rfl, ⟨rfl, rfl, rfl, rfl, rfl, rfl, rfl, rfl, rfl, rfl, rfl, rfl, rfl, rfl, rfl, rfl, trivial⟩⟩
        refine TO.gd rfl rfl rfl (LT.oq rfl rfl (QT.toB (q_move rfl) (Bool.eq_false_iff.2 hs164)) ?_)
        refine TO.gd rfl rfl rfl (LT.oq rfl rfl (q_move rfl) ?_)
        refine TO.gd rfl rfl rfl (LT.oq rfl rfl (q_pick0 rfl rfl) ?_)
        refine TO.gd rfl rfl rfl (LT.oq rfl rfl (q_pick1 rfl rfl) ?_)
        refine TO.q (q_pick0 rfl rfl) ?_
        by_cases hs169 : (finN b (o % b.next.length)) = true
        · refine TO.q (QT.toB (q_move rfl) (hs169)) ?_
          refine TO.pd rfl rfl ?_
          refine TO.pd rfl rfl ?_
          refine TO.pd rfl rfl ?_
          refine TO.pd rfl rfl ?_
          refine TO.pd rfl rfl ?_
          refine TO.pd rfl rfl ?_
          refine TO.pd rfl rfl ?_
          refine TO.q (q_pick1 rfl rfl) ?_
          refine TO.l rfl (l_build1 (v := .bool true) underlying23 inf4 rfl rfl rfl (fun z49 => ?_))
          refine TO.l rfl (l_append 3 underlying23 underlying23 inf4 rfl rfl rfl rfl (by rw [List.length_map] <;> omega) (by decide) (Src.row (j := 0) rfl (by simp)) (by simp [oneB]) (by omega) (by decide) (by decide) (fun z50 zc51 => ?_))
          refine TO.q (q_fa underlying25 rfl inf23 rfl rfl) ?_
          refine TO.l rfl (l_sb (v := (.slice z50 (i + 1) zc51)) (vs := [(.slice z50 (i + 1) zc51)]) 1 inf23 rfl rfl rfl rfl rfl rfl (by simp [putL]) ?_)
          have hvo : finN (prodD f a b) o = true := by
            rw [hPf]; rcases hop with ⟨ho8, rfl⟩ | ⟨ho8, rfl⟩ <;> first | (exfalso; omega) | skip
            all_goals (cases h91 : finN a (o / b.next.length) <;> cases h92 : finN b (o % b.next.length) <;> first | rfl | exact absurd hs154 (by rw [h91]; decide) | exact absurd h91 hs154 | exact absurd hs154 (by rw [h92]; decide) | exact absurd h92 hs154 | exact absurd hs156 (by rw [h91]; decide) | exact absurd h91 hs156 | exact absurd hs156 (by rw [h92]; decide) | exact absurd h92 hs156 | exact absurd hs157 (by rw [h91]; decide) | exact absurd h91 hs157 | exact absurd hs157 (by rw [h92]; decide) | exact absurd h92 hs157 | exact absurd hs159 (by rw [h91]; decide) | exact absurd h91 hs159 | exact absurd hs159 (by rw [h92]; decide) | exact absurd h92 hs159 | exact absurd hs164 (by rw [h91]; decide) | exact absurd h91 hs164 | exact absurd hs164 (by rw [h92]; decide) | exact absurd h92 hs164 | exact absurd hs165 (by rw [h91]; decide) | exact absurd h91 hs165 | exact absurd hs165 (by rw [h92]; decide) | exact absurd h92 hs165 | exact absurd hs169 (by rw [h91]; decide) | exact absurd h91 hs169 | exact absurd hs169 (by rw [h92]; decide) | exact absurd h92 hs169)
          have hbq : bools (fs ++ [finN (prodD f a b) o]) = bools fs ++ [.bool true] := by rw [hvo]; simp
          refine TO.sub (O' := ([oI z6 25 [(.int .i64 a.vars), (.int .i64 0), (.slice z17 (i + 1) zc18), (.slice z50 (i + 1) zc51)], rowI z17 zc18 48 1 (vals (qs ++ [⟨rb, rc, rnR (prodD f a b) o⟩])), rowI z50 zc51 4 1 (bools (fs ++ [finN (prodD f a b) o])), rowI (some ⟨z4, 0, none⟩) (a.next.length * b.next.length) 3 1 (ints (nmL (a.next.length * b.next.length) (bfsM (prodD f a b) i o x))), rowI pb2 pc2 123 2 (prs b.next.length (bfsM (prodD f a b) i o x)), oI z3 25 [(.int .i64 0), (.int .i64 0), (.slice none 0 0), (.slice none 0 0)], oI z2 25 (dC b k), oI z1 25 (dC a j)] ++ itms 3 (qs ++ [⟨rb, rc, rnR (prodD f a b) o⟩]))) (by rw [hbq]; exact Sub.d (.k (.k (.k (.k (.k (.k (.k (.k .rf))))))))) ?_
          refine TO.nl ?_
          exact ⟨z50, zc51, rfl, ⟨rfl, rfl, rfl, rfl, rfl, rfl, rfl, rfl, rfl, rfl, rfl, rfl, rfl, rfl, rfl, rfl, trivial⟩⟩
        refine TO.q (QT.toB (q_move rfl) (Bool.eq_false_iff.2 hs169)) ?_
        refine TO.gd rfl rfl rfl (LT.oq rfl rfl (q_move rfl) ?_)
        refine TO.gd rfl rfl rfl (LT.oq rfl rfl (QT.toB (q_eql rfl rfl) (decide_eq_false (by omega))) ?_)
        refine TO.gd rfl rfl rfl (LT.oq rfl rfl (q_move rfl) ?_)
        refine TO.pd rfl rfl ?_
        refine TO.pd rfl rfl ?_
        refine TO.pd rfl rfl ?_
        refine TO.gd rfl rfl rfl (LT.oq rfl rfl (q_pick0 rfl rfl) ?_)
        refine TO.q (q_pick0 rfl rfl) ?_
        refine TO.l rfl (l_build1 (v := .bool false) underlying23 inf4 rfl rfl rfl (fun z52 => ?_))
        refine TO.l rfl (l_append 3 underlying23 underlying23 inf4 rfl rfl rfl rfl (by rw [List.length_map] <;> omega) (by decide) (Src.row (j := 0) rfl (by simp)) (by simp [oneB]) (by omega) (by decide) (by decide) (fun z53 zc54 => ?_))
        refine TO.q (q_fa underlying25 rfl inf23 rfl rfl) ?_
        refine TO.l rfl (l_sb (v := (.slice z53 (i + 1) zc54)) (vs := [(.slice z53 (i + 1) zc54)]) 1 inf23 rfl rfl rfl rfl rfl rfl (by simp [putL]) ?_)
        have hvo : finN (prodD f a b) o = false := by
          rw [hPf]; rcases hop with ⟨ho8, rfl⟩ | ⟨ho8, rfl⟩ <;> first | (exfalso; omega) | skip
          all_goals (cases h91 : finN a (o / b.next.length) <;> cases h92 : finN b (o % b.next.length) <;> first | rfl | exact absurd hs154 (by rw [h91]; decide) | exact absurd h91 hs154 | exact absurd hs154 (by rw [h92]; decide) | exact absurd h92 hs154 | exact absurd hs156 (by rw [h91]; decide) | exact absurd h91 hs156 | exact absurd hs156 (by rw [h92]; decide) | exact absurd h92 hs156 | exact absurd hs157 (by rw [h91]; decide) | exact absurd h91 hs157 | exact absurd hs157 (by rw [h92]; decide) | exact absurd h92 hs157 | exact absurd hs159 (by rw [h91]; decide) | exact absurd h91 hs159 | exact absurd hs159 (by rw [h92]; decide) | exact absurd h92 hs159 | exact absurd hs164 (by rw [h91]; decide) | exact absurd h91 hs164 | exact absurd hs164 (by rw [h92]; decide) | exact absurd h92 hs164 | exact absurd hs165 (by rw [h91]; decide) | exact absurd h91 hs165 | exact absurd hs165 (by rw [h92]; decide) | exact absurd h92 hs165 | exact absurd hs169 (by rw [h91]; decide) | exact absurd h91 hs169 | exact absurd hs169 (by rw [h92]; decide) | exact absurd h92 hs169)
        have hbq : bools (fs ++ [finN (prodD f a b) o]) = bools fs ++ [.bool false] := by rw [hvo]; simp
        refine TO.sub (O' := ([oI z6 25 [(.int .i64 a.vars), (.int .i64 0), (.slice z17 (i + 1) zc18), (.slice z53 (i + 1) zc54)], rowI z17 zc18 48 1 (vals (qs ++ [⟨rb, rc, rnR (prodD f a b) o⟩])), rowI z53 zc54 4 1 (bools (fs ++ [finN (prodD f a b) o])), rowI (some ⟨z4, 0, none⟩) (a.next.length * b.next.length) 3 1 (ints (nmL (a.next.length * b.next.length) (bfsM (prodD f a b) i o x))), rowI pb2 pc2 123 2 (prs b.next.length (bfsM (prodD f a b) i o x)), oI z3 25 [(.int .i64 0), (.int .i64 0), (.slice none 0 0), (.slice none 0 0)], oI z2 25 (dC b k), oI z1 25 (dC a j)] ++ itms 3 (qs ++ [⟨rb, rc, rnR (prodD f a b) o⟩]))) (by rw [hbq]; exact Sub.d (.k (.k (.k (.k (.k (.k (.k (.k .rf))))))))) ?_
        refine TO.nl ?_
        exact ⟨z53, zc54, rfl, ⟨rfl, rfl, rfl, rfl, rfl, rfl, rfl, rfl, rfl, rfl, rfl, rfl, rfl, rfl, rfl, rfl, trivial⟩⟩
      refine TO.gd rfl rfl rfl (LT.oq rfl rfl (QT.toB (q_move rfl) (decide_eq_false hs162)) ?_)
      refine TO.pd rfl rfl ?_
      refine TO.pd rfl rfl ?_
      refine TO.pd rfl rfl ?_
      refine TO.pd rfl rfl ?_
      refine TO.gd rfl rfl rfl (LT.oq rfl rfl (q_pick0 rfl rfl) ?_)
      refine TO.q (q_pick0 rfl rfl) (TO.qm rfl ?_)
      refine TO.gd rfl rfl rfl (LT.oq rfl rfl (q_move rfl) ?_)
      refine TO.gd rfl rfl rfl (LT.oq rfl rfl (QT.toB (q_eql rfl rfl) (decide_eq_false (by omega))) ?_)
      refine TO.gd rfl rfl rfl (LT.oq rfl rfl (q_move rfl) ?_)
      refine TO.pd rfl rfl ?_
      refine TO.pd rfl rfl ?_
      refine TO.pd rfl rfl ?_
      refine TO.gd rfl rfl rfl (LT.oq rfl rfl (q_pick0 rfl rfl) ?_)
      refine TO.q (q_pick0 rfl rfl) ?_
      refine TO.l rfl (l_build1 (v := .bool false) underlying23 inf4 rfl rfl rfl (fun z55 => ?_))
      refine TO.l rfl (l_append 3 underlying23 underlying23 inf4 rfl rfl rfl rfl (by rw [List.length_map] <;> omega) (by decide) (Src.row (j := 0) rfl (by simp)) (by simp [oneB]) (by omega) (by decide) (by decide) (fun z56 zc57 => ?_))
      refine TO.q (q_fa underlying25 rfl inf23 rfl rfl) ?_
      refine TO.l rfl (l_sb (v := (.slice z56 (i + 1) zc57)) (vs := [(.slice z56 (i + 1) zc57)]) 1 inf23 rfl rfl rfl rfl rfl rfl (by simp [putL]) ?_)
      have hvo : finN (prodD f a b) o = false := by
        rw [hPf]; rcases hop with ⟨ho8, rfl⟩ | ⟨ho8, rfl⟩ <;> first | (exfalso; omega) | skip
        all_goals (cases h91 : finN a (o / b.next.length) <;> cases h92 : finN b (o % b.next.length) <;> first | rfl | exact absurd hs154 (by rw [h91]; decide) | exact absurd h91 hs154 | exact absurd hs154 (by rw [h92]; decide) | exact absurd h92 hs154 | exact absurd hs156 (by rw [h91]; decide) | exact absurd h91 hs156 | exact absurd hs156 (by rw [h92]; decide) | exact absurd h92 hs156 | exact absurd hs157 (by rw [h91]; decide) | exact absurd h91 hs157 | exact absurd hs157 (by rw [h92]; decide) | exact absurd h92 hs157 | exact absurd hs159 (by rw [h91]; decide) | exact absurd h91 hs159 | exact absurd hs159 (by rw [h92]; decide) | exact absurd h92 hs159 | exact absurd hs164 (by rw [h91]; decide) | exact absurd h91 hs164 | exact absurd hs164 (by rw [h92]; decide) | exact absurd h92 hs164 | exact absurd hs165 (by rw [h91]; decide) | exact absurd h91 hs165 | exact absurd hs165 (by rw [h92]; decide) | exact absurd h92 hs165 | exact absurd hs169 (by rw [h91]; decide) | exact absurd h91 hs169 | exact absurd hs169 (by rw [h92]; decide) | exact absurd h92 hs169)
      have hbq : bools (fs ++ [finN (prodD f a b) o]) = bools fs ++ [.bool false] := by rw [hvo]; simp
      refine TO.sub (O' := ([oI z6 25 [(.int .i64 a.vars), (.int .i64 0), (.slice z17 (i + 1) zc18), (.slice z56 (i + 1) zc57)], rowI z17 zc18 48 1 (vals (qs ++ [⟨rb, rc, rnR (prodD f a b) o⟩])), rowI z56 zc57 4 1 (bools (fs ++ [finN (prodD f a b) o])), rowI (some ⟨z4, 0, none⟩) (a.next.length * b.next.length) 3 1 (ints (nmL (a.next.length * b.next.length) (bfsM (prodD f a b) i o x))), rowI pb2 pc2 123 2 (prs b.next.length (bfsM (prodD f a b) i o x)), oI z3 25 [(.int .i64 0), (.int .i64 0), (.slice none 0 0), (.slice none 0 0)], oI z2 25 (dC b k), oI z1 25 (dC a j)] ++ itms 3 (qs ++ [⟨rb, rc, rnR (prodD f a b) o⟩]))) (by rw [hbq]; exact Sub.d (.k (.k (.k (.k (.k (.k (.k (.k .rf))))))))) ?_
      refine TO.nl ?_
      exact ⟨z56, zc57, rfl, ⟨rfl, rfl, rfl, rfl, rfl, rfl, rfl, rfl, rfl, rfl, rfl, rfl, rfl, rfl, rfl, rfl, trivial⟩⟩
    rintro ρ O ⟨fb2, fc2, rfl, hH⟩
    obtain ⟨ρ0, rfl⟩ := hH.elim
    clear hH
    refine T.rg ?_
    refine TO.qm rfl (TO.q (q_addN (a := i) (b := 1) rfl rfl (by omega)) (TO.qa rfl ?_))
    refine TO.nl ?_
    have hoa := bfs_at hq (by rw [prod_len]; omega)
    exact ⟨i + 1, by omega, ([oI z6 25 [(.int .i64 a.vars), (.int .i64 0), (.slice z17 (i + 1) zc18), (.slice fb2 (i + 1) fc2)], rowI z17 zc18 48 1 (vals (qs ++ [⟨rb, rc, rnR (prodD f a b) o⟩])), rowI fb2 fc2 4 1 (bools (fs ++ [finN (prodD f a b) o])), rowI (some ⟨z4, 0, none⟩) (a.next.length * b.next.length) 3 1 (ints (nmL (a.next.length * b.next.length) (bfsM (prodD f a b) i o x))), rowI pb2 pc2 123 2 (prs b.next.length (bfsM (prodD f a b) i o x)), oI z3 25 [(.int .i64 0), (.int .i64 0), (.slice none 0 0), (.slice none 0 0)], oI z2 25 (dC b k), oI z1 25 (dC a j)] ++ (itms 3 (qs ++ [⟨rb, rc, rnR (prodD f a b) o⟩]))), (by exact Sub.rf), z17, fb2, zc18, fc2, qs ++ [⟨rb, rc, rnR (prodD f a b) o⟩], fs ++ [finN (prodD f a b) o], pb2, pc2, by rw [← e1], by rw [← e1]; exact hle9, by simp [hql], by simp [hfl], by rw [take_at hoa, List.map_append, ← hqs]; exact List.map_append, by rw [take_at hoa, List.map_append, ← hfs]; rfl, ⟨rfl, rfl, rfl, rfl, rfl, rfl, rfl, (congrArg (fun n9 => Value.slice _ n9 _) (by rw [← e1])), rfl, rfl, trivial⟩⟩
  have hge51 : ¬ i < (bfsN (prodD f a b) i).length := by omega
  refine T.exit ?_
  refine T.s ?_
  have hN9 : (bfsN (prodD f a b) i).length = i := by omega
  have hor := pr_stop va vb hv hN9
  have hol : (order (prodD f a b)).length = i := by rw [hor]; exact hN9
  obtain ⟨W, hW⟩ : ∃ W, W = renum (prodD f a b) := ⟨_, rfl⟩
  have e1 : nums qs = W.next := by rw [hW, hqs, ← hol, List.take_length]; exact (renum_rows _).symm
  have e2 : fs = W.final := by rw [hW, hfs, ← hol, List.take_length]; rfl
  have e3 : W.vars = a.vars := by rw [hW]; rfl
  have e4 : W.start = 0 := by rw [hW]; rfl
  have e5 : W.next.length = i := by rw [← e1, ← hql]; simp
  have e6 : W.final.length = i := by rw [← e2]; exact hfl
  have vW : Valid W := by rw [hW]; exact vR
  have hMW : minD W = M := by rw [hW, comb_eq va.toVal vb.toVal hv]; exact hM
  subst e2
  obtain ⟨z9, hz9⟩ : ∃ z : DK, z = ⟨nb, nc, fb, fc, qs⟩ := ⟨_, rfl⟩
  refine T.sub (O' := ([rowI nb nc 48 1 (vals qs), rowI fb fc 4 1 (bools W.final), oI z6 25 [(.int .i64 a.vars), (.int .i64 0), (.slice nb W.next.length nc), (.slice fb W.final.length fc)], oI z3 25 [(.int .i64 0), (.int .i64 0), (.slice none 0 0), (.slice none 0 0)]] ++ itms 3 qs)) (by rw [e5, e6]; exact Sub.pull [oI z6 25 [(.int .i64 a.vars), (.int .i64 0), (.slice nb i nc), (.slice fb i fc)]] _ (.pull [oI z6 25 [(.int .i64 a.vars), (.int .i64 0), (.slice nb i nc), (.slice fb i fc)]] _ (.k (.d (.d (.k (.d (.d .rf)))))))) ?_
  refine T.sub (O' := (([rowI nb nc 48 1 (vals qs), rowI fb fc 4 1 (bools W.final)] ++ itms 3 qs) ++ [oI z6 25 [(.int .i64 a.vars), (.int .i64 0), (.slice nb W.next.length nc), (.slice fb W.final.length fc)], oI z3 25 [(.int .i64 0), (.int .i64 0), (.slice none 0 0), (.slice none 0 0)]])) (by exact Sub.swap3 [rowI nb nc 48 1 (vals qs), rowI fb fc 4 1 (bools W.final)] (itms 3 qs) [oI z6 25 [(.int .i64 a.vars), (.int .i64 0), (.slice nb W.next.length nc), (.slice fb W.final.length fc)], oI z3 25 [(.int .i64 0), (.int .i64 0), (.slice none 0 0), (.slice none 0 0)]]) ?_
  refine T.pack (φ := nums qs = W.next) e1 ?_
  refine T.sub (O' := [dI 48 4 3 W z9, oI z6 25 (dC W z9), oI z3 25 [(.int .i64 0), (.int .i64 0), (.slice none 0 0), (.slice none 0 0)]]) (by subst hz9; unfold dC dfaCells; rw [e3, e4]; exact Sub.rf) ?_
  refine T.rg ?_
  refine TO.q (q_la 1 underlying25 rfl inf25 rfl rfl rfl) ?_
  have hk182 := fun (w1 : World) (hI : Inv w [dI 48 4 3 W z9, oI z6 25 (dC W z9), oI z3 25 [(.int .i64 0), (.int .i64 0), (.slice none 0 0), (.slice none 0 0)]] w1) => (haveI := tbz hI; rMinKE w1 W z9 (hI.at (k := z9) (mG 0 rfl)) vW (Nat.lt_of_le_of_lt vW.n4 (by decide)) hMW)
  refine TO.l rfl (l_call ent41 (CallT.op hk182) rfl ?_)
  clear hk182
  rintro vr O' ⟨N, rfl, k', rfl, rfl⟩
  refine TO.q (q_extract (vs := _) rfl rfl) (TO.q (q_extract (vs := _) rfl rfl) ?_)
  refine TO.l rfl (l_sb (v := (dV M k')) (vs := (dC M k')) 3 inf25 rfl rfl rfl rfl rfl rfl (by simp [putL]) ?_)
  refine TO.qa rfl ?_
  refine TO.nl (T.ret (Res.drop ?_))
  refine Res.cell1b (.int .i64 0) (i := 3) Tryz.results77 underlying25 rfl inf25 rfl rfl rfl rfl ?_
  exact ⟨[dI 48 4 3 M k'], (by exact Sub.k .z), k', rfl, rfl⟩
theorem andBR (w : World) [Tab Tryz.prog w] (a b : DFA) (j k : DK) (ha : At w a j) (hb : At w b k) (va : Valid a) (vb : Valid b) (hv : a.vars = b.vars) (hN : (order (prodD andB a b)).length ≤ 4096) {M : DFA} (hM : opD andB a b = M) :
    PureT Tryz.prog 77 [dV a j, dV b k, .int .u8 10] w fun v N => ∃ k' : DK, v = .tuple #[dV M k', .int .i64 0] ∧ N = [dI 48 4 3 M k'] :=
  combR w andB 10 (.inl ⟨rfl, rfl⟩) a b j k ha hb va vb hv hN hM
theorem orBR (w : World) [Tab Tryz.prog w] (a b : DFA) (j k : DK) (ha : At w a j) (hb : At w b k) (va : Valid a) (vb : Valid b) (hv : a.vars = b.vars) (hN : (order (prodD orB a b)).length ≤ 4096) {M : DFA} (hM : opD orB a b = M) :
    PureT Tryz.prog 77 [dV a j, dV b k, .int .u8 11] w fun v N => ∃ k' : DK, v = .tuple #[dV M k', .int .i64 0] ∧ N = [dI 48 4 3 M k'] :=
  combR w orB 11 (.inr ⟨rfl, rfl⟩) a b j k ha hb va vb hv hN hM
end Go.Proofs.YtnpehjpookcfkaaGreatDoor


namespace Go.Proofs.YtnpehjpookcfkaaGreatDoor
open Go.Lx Go.RowKit _root_.Go.Proofs.Tryz
set_option linter.unusedVariables false
set_option linter.unusedSimpArgs false
theorem overInts (base : World) (b : Option Addr) (c c' : Nat) (xs : List Int) (hb : xs.length < 9223372036854775807) :
    CallT Tryz.prog base 99 [.slice b xs.length c'] [rowI b c 3 1 (ints xs)] (fun _ O' => O' = []) := by
  refine CallT.enter Tryz.func99 rfl Tryz.ntmps99 rfl ?_
  refine T.s (T.rg ?_)
  refine TO.qa rfl ?_
  refine TO.nl (T.block ?_)
  refine T.loop (fun (k : Nat) ρ O => ∃ (ys : List Int), O = [rowI b c 3 1 (ints ys)] ∧ k ≤ xs.length ∧ ys.length = xs.length ∧ Heads [(0, (.slice b xs.length c')), (2, .int .i64 (k : Int))] ρ) (fun k => xs.length - k) 0 ?_ ?_
  · exact ⟨xs, rfl, Nat.zero_le _, rfl, ⟨rfl, rfl, trivial⟩⟩
  rintro k ρ O ⟨ys, rfl, hk, hyl, hH⟩
  obtain ⟨ρ0, rfl⟩ := hH.elim
  clear hH
  refine T.s (T.s (T.rg ?_))
  refine TO.qm rfl (TO.qm rfl (TO.q (q_len underlying48 rfl) (TO.q (q_lss rfl rfl) ?_)))
  refine TO.nl ?_
  refine T.condP rfl (fun hc => ?_) (fun hc => ?_)
  · have hlt6 : k < xs.length := by omega
    have hlt : k < ys.length := by omega
    refine T.skip (T.s (T.block (T.rg ?_)))
    refine TO.qm rfl (TO.qm rfl (TO.q (q_ix (i := k) underlying48 inf3 rfl rfl (rowO (mG 0 rfl))) ?_))
    refine TO.l rfl (l_st (j := k) (v := .int .i64 (-77)) (vs := [(.int .i64 (-77))]) (cs := ints ys) 0 inf3 rfl rfl rfl rfl rfl (by simp) rfl (by first | (simp; omega) | (simp_all; omega)) ?_)
    refine TO.sub (O' := [rowI b c 3 1 (ints (ys.set k (-77)))]) (by rw [show putL (ints ys) k [(.int .i64 (-77))] = ints (ys.set k (-77)) from by simp [putL]]; exact Sub.of (List.Sublist.refl _)) ?_
    refine TO.nl (T.rg ?_)
    refine TO.qm rfl (TO.q (q_inc rfl rfl (by omega)) (TO.qa rfl ?_))
    refine TO.nl ?_
    exact ⟨k + 1, by omega, ys.set k (-77), rfl, by omega, by simp [hyl], ⟨rfl, rfl, trivial⟩⟩
  have hge6 : ¬ k < xs.length := by omega
  refine T.exit ?_
  refine Res.drop ?_
  refine Res.zero Tryz.results99 ?_
  exact ⟨[], Sub.of (List.nil_sublist _), rfl⟩
theorem overBytes (base : World) (b : Option Addr) (c c' : Nat) (xs : List Nat) (hb : xs.length < 9223372036854775807) :
    CallT Tryz.prog base 18 [.slice b xs.length c'] [rowI b c 5 1 (byts xs)] (fun _ O' => O' = []) := by
  refine CallT.enter Tryz.func18 rfl Tryz.ntmps18 rfl ?_
  refine T.s (T.rg ?_)
  refine TO.qa rfl ?_
  refine TO.nl (T.block ?_)
  refine T.loop (fun (k : Nat) ρ O => ∃ (ys : List Nat), O = [rowI b c 5 1 (byts ys)] ∧ k ≤ xs.length ∧ ys.length = xs.length ∧ Heads [(0, (.slice b xs.length c')), (2, .int .i64 (k : Int))] ρ) (fun k => xs.length - k) 0 ?_ ?_
  · exact ⟨xs, rfl, Nat.zero_le _, rfl, ⟨rfl, rfl, trivial⟩⟩
  rintro k ρ O ⟨ys, rfl, hk, hyl, hH⟩
  obtain ⟨ρ0, rfl⟩ := hH.elim
  clear hH
  refine T.s (T.s (T.rg ?_))
  refine TO.qm rfl (TO.qm rfl (TO.q (q_len underlying34 rfl) (TO.q (q_lss rfl rfl) ?_)))
  refine TO.nl ?_
  refine T.condP rfl (fun hc => ?_) (fun hc => ?_)
  · have hlt6 : k < xs.length := by omega
    have hlt : k < ys.length := by omega
    refine T.skip (T.s (T.block (T.rg ?_)))
    refine TO.qm rfl (TO.qm rfl (TO.q (q_ix (i := k) underlying34 inf5 rfl rfl (rowO (mG 0 rfl))) ?_))
    refine TO.l rfl (l_st (j := k) (v := .int .u8 201) (vs := [(.int .u8 201)]) (cs := byts ys) 0 inf5 rfl rfl rfl rfl rfl (by simp) rfl (by first | (simp; omega) | (simp_all; omega)) ?_)
    refine TO.sub (O' := [rowI b c 5 1 (byts (ys.set k 201))]) (by rw [show putL (byts ys) k [(.int .u8 201)] = byts (ys.set k 201) from by simp [putL]]; exact Sub.of (List.Sublist.refl _)) ?_
    refine TO.nl (T.rg ?_)
    refine TO.qm rfl (TO.q (q_inc rfl rfl (by omega)) (TO.qa rfl ?_))
    refine TO.nl ?_
    exact ⟨k + 1, by omega, ys.set k 201, rfl, by omega, by simp [hyl], ⟨rfl, rfl, trivial⟩⟩
  have hge6 : ¬ k < xs.length := by omega
  refine T.exit ?_
  refine Res.drop ?_
  refine Res.zero Tryz.results18 ?_
  exact ⟨[], Sub.of (List.nil_sublist _), rfl⟩
theorem overBools (base : World) (b : Option Addr) (c c' : Nat) (xs : List Bool) (hb : xs.length < 9223372036854775807) :
    CallT Tryz.prog base 80 [.slice b xs.length c'] [rowI b c 4 1 (bools xs)] (fun _ O' => O' = []) := by
  refine CallT.enter Tryz.func80 rfl Tryz.ntmps80 rfl ?_
  refine T.s (T.rg ?_)
  refine TO.qa rfl ?_
  refine TO.nl (T.block ?_)
  refine T.loop (fun (k : Nat) ρ O => ∃ (ys : List Bool), O = [rowI b c 4 1 (bools ys)] ∧ k ≤ xs.length ∧ ys.length = xs.length ∧ Heads [(0, (.slice b xs.length c')), (2, .int .i64 (k : Int))] ρ) (fun k => xs.length - k) 0 ?_ ?_
  · exact ⟨xs, rfl, Nat.zero_le _, rfl, ⟨rfl, rfl, trivial⟩⟩
  rintro k ρ O ⟨ys, rfl, hk, hyl, hH⟩
  obtain ⟨ρ0, rfl⟩ := hH.elim
  clear hH
  refine T.s (T.s (T.rg ?_))
  refine TO.qm rfl (TO.qm rfl (TO.q (q_len underlying23 rfl) (TO.q (q_lss rfl rfl) ?_)))
  refine TO.nl ?_
  refine T.condP rfl (fun hc => ?_) (fun hc => ?_)
  · have hlt6 : k < xs.length := by omega
    have hlt : k < ys.length := by omega
    refine T.skip (T.s (T.block (T.rg ?_)))
    refine TO.qm rfl (TO.qm rfl (TO.qm rfl (TO.qm rfl ?_)))
    refine TO.q (q_ix (i := k) underlying23 inf4 rfl rfl (rowO (mG 0 rfl))) (TO.q (q_ld underlying4 rfl rfl (rowO (mG 0 rfl)) bools_get) (TO.q (q_not rfl) (TO.q (q_ix (i := k) underlying23 inf4 rfl rfl (rowO (mG 0 rfl))) ?_)))
    refine TO.l rfl (l_st (j := k) (v := .bool (!ys[k])) (vs := [(.bool (!ys[k]))]) (cs := bools ys) 0 inf4 rfl rfl rfl rfl rfl (by simp) rfl (by first | (simp; omega) | (simp_all; omega)) ?_)
    refine TO.sub (O' := [rowI b c 4 1 (bools (ys.set k (!ys[k])))]) (by rw [show putL (bools ys) k [(.bool (!ys[k]))] = bools (ys.set k (!ys[k])) from by simp [putL]]; exact Sub.of (List.Sublist.refl _)) ?_
    refine TO.nl (T.rg ?_)
    refine TO.qm rfl (TO.q (q_inc rfl rfl (by omega)) (TO.qa rfl ?_))
    refine TO.nl ?_
    exact ⟨k + 1, by omega, ys.set k (!ys[k]), rfl, by omega, by simp [hyl], ⟨rfl, rfl, trivial⟩⟩
  have hge6 : ¬ k < xs.length := by omega
  refine T.exit ?_
  refine Res.drop ?_
  refine Res.zero Tryz.results80 ?_
  exact ⟨[], Sub.of (List.nil_sublist _), rfl⟩
theorem overRows (base : World) (b : Option Addr) (c c' : Nat) (qs : List Rec) (hb : qs.length < 9223372036854775807) (hbr : ∀ q ∈ qs, q.xs.length < 9223372036854775807) :
    CallT Tryz.prog base 79 [.slice b qs.length c'] (rowI b c 48 1 (vals qs) :: itms 3 qs) (fun _ O' => O' = []) := by
  refine CallT.enter Tryz.func79 rfl Tryz.ntmps79 rfl ?_
  refine T.s (T.rg ?_)
  refine TO.qa rfl ?_
  refine TO.nl (T.block ?_)
  refine T.loop (fun (k : Nat) ρ O => O = ([rowI b c 48 1 (vals qs)] ++ (itms 3 (qs.drop k))) ∧ k ≤ qs.length ∧ Heads [(0, (.slice b qs.length c')), (2, .int .i64 (k : Int))] ρ) (fun k => qs.length - k) 0 ?_ ?_
  · exact ⟨rfl, Nat.zero_le _, ⟨rfl, rfl, trivial⟩⟩
  rintro k ρ O ⟨rfl, hk, hH⟩
  obtain ⟨ρ0, rfl⟩ := hH.elim
  clear hH
  refine T.s (T.s (T.rg ?_))
  refine TO.qm rfl (TO.qm rfl (TO.q (q_len underlying22 rfl) (TO.q (q_lss rfl rfl) ?_)))
  refine TO.nl ?_
  refine T.condP rfl (fun hc => ?_) (fun hc => ?_)
  · have hlt6 : k < qs.length := by omega
    have hlt : k < qs.length := by omega
    have hit : itms 3 (qs.drop k) = rowI qs[k].b qs[k].c 3 1 (ints qs[k].xs) :: itms 3 (qs.drop (k + 1)) := by rw [List.drop_eq_getElem_cons hlt]; rfl
    refine T.skip (T.s (T.block (T.rg ?_)))
    refine TO.qm rfl (TO.qm rfl (TO.q (q_ix (i := k) underlying22 inf48 rfl rfl (rowO (mG 0 rfl))) (TO.q (q_ld underlying48 rfl rfl (rowO (mG 0 rfl)) (show (vals qs)[k]? = some (.slice qs[k].b qs[k].xs.length qs[k].c) by simp [hlt, Rec.val])) ?_)))
    have hk13 := CallT.under (B := rowI b c 48 1 (vals qs) :: itms 3 (qs.drop (k + 1))) (O := ([rowI b c 48 1 (vals qs)] ++ (itms 3 (qs.drop k)))) (overInts base qs[k].b qs[k].c qs[k].c qs[k].xs (hbr _ (List.getElem_mem hlt))) (by rw [hit]; exact Sub.ca [])
    refine TO.l rfl (l_call ent99 hk13 rfl ?_)
    clear hk13
    rintro v O' ⟨A1, rfl, rfl⟩
    refine TO.nl (T.rg ?_)
    refine TO.qm rfl (TO.q (q_inc rfl rfl (by omega)) (TO.qa rfl ?_))
    refine TO.nl ?_
    exact ⟨k + 1, by omega, rfl, by omega, ⟨rfl, rfl, trivial⟩⟩
  have hge6 : ¬ k < qs.length := by omega
  refine T.exit ?_
  refine Res.drop ?_
  refine Res.zero Tryz.results79 ?_
  exact ⟨[], Sub.of (List.nil_sublist _), rfl⟩
theorem overDFA (base : World) (d : DFA) (nb fb : Option Addr) (nc fc n1 f1 : Nat) (qs : List Rec) (hq : nums qs = d.next) (hb : d.next.length < 9223372036854775807) (hbr : ∀ r ∈ d.next, r.length < 9223372036854775807) (hbf : d.final.length < 9223372036854775807) :
    CallT Tryz.prog base 51 [.agg (dfaCells d nb nc fb fc).toArray] ([rowI nb n1 48 1 (vals qs), rowI fb f1 4 1 (bools d.final)] ++ itms 3 qs) (fun _ O' => O' = []) := by
  refine CallT.enter Tryz.func51 rfl Tryz.ntmps51 rfl ?_
  have hql : qs.length = d.next.length := by rw [← hq]; simp
  have hqr : ∀ q ∈ qs, q.xs.length < 9223372036854775807 := fun q h => hbr _ (by rw [← hq]; exact List.mem_map_of_mem h)
  refine T.s (T.rg ?_)
  refine TO.l rfl (l_box (v := (.agg #[(.int .i64 d.vars), (.int .i64 d.start), (.slice nb d.next.length nc), (.slice fb d.final.length fc)])) (cs := [(.int .i64 d.vars), (.int .i64 d.start), (.slice nb d.next.length nc), (.slice fb d.final.length fc)]) rfl rfl (fun b1 => ?_))
  refine TO.nl (T.s (T.rg ?_))
  refine TO.q (q_fa underlying25 rfl inf22 rfl rfl) (TO.q (q_lb 0 underlying22 rfl rfl rfl rfl) ?_)
  have hk4 := CallT.under (B := [oI b1 25 [(.int .i64 d.vars), (.int .i64 d.start), (.slice nb d.next.length nc), (.slice fb d.final.length fc)], rowI fb f1 4 1 (bools d.final)]) (O := ([oI b1 25 [(.int .i64 d.vars), (.int .i64 d.start), (.slice nb d.next.length nc), (.slice fb d.final.length fc)], rowI nb n1 48 1 (vals qs), rowI fb f1 4 1 (bools d.final)] ++ (itms 3 qs))) (hql ▸ overRows base nb n1 nc qs (by omega) hqr) (Sub.ca [])
  refine TO.l rfl (l_call ent79 hk4 rfl ?_)
  clear hk4
  rintro v O' ⟨A1, rfl, rfl⟩
  refine TO.nl (T.rg ?_)
  refine TO.q (q_fa underlying25 rfl inf23 rfl rfl) (TO.q (q_lb 0 underlying23 rfl rfl rfl rfl) ?_)
  have hk7 := CallT.under (B := [oI b1 25 [(.int .i64 d.vars), (.int .i64 d.start), (.slice nb d.next.length nc), (.slice fb d.final.length fc)]]) (O := [oI b1 25 [(.int .i64 d.vars), (.int .i64 d.start), (.slice nb d.next.length nc), (.slice fb d.final.length fc)], rowI fb f1 4 1 (bools d.final)]) (overBools base fb f1 fc d.final hbf) (Sub.ca [])
  refine TO.l rfl (l_call ent80 hk7 rfl ?_)
  clear hk7
  rintro v O' ⟨A1, rfl, rfl⟩
  refine TO.nl (Res.drop ?_)
  refine Res.zero Tryz.results51 ?_
  exact ⟨[], Sub.of (List.nil_sublist _), rfl⟩
end Go.Proofs.YtnpehjpookcfkaaGreatDoor


namespace Go.Proofs.YtnpehjpookcfkaaGreatDoor
open Go.Lx Go.RowKit _root_.Go.Proofs.Tryz
set_option linter.unusedVariables false
set_option linter.unusedSimpArgs false
theorem copyK (w : World) [Tab Tryz.prog w] (d : DFA) (k : DK) (h : At w d k) (hb : d.next.length * 24 ≤ 70368744177664) (hbr : ∀ r ∈ d.next, r.length * 8 ≤ 70368744177664) (hbf : d.final.length * 1 ≤ 70368744177664) :
    PureT Tryz.prog 32 [dV d k] w fun v N => ∃ k' : DK, v = dV d k' ∧ N = [dI 48 4 3 d k'] := CallT.dk (g := id) (copyDFA w d k.nb k.fb k.nc k.fc (vals k.qs) h hb hbr hbf)
theorem overK (base : World) [Tab Tryz.prog base] (d : DFA) (k : DK) (hb : d.next.length < 9223372036854775807) (hbr : ∀ r ∈ d.next, r.length < 9223372036854775807) (hbf : d.final.length < 9223372036854775807) :
    CallT Tryz.prog base 51 [dV d k] [dI 48 4 3 d k] (fun _ O' => O' = []) :=
  CallT.packO (M := []) fun hq => by rw [List.append_nil]; exact overDFA base d k.nb k.fb k.nc k.fc k.nc k.fc k.qs hq hb hbr hbf
theorem refNotOk (w : World) [Tab Tryz.prog w] (a : DFA) (j : DK) (ha : At w a j) (haa : a.next.length < 9223372036854775807) (haar : ∀ r ∈ a.next, r.length < 9223372036854775807) (haaf : a.final.length < 9223372036854775807) (va : Valid a) :
    PureT Tryz.prog 85 [dV a j] w fun v N => ∃ k' : DK, v = .tuple #[dV (opV notB a a) k', .int .i64 (checkD a : Int)] ∧ N = [dI 48 4 3 (opV notB a a) k'] := by
  refine CallT.enter Tryz.func85 rfl Tryz.ntmps85 rfl ?_
  have he := checkD_zero.2 va
  have hfin := va.fin
  refine T.s (T.rg ?_)
  refine TO.l rfl (l_box (v := (dV a j)) (cs := (dC a j)) rfl rfl (fun z1 => ?_))
  refine TO.l rfl (l_alloc inf25 rfl (fun z2 => ?_))
  refine TO.qa rfl ?_
  refine TO.nl (T.s (T.rg ?_))
  refine TO.q (q_la 1 underlying25 rfl inf25 rfl rfl rfl) ?_
  have hk8 := fun (w1 : World) (hI : Inv w [oI z2 25 [(.int .i64 0), (.int .i64 0), (.slice none 0 0), (.slice none 0 0)], oI z1 25 (dC a j)] w1) => (haveI := tbz hI; refCheck w1 a j.nb j.fb j.nc j.fc (vals j.qs) (hI.dfa ha) haa haar haaf)
  refine TO.l rfl (l_call ent34 (CallT.op hk8) rfl ?_)
  clear hk8
  rintro vr O' ⟨N, rfl, rfl, rfl⟩
  rw [he]
  refine TO.qa rfl ?_
  refine TO.nl (T.s (T.s (T.rg ?_)))
  refine TO.qm rfl (TO.q (q_neq rfl rfl) ?_)
  refine TO.nl ?_
  refine T.cond0 rfl ?_
  refine T.skip (T.s (T.rg ?_))
  refine TO.q (q_la 1 underlying25 rfl inf25 rfl rfl rfl) ?_
  have hk14 := fun (w1 : World) (hI : Inv w [oI z2 25 [(.int .i64 0), (.int .i64 0), (.slice none 0 0), (.slice none 0 0)], oI z1 25 (dC a j)] w1) => (haveI := tbz hI; copyK w1 a j (hI.atB ha) (by have := va.n4; omega) (fun r hr => by have := va.len r hr; have := va.width; omega) (by have := va.fin; have := va.n4; omega))
  refine TO.l rfl (l_call ent32 (CallT.op hk14) rfl ?_)
  clear hk14
  rintro vr O' ⟨N, rfl, k1, rfl, rfl⟩
  refine TO.l rfl (l_alloc inf25 rfl (fun z3 => ?_))
  refine TO.l rfl (l_sb (v := (dV a k1)) (vs := (dC a k1)) 0 inf25 rfl rfl rfl rfl rfl rfl (by simp [putL]) ?_)
  refine TO.nl (T.s (T.s (T.rg ?_)))
  refine TO.qa rfl ?_
  refine TO.nl (T.block ?_)
  refine T.sub (O' := [dI 48 4 3 a k1, oI z3 25 (dC a k1), oI z2 25 [(.int .i64 0), (.int .i64 0), (.slice none 0 0), (.slice none 0 0)], oI z1 25 (dC a j)]) (by exact Sub.pull [oI z3 25 (dC a k1)] _ (.k (.k (.k .z)))) ?_
  refine T.unpack (fun hqs => ?_)
  refine T.sub (O' := ([rowI k1.nb k1.nc 48 1 (vals k1.qs), rowI k1.fb k1.fc 4 1 (bools a.final), oI z3 25 (dC a k1), oI z2 25 [(.int .i64 0), (.int .i64 0), (.slice none 0 0), (.slice none 0 0)], oI z1 25 (dC a j)] ++ itms 3 k1.qs)) (by exact Sub.swap3 [rowI k1.nb k1.nc 48 1 (vals k1.qs), rowI k1.fb k1.fc 4 1 (bools a.final)] [oI z3 25 (dC a k1), oI z2 25 [(.int .i64 0), (.int .i64 0), (.slice none 0 0), (.slice none 0 0)], oI z1 25 (dC a j)] (itms 3 k1.qs)) ?_
  refine T.loop (fun (s : Nat) ρ O => ∃ (fs : List Bool), O = ([rowI k1.nb k1.nc 48 1 (vals k1.qs), rowI k1.fb k1.fc 4 1 (bools fs), oI z3 25 (dC a k1), oI z2 25 [(.int .i64 0), (.int .i64 0), (.slice none 0 0), (.slice none 0 0)], oI z1 25 (dC a j)] ++ (itms 3 k1.qs)) ∧ s ≤ a.final.length ∧ fs.length = a.final.length ∧ (∀ i, fs[i]? = if i < s then a.final[i]?.map (!·) else a.final[i]?) ∧ Heads [(0, (dV a j)), (1, (.pointer (some ⟨z1, 0, none⟩))), (2, (.pointer (some ⟨z2, 0, none⟩))), (3, .int .i64 0), (4, .int .i64 ((0 : Nat) : Int)), (5, (.pointer (some ⟨z3, 0, none⟩))), (6, .int .i64 ((s : Nat) : Int))] ρ) (fun s => a.final.length - s) 0 ?_ ?_
  · exact ⟨a.final, rfl, Nat.zero_le _, rfl, fun i => by simp, ⟨rfl, rfl, rfl, rfl, rfl, rfl, rfl, trivial⟩⟩
  rintro s ρ O ⟨fs, rfl, hs, hfl, hfs, hH⟩
  obtain ⟨ρ0, rfl⟩ := hH.elim
  clear hH
  refine T.s (T.s (T.rg ?_))
  refine TO.qm rfl (TO.q (q_fa underlying25 rfl inf23 rfl rfl) (TO.q (q_lb 2 underlying23 rfl rfl rfl rfl) (TO.q (q_len underlying23 rfl) ?_)))
  refine TO.q (q_lss rfl rfl) ?_
  refine TO.nl ?_
  refine T.condP rfl (fun hc => ?_) (fun hc => ?_)
  · have hlt19 : s < a.final.length := by omega
    refine T.skip (T.s (T.block ?_))
    refine T.draws [rowI k1.nb k1.nc 48 1 (vals k1.qs), rowI k1.fb k1.fc 4 1 (bools fs), oI z3 25 (dC a k1), oI z2 25 [(.int .i64 0), (.int .i64 0), (.slice none 0 0), (.slice none 0 0)], oI z1 25 (dC a j)] [(0, 0), (1, 0), (2, 0), (3, 0), (4, 0), (5, 0), (6, 0), (7, 0), (8, 0), (9, 0), (10, 2)] mixed (by kernel_rfl) (by exact Sub.k (.k (.k (.k (.k .z))))) (fun _ _ _ h => h) ?_
    refine DO.q rfl (q_fa underlying25 rfl inf23 rfl rfl) (DO.q rfl (q_lb 2 underlying23 rfl rfl rfl rfl) (DO.q rfl (q_move rfl) (DO.q rfl (q_fa underlying25 rfl inf23 rfl rfl) ?_)))
    refine DO.q rfl (q_lb 2 underlying23 rfl rfl rfl rfl) (DO.q rfl (q_move rfl) (DO.q rfl (q_ix (i := s) underlying23 inf4 rfl rfl (rowO (mG 1 rfl)) hlt19 (by rw [List.length_map]; omega)) (DO.q rfl (q_ld underlying4 rfl rfl (rowO (mG 1 rfl)) (show (bools fs)[s]? = some (.bool a.final[s]) by rw [List.getElem?_map, hfs s, if_neg (by omega), List.getElem?_eq_getElem hlt19]; rfl)) ?_)))
    refine DO.q rfl (q_not rfl) (DO.q rfl (q_ix (i := s) underlying23 inf4 rfl rfl (rowO (mG 1 rfl)) hlt19 (by rw [List.length_map]; omega)) ?_)
    refine DO.last rfl rfl (l_st (j := s) (v := .bool (!a.final[s])) (vs := [(.bool (!a.final[s]))]) (cs := bools fs) 1 inf4 rfl rfl rfl rfl rfl (by simp) rfl (by first | (simp; omega) | (simp_all; omega)) ?_)
    refine DO.sub (O' := ([rowI k1.nb k1.nc 48 1 (vals k1.qs), rowI k1.fb k1.fc 4 1 (bools (fs.set s (!a.final[s]))), oI z3 25 (dC a k1), oI z2 25 [(.int .i64 0), (.int .i64 0), (.slice none 0 0), (.slice none 0 0)], oI z1 25 (dC a j)] ++ (itms 3 k1.qs))) (by rw [show putL (bools fs) s [(.bool (!a.final[s]))] = bools (fs.set s (!a.final[s])) from by simp [putL]]; exact Sub.of (List.Sublist.refl _)) ?_
    refine DO.done ?_
    refine T.rg ?_
    refine TO.qm rfl (TO.q (q_addN (a := s) (b := 1) rfl rfl (by omega)) (TO.qa rfl ?_))
    refine TO.nl ?_
    refine ⟨s + 1, by omega, fs.set s (!a.final[s]), rfl, by omega, by simp [hfl], fun i => ?_, ⟨rfl, rfl, rfl, rfl, rfl, rfl, rfl, trivial⟩⟩
    by_cases e : i = s
    · subst e; rw [List.getElem?_set_self (by omega), if_pos (by omega), List.getElem?_eq_getElem hlt19]; rfl
    · rw [List.getElem?_set_ne (fun h => e h.symm), hfs i]
      by_cases e2 : i < s
      · rw [if_pos e2, if_pos (by omega)]
      · rw [if_neg e2, if_neg (by omega)]
  have hge19 : ¬ s < a.final.length := by omega
  refine T.exit ?_
  refine T.s ?_
  have hfe : fs = a.final.map (!·) := by
    apply List.ext_getElem?
    intro i
    rw [hfs i, List.getElem?_map]
    by_cases e2 : i < s
    · rw [if_pos e2]
    · rw [if_neg e2, List.getElem?_eq_none (by omega)]; rfl
  obtain ⟨W, hW⟩ : ∃ W, W = flipD a := ⟨_, rfl⟩
  have e2 : fs = W.final := by rw [hW, hfe]; rfl
  have hqW : nums k1.qs = W.next := by rw [hW, hqs]; rfl
  subst e2
  have vW : Valid W := hW ▸ flip_valid va
  obtain ⟨M, hM⟩ : ∃ M, minD W = M := ⟨_, rfl⟩
  have hM2 : opD notB a a = M := by rw [← hM, hW]; exact (notD_flipW va).symm
  have hfl2 : W.final.length = a.final.length := hfl
  refine T.sub (O' := (([rowI k1.nb k1.nc 48 1 (vals k1.qs), rowI k1.fb k1.fc 4 1 (bools W.final)] ++ itms 3 k1.qs) ++ [oI z3 25 (dC a k1), oI z2 25 [(.int .i64 0), (.int .i64 0), (.slice none 0 0), (.slice none 0 0)], oI z1 25 (dC a j)])) (by exact Sub.swap3 [rowI k1.nb k1.nc 48 1 (vals k1.qs), rowI k1.fb k1.fc 4 1 (bools W.final)] (itms 3 k1.qs) [oI z3 25 (dC a k1), oI z2 25 [(.int .i64 0), (.int .i64 0), (.slice none 0 0), (.slice none 0 0)], oI z1 25 (dC a j)]) ?_
  refine T.pack (φ := nums k1.qs = W.next) hqW ?_
  refine T.sub (O' := [dI 48 4 3 W k1, oI z3 25 (dC W k1), oI z2 25 [(.int .i64 0), (.int .i64 0), (.slice none 0 0), (.slice none 0 0)], oI z1 25 (dC a j)]) (by rw [show dC W k1 = dC a k1 by subst hW; simp [flipD]]; exact Sub.rf) ?_
  refine T.rg ?_
  refine TO.q (q_la 1 underlying25 rfl inf25 rfl rfl rfl) ?_
  have hk33 := fun (w1 : World) (hI : Inv w [dI 48 4 3 W k1, oI z3 25 (dC W k1), oI z2 25 [(.int .i64 0), (.int .i64 0), (.slice none 0 0), (.slice none 0 0)], oI z1 25 (dC a j)] w1) => (haveI := tbz hI; rMinKE w1 W k1 (hI.at (k := k1) (mG 0 rfl)) vW (by rw [hW]; show a.next.length < 10000; have := va.n4; omega) hM)
  refine TO.l rfl (l_call ent41 (CallT.op hk33) rfl ?_)
  clear hk33
  rintro vr O' ⟨N, rfl, k', rfl, rfl⟩
  refine TO.q (q_extract (vs := _) rfl rfl) (TO.q (q_extract (vs := _) rfl rfl) ?_)
  refine TO.l rfl (l_sb (v := (dV M k')) (vs := (dC M k')) 3 inf25 rfl rfl rfl rfl rfl rfl (by simp [putL]) ?_)
  refine TO.qa rfl ?_
  refine TO.nl (T.ret (Res.drop ?_))
  refine Res.cell1b (.int .i64 0) (i := 3) Tryz.results85 underlying25 rfl inf25 rfl rfl rfl rfl ?_
  rw [opV_ok (by rw [wrongD_self]; exact he), hM2]
  exact ⟨[dI 48 4 3 M k'], (by exact Sub.k .z), k', rfl, rfl⟩
end Go.Proofs.YtnpehjpookcfkaaGreatDoor


namespace Go.Proofs.YtnpehjpookcfkaaGreatDoor
open Go.Lx Go.RowKit _root_.Go.Proofs.Tryz
set_option linter.unusedVariables false
set_option linter.unusedSimpArgs false
theorem rConCheck (w : World) [Tab Tryz.prog w] (a g : DFA) (j k : DK) (ha : At w a j) (hg : At w g k) (ba : a.next.length < 9223372036854775807 ∧ (∀ r ∈ a.next, r.length < 9223372036854775807) ∧ a.final.length < 9223372036854775807) (bg : g.next.length < 9223372036854775807 ∧ (∀ r ∈ g.next, r.length < 9223372036854775807) ∧ g.final.length < 9223372036854775807) :
    PureT Tryz.prog 9 [cV a g j k] w fun v N => v = .int .i64 (cE a g : Int) ∧ N = [] := by
  refine CallT.enter Tryz.func9 rfl Tryz.ntmps9 rfl ?_
  refine T.s (T.rg ?_)
  refine TO.l rfl (l_box (v := (cV a g j k)) (cs := (cC a g j k)) rfl rfl (fun bx1 => ?_))
  refine TO.qa rfl ?_
  refine TO.nl (T.s (T.s (T.rg ?_)))
  refine TO.q (q_fa underlying27 rfl inf25 rfl rfl) (TO.q (q_load_part 0 (vs := (dC a j)) underlying25 rfl inf25 rfl rfl rfl rfl) ?_)
  have hk7 := fun (w1 : World) (hI : Inv w [oI bx1 27 (cC a g j k)] w1) => (haveI := tbz hI; refCheck w1 a j.nb j.fb j.nc j.fc (vals j.qs) (hI.dfa ha) ba.1 ba.2.1 ba.2.2)
  refine TO.l rfl (l_call ent34 (CallT.op hk7) rfl ?_)
  clear hk7
  rintro vr O' ⟨N, rfl, rfl, rfl⟩
  refine TO.qa rfl ?_
  refine TO.nl (T.s (T.rg ?_))
  refine TO.qm rfl (TO.q (q_neq rfl rfl) ?_)
  refine TO.nl ?_
  refine T.condP rfl (fun hc => ?_) (fun hc => ?_)
  · have hlt9 : checkD a ≠ 0 := by omega
    refine T.s (T.rg ?_)
    refine TO.qm rfl (TO.qa rfl ?_)
    refine TO.nl (T.ret (Res.drop ?_))
    refine Res.one (.int .i64 (checkD a : Int)) Tryz.results9 rfl ?_
    exact ⟨[], Sub.z, by rw [cE_first (by omega)], rfl⟩
  have hge9 : ¬ checkD a ≠ 0 := by omega
  refine T.skip (T.s (T.s (T.rg ?_)))
  refine TO.q (q_fa underlying27 rfl inf25 rfl rfl) (TO.q (q_load_part 0 (vs := (dC g k)) underlying25 rfl inf25 rfl rfl rfl rfl) ?_)
  have hk13 := fun (w1 : World) (hI : Inv w [oI bx1 27 (cC a g j k)] w1) => (haveI := tbz hI; refCheck w1 g k.nb k.fb k.nc k.fc (vals k.qs) (hI.dfa hg) bg.1 bg.2.1 bg.2.2)
  refine TO.l rfl (l_call ent34 (CallT.op hk13) rfl ?_)
  clear hk13
  rintro vr O' ⟨N, rfl, rfl, rfl⟩
  refine TO.qa rfl ?_
  refine TO.nl (T.s (T.rg ?_))
  refine TO.qm rfl (TO.q (q_neq rfl rfl) ?_)
  refine TO.nl ?_
  refine T.condP rfl (fun hc => ?_) (fun hc => ?_)
  · have hlt15 : checkD g ≠ 0 := by omega
    refine T.s (T.rg ?_)
    refine TO.qm rfl (TO.qa rfl ?_)
    refine TO.nl (T.ret (Res.drop ?_))
    refine Res.one (.int .i64 (checkD g : Int)) Tryz.results9 rfl ?_
    exact ⟨[], Sub.z, by rw [cE_second (by omega) (by omega)], rfl⟩
  have hge15 : ¬ checkD g ≠ 0 := by omega
  refine T.skip (T.s (T.s (T.rg ?_)))
  refine TO.q (q_fa underlying27 rfl inf25 rfl rfl) (TO.q (q_fa underlying25 rfl inf3 rfl rfl) (TO.q (q_lb 0 underlying3 rfl rfl rfl rfl) (TO.q (q_fa underlying27 rfl inf25 rfl rfl) ?_)))
  refine TO.q (q_fa underlying25 rfl inf3 rfl rfl) (TO.q (q_lb 0 underlying3 rfl rfl rfl rfl) (TO.q (q_neq rfl rfl) ?_))
  refine TO.nl ?_
  refine T.condP rfl (fun hc => ?_) (fun hc => ?_)
  · refine T.s ?_
    refine T.rg ?_
    refine TO.qa rfl ?_
    refine TO.nl (T.ret (Res.drop ?_))
    refine Res.one (.int .i64 7) Tryz.results9 rfl ?_
    exact ⟨[], Sub.z, by rw [cE_vars (by omega) (by omega) hc]; rfl, rfl⟩
  refine T.skip (T.s (T.rg ?_))
  refine TO.qa rfl ?_
  refine TO.nl (T.ret (Res.drop ?_))
  refine Res.one (.int .i64 0) Tryz.results9 rfl ?_
  exact ⟨[], Sub.z, by rw [cE_ok (by omega) (by omega) (Classical.not_not.1 hc)]; rfl, rfl⟩
theorem rNotE (w : World) [Tab Tryz.prog w] (a : DFA) (j : DK) (ha : At w a j) (va : Valid a) {M : DFA} (hM : notD a = M) :
    PureT Tryz.prog 85 [dV a j] w fun v N => ∃ k' : DK, v = .tuple #[dV M k', .int .i64 0] ∧ N = [dI 48 4 3 M k'] := by
  have h := refNotOk w a j ha (by have := va.n4; omega) va.bound (by have := va.fin; have := va.n4; omega) va
  rw [opV_ok (by rw [wrongD_self]; exact checkD_zero.2 va), checkD_zero.2 va, show opD notB a a = M from hM] at h
  exact h
theorem rKeep (base : World) [Tab Tryz.prog base] (L : List Lx.Item) (sb : Nat) (a : DFA) (j : DK) :
    CallT Tryz.prog base 76 [.pointer (some ⟨sb, 0, none⟩), dV a j, .int .i64 0] ([oI sb 65 [(.int .i64 0)]] ++ L) (fun v O' => v = dV a j ∧ O' = [oI sb 65 [(.int .i64 0)]] ++ L) := by
  refine CallT.enter Tryz.func76 rfl Tryz.ntmps76 rfl ?_
  refine T.s (T.rg ?_)
  refine TO.l rfl (l_box (v := (dV a j)) (cs := (dC a j)) rfl rfl (fun y1 => ?_))
  refine TO.l rfl (l_alloc inf25 rfl (fun y2 => ?_))
  refine TO.nl (T.s (T.s (T.rg ?_)))
  refine TO.qm rfl (TO.q (q_nilCheck rfl) (TO.q (q_fa underlying65 rfl inf30 rfl rfl) (TO.q (q_lb 2 underlying30 rfl rfl rfl rfl) ?_)))
  refine TO.q (QT.toB (q_eql rfl rfl) (decide_eq_true rfl)) ?_
  refine TO.nl ?_
  refine T.cond1 rfl ?_
  refine T.rg ?_
  refine TO.qm rfl (TO.qm rfl (TO.q (q_nilCheck rfl) (TO.q (q_fa underlying65 rfl inf30 rfl rfl) ?_)))
  refine TO.l rfl (l_sb (v := .int .i64 0) (vs := [(.int .i64 0)]) 2 inf30 rfl rfl rfl rfl rfl rfl (by simp [putL]) ?_)
  refine TO.nl (T.s (T.rg ?_))
  refine TO.q (q_la 1 underlying25 rfl inf25 rfl rfl rfl) ?_
  refine TO.l rfl (l_sb (v := (dV a j)) (vs := (dC a j)) 0 inf25 rfl rfl rfl rfl rfl rfl (by simp [putL]) ?_)
  refine TO.nl (T.ret (Res.drop ?_))
  refine Res.cell1 (i := 0) Tryz.results76 underlying25 rfl inf25 rfl rfl rfl ?_
  exact ⟨[oI sb 65 [(.int .i64 0)]] ++ L, (Sub.pickR [2] [oI y2 25 (dC a j), oI y1 25 (dC a j), oI sb 65 [(.int .i64 0)]] L rfl rfl), rfl, rfl⟩
theorem randM (base : World) [Tab Tryz.prog base] (L : List Lx.Item) (sb : Nat) {z a b : DFA} {p q : List Nat → Bool} (hz : Valid z) (ha : InL z a p) (hb : InL z b q) (j k : DK) (ha9 : ∀ w1, Inv base L w1 → At w1 a j) (hb9 : ∀ w1, Inv base L w1 → At w1 b k) {M : DFA} (hM : opD andB a b = M) :
    CallT Tryz.prog base 48 [.pointer (some ⟨sb, 0, none⟩), dV a j, dV b k] ([oI sb 65 [(.int .i64 0)]] ++ L) (fun v O' => ∃ k' : DK, v = dV M k' ∧ O' = [dI 48 4 3 M k', oI sb 65 [(.int .i64 0)]] ++ L) := by
  refine CallT.enter Tryz.func48 rfl Tryz.ntmps48 rfl ?_
  refine T.s (T.rg ?_)
  refine TO.l rfl (l_box (v := (dV a j)) (cs := (dC a j)) rfl rfl (fun y1 => ?_))
  refine TO.l rfl (l_box (v := (dV b k)) (cs := (dC b k)) rfl rfl (fun y2 => ?_))
  refine TO.l rfl (l_alloc inf25 rfl (fun y3 => ?_))
  refine TO.nl (T.s (T.s (T.rg ?_)))
  refine TO.qm rfl (TO.q (q_nilCheck rfl) (TO.q (q_fa underlying65 rfl inf30 rfl rfl) (TO.q (q_lb 3 underlying30 rfl rfl rfl rfl) ?_)))
  refine TO.q (QT.toB (q_neq rfl rfl) (decide_eq_false (fun h => h rfl))) ?_
  refine TO.nl ?_
  refine T.cond0 rfl ?_
  refine T.skip (T.s (T.rg ?_))
  refine TO.qm rfl (TO.q (q_la 2 underlying25 rfl inf25 rfl rfl rfl) (TO.q (q_la 1 underlying25 rfl inf25 rfl rfl rfl) ?_))
  have hk16 := fun (w1 : World) (hI : Inv base ([oI y3 25 [(.int .i64 0), (.int .i64 0), (.slice none 0 0), (.slice none 0 0)], oI y2 25 (dC b k), oI y1 25 (dC a j), oI sb 65 [(.int .i64 0)]] ++ L) w1) => (haveI := tbz hI; andBR w1 a b j k (ha9 w1 (hI.subp (Sub.appL [oI y3 25 [(.int .i64 0), (.int .i64 0), (.slice none 0 0), (.slice none 0 0)], oI y2 25 (dC b k), oI y1 25 (dC a j), oI sb 65 [(.int .i64 0)]] Sub.rf))) (hb9 w1 (hI.subp (Sub.appL [oI y3 25 [(.int .i64 0), (.int .i64 0), (.slice none 0 0), (.slice none 0 0)], oI y2 25 (dC b k), oI y1 25 (dC a j), oI sb 65 [(.int .i64 0)]] Sub.rf))) ha.has.valid hb.has.valid (by rw [ha.has.vars, hb.has.vars]) (InL.ord hz ha hb) hM)
  refine TO.l rfl (l_call ent77 (CallT.op hk16) rfl ?_)
  clear hk16
  rintro vr O' ⟨N, rfl, k', rfl, rfl⟩
  refine TO.q (q_extract (vs := _) rfl rfl) (TO.q (q_extract (vs := _) rfl rfl) ?_)
  have hk19 := CallT.under (A := [oI sb 65 [(.int .i64 0)]] ++ L) (B := [dI 48 4 3 M k', oI y3 25 [(.int .i64 0), (.int .i64 0), (.slice none 0 0), (.slice none 0 0)], oI y2 25 (dC b k), oI y1 25 (dC a j)]) (O := ([dI 48 4 3 M k', oI y3 25 [(.int .i64 0), (.int .i64 0), (.slice none 0 0), (.slice none 0 0)], oI y2 25 (dC b k), oI y1 25 (dC a j), oI sb 65 [(.int .i64 0)]] ++ L)) (rKeep base L sb M k') (Sub.tr (Sub.swap3 [oI sb 65 [(.int .i64 0)]] L [dI 48 4 3 M k', oI y3 25 [(.int .i64 0), (.int .i64 0), (.slice none 0 0), (.slice none 0 0)], oI y2 25 (dC b k), oI y1 25 (dC a j)]) (by exact Sub.pull [dI 48 4 3 M k', oI y3 25 [(.int .i64 0), (.int .i64 0), (.slice none 0 0), (.slice none 0 0)], oI y2 25 (dC b k), oI y1 25 (dC a j)] _ (.k (.k (.k (.k .rf))))))
  refine TO.l rfl (l_call ent76 hk19 rfl ?_)
  clear hk19
  rintro vr O' ⟨A1, rfl, rfl, rfl⟩
  refine TO.sub (O' := ([oI sb 65 [(.int .i64 0)], dI 48 4 3 M k', oI y3 25 [(.int .i64 0), (.int .i64 0), (.slice none 0 0), (.slice none 0 0)], oI y2 25 (dC b k), oI y1 25 (dC a j)] ++ L)) (by exact Sub.swap3 [oI sb 65 [(.int .i64 0)]] [dI 48 4 3 M k', oI y3 25 [(.int .i64 0), (.int .i64 0), (.slice none 0 0), (.slice none 0 0)], oI y2 25 (dC b k), oI y1 25 (dC a j)] L) ?_
  refine TO.l rfl (l_sb (v := (dV M k')) (vs := (dC M k')) 2 inf25 rfl rfl rfl rfl rfl rfl (by simp [putL]) ?_)
  refine TO.nl (T.ret (Res.drop ?_))
  refine Res.cell1 (i := 2) Tryz.results48 underlying25 rfl inf25 rfl rfl rfl ?_
  exact ⟨[dI 48 4 3 M k', oI sb 65 [(.int .i64 0)]] ++ L, (Sub.pickR [1, 0] [oI sb 65 [(.int .i64 0)], dI 48 4 3 M k', oI y3 25 (dC M k'), oI y2 25 (dC b k), oI y1 25 (dC a j)] L rfl rfl), k', rfl, rfl⟩
theorem rorM (base : World) [Tab Tryz.prog base] (L : List Lx.Item) (sb : Nat) {z a b : DFA} {p q : List Nat → Bool} (hz : Valid z) (ha : InL z a p) (hb : InL z b q) (j k : DK) (ha9 : ∀ w1, Inv base L w1 → At w1 a j) (hb9 : ∀ w1, Inv base L w1 → At w1 b k) {M : DFA} (hM : opD orB a b = M) :
    CallT Tryz.prog base 56 [.pointer (some ⟨sb, 0, none⟩), dV a j, dV b k] ([oI sb 65 [(.int .i64 0)]] ++ L) (fun v O' => ∃ k' : DK, v = dV M k' ∧ O' = [dI 48 4 3 M k', oI sb 65 [(.int .i64 0)]] ++ L) := by
  refine CallT.enter Tryz.func56 rfl Tryz.ntmps56 rfl ?_
  refine T.s (T.rg ?_)
  refine TO.l rfl (l_box (v := (dV a j)) (cs := (dC a j)) rfl rfl (fun y1 => ?_))
  refine TO.l rfl (l_box (v := (dV b k)) (cs := (dC b k)) rfl rfl (fun y2 => ?_))
  refine TO.l rfl (l_alloc inf25 rfl (fun y3 => ?_))
  refine TO.nl (T.s (T.s (T.rg ?_)))
  refine TO.qm rfl (TO.q (q_nilCheck rfl) (TO.q (q_fa underlying65 rfl inf30 rfl rfl) (TO.q (q_lb 3 underlying30 rfl rfl rfl rfl) ?_)))
  refine TO.q (QT.toB (q_neq rfl rfl) (decide_eq_false (fun h => h rfl))) ?_
  refine TO.nl ?_
  refine T.cond0 rfl ?_
  refine T.skip (T.s (T.rg ?_))
  refine TO.qm rfl (TO.q (q_la 2 underlying25 rfl inf25 rfl rfl rfl) (TO.q (q_la 1 underlying25 rfl inf25 rfl rfl rfl) ?_))
  have hk16 := fun (w1 : World) (hI : Inv base ([oI y3 25 [(.int .i64 0), (.int .i64 0), (.slice none 0 0), (.slice none 0 0)], oI y2 25 (dC b k), oI y1 25 (dC a j), oI sb 65 [(.int .i64 0)]] ++ L) w1) => (haveI := tbz hI; orBR w1 a b j k (ha9 w1 (hI.subp (Sub.appL [oI y3 25 [(.int .i64 0), (.int .i64 0), (.slice none 0 0), (.slice none 0 0)], oI y2 25 (dC b k), oI y1 25 (dC a j), oI sb 65 [(.int .i64 0)]] Sub.rf))) (hb9 w1 (hI.subp (Sub.appL [oI y3 25 [(.int .i64 0), (.int .i64 0), (.slice none 0 0), (.slice none 0 0)], oI y2 25 (dC b k), oI y1 25 (dC a j), oI sb 65 [(.int .i64 0)]] Sub.rf))) ha.has.valid hb.has.valid (by rw [ha.has.vars, hb.has.vars]) (InL.ord hz ha hb) hM)
  refine TO.l rfl (l_call ent77 (CallT.op hk16) rfl ?_)
  clear hk16
  rintro vr O' ⟨N, rfl, k', rfl, rfl⟩
  refine TO.q (q_extract (vs := _) rfl rfl) (TO.q (q_extract (vs := _) rfl rfl) ?_)
  have hk19 := CallT.under (A := [oI sb 65 [(.int .i64 0)]] ++ L) (B := [dI 48 4 3 M k', oI y3 25 [(.int .i64 0), (.int .i64 0), (.slice none 0 0), (.slice none 0 0)], oI y2 25 (dC b k), oI y1 25 (dC a j)]) (O := ([dI 48 4 3 M k', oI y3 25 [(.int .i64 0), (.int .i64 0), (.slice none 0 0), (.slice none 0 0)], oI y2 25 (dC b k), oI y1 25 (dC a j), oI sb 65 [(.int .i64 0)]] ++ L)) (rKeep base L sb M k') (Sub.tr (Sub.swap3 [oI sb 65 [(.int .i64 0)]] L [dI 48 4 3 M k', oI y3 25 [(.int .i64 0), (.int .i64 0), (.slice none 0 0), (.slice none 0 0)], oI y2 25 (dC b k), oI y1 25 (dC a j)]) (by exact Sub.pull [dI 48 4 3 M k', oI y3 25 [(.int .i64 0), (.int .i64 0), (.slice none 0 0), (.slice none 0 0)], oI y2 25 (dC b k), oI y1 25 (dC a j)] _ (.k (.k (.k (.k .rf))))))
  refine TO.l rfl (l_call ent76 hk19 rfl ?_)
  clear hk19
  rintro vr O' ⟨A1, rfl, rfl, rfl⟩
  refine TO.sub (O' := ([oI sb 65 [(.int .i64 0)], dI 48 4 3 M k', oI y3 25 [(.int .i64 0), (.int .i64 0), (.slice none 0 0), (.slice none 0 0)], oI y2 25 (dC b k), oI y1 25 (dC a j)] ++ L)) (by exact Sub.swap3 [oI sb 65 [(.int .i64 0)]] [dI 48 4 3 M k', oI y3 25 [(.int .i64 0), (.int .i64 0), (.slice none 0 0), (.slice none 0 0)], oI y2 25 (dC b k), oI y1 25 (dC a j)] L) ?_
  refine TO.l rfl (l_sb (v := (dV M k')) (vs := (dC M k')) 2 inf25 rfl rfl rfl rfl rfl rfl (by simp [putL]) ?_)
  refine TO.nl (T.ret (Res.drop ?_))
  refine Res.cell1 (i := 2) Tryz.results56 underlying25 rfl inf25 rfl rfl rfl ?_
  exact ⟨[dI 48 4 3 M k', oI sb 65 [(.int .i64 0)]] ++ L, (Sub.pickR [1, 0] [oI sb 65 [(.int .i64 0)], dI 48 4 3 M k', oI y3 25 (dC M k'), oI y2 25 (dC b k), oI y1 25 (dC a j)] L rfl rfl), k', rfl, rfl⟩
theorem rnotM (base : World) [Tab Tryz.prog base] (L : List Lx.Item) (sb : Nat) {a : DFA} (ha : Valid a) (j : DK) (ha9 : ∀ w1, Inv base L w1 → At w1 a j) {M : DFA} (hM : notD a = M) :
    CallT Tryz.prog base 58 [.pointer (some ⟨sb, 0, none⟩), dV a j] ([oI sb 65 [(.int .i64 0)]] ++ L) (fun v O' => ∃ k' : DK, v = dV M k' ∧ O' = [dI 48 4 3 M k', oI sb 65 [(.int .i64 0)]] ++ L) := by
  refine CallT.enter Tryz.func58 rfl Tryz.ntmps58 rfl ?_
  refine T.s (T.rg ?_)
  refine TO.l rfl (l_box (v := (dV a j)) (cs := (dC a j)) rfl rfl (fun y1 => ?_))
  refine TO.l rfl (l_alloc inf25 rfl (fun y2 => ?_))
  refine TO.nl (T.s (T.s (T.rg ?_)))
  refine TO.qm rfl (TO.q (q_nilCheck rfl) (TO.q (q_fa underlying65 rfl inf30 rfl rfl) (TO.q (q_lb 2 underlying30 rfl rfl rfl rfl) ?_)))
  refine TO.q (QT.toB (q_neq rfl rfl) (decide_eq_false (fun h => h rfl))) ?_
  refine TO.nl ?_
  refine T.cond0 rfl ?_
  refine T.skip (T.s (T.rg ?_))
  refine TO.qm rfl (TO.q (q_la 1 underlying25 rfl inf25 rfl rfl rfl) ?_)
  have hk13 := fun (w1 : World) (hI : Inv base ([oI y2 25 [(.int .i64 0), (.int .i64 0), (.slice none 0 0), (.slice none 0 0)], oI y1 25 (dC a j), oI sb 65 [(.int .i64 0)]] ++ L) w1) => (haveI := tbz hI; rNotE w1 a j (ha9 w1 (hI.subp (Sub.appL [oI y2 25 [(.int .i64 0), (.int .i64 0), (.slice none 0 0), (.slice none 0 0)], oI y1 25 (dC a j), oI sb 65 [(.int .i64 0)]] Sub.rf))) ha hM)
  refine TO.l rfl (l_call ent85 (CallT.op hk13) rfl ?_)
  clear hk13
  rintro vr O' ⟨N, rfl, k', rfl, rfl⟩
  refine TO.q (q_extract (vs := _) rfl rfl) (TO.q (q_extract (vs := _) rfl rfl) ?_)
  have hk16 := CallT.under (A := [oI sb 65 [(.int .i64 0)]] ++ L) (B := [dI 48 4 3 M k', oI y2 25 [(.int .i64 0), (.int .i64 0), (.slice none 0 0), (.slice none 0 0)], oI y1 25 (dC a j)]) (O := ([dI 48 4 3 M k', oI y2 25 [(.int .i64 0), (.int .i64 0), (.slice none 0 0), (.slice none 0 0)], oI y1 25 (dC a j), oI sb 65 [(.int .i64 0)]] ++ L)) (rKeep base L sb M k') (Sub.tr (Sub.swap3 [oI sb 65 [(.int .i64 0)]] L [dI 48 4 3 M k', oI y2 25 [(.int .i64 0), (.int .i64 0), (.slice none 0 0), (.slice none 0 0)], oI y1 25 (dC a j)]) (by exact Sub.pull [dI 48 4 3 M k', oI y2 25 [(.int .i64 0), (.int .i64 0), (.slice none 0 0), (.slice none 0 0)], oI y1 25 (dC a j)] _ (.k (.k (.k .rf)))))
  refine TO.l rfl (l_call ent76 hk16 rfl ?_)
  clear hk16
  rintro vr O' ⟨A1, rfl, rfl, rfl⟩
  refine TO.sub (O' := ([oI sb 65 [(.int .i64 0)], dI 48 4 3 M k', oI y2 25 [(.int .i64 0), (.int .i64 0), (.slice none 0 0), (.slice none 0 0)], oI y1 25 (dC a j)] ++ L)) (by exact Sub.swap3 [oI sb 65 [(.int .i64 0)]] [dI 48 4 3 M k', oI y2 25 [(.int .i64 0), (.int .i64 0), (.slice none 0 0), (.slice none 0 0)], oI y1 25 (dC a j)] L) ?_
  refine TO.l rfl (l_sb (v := (dV M k')) (vs := (dC M k')) 2 inf25 rfl rfl rfl rfl rfl rfl (by simp [putL]) ?_)
  refine TO.nl (T.ret (Res.drop ?_))
  refine Res.cell1 (i := 2) Tryz.results58 underlying25 rfl inf25 rfl rfl rfl ?_
  exact ⟨[dI 48 4 3 M k', oI sb 65 [(.int .i64 0)]] ++ L, (Sub.pickR [1, 0] [oI sb 65 [(.int .i64 0)], dI 48 4 3 M k', oI y2 25 (dC M k'), oI y1 25 (dC a j)] L rfl rfl), k', rfl, rfl⟩
theorem rminusM (base : World) [Tab Tryz.prog base] (L : List Lx.Item) (sb : Nat) {z a b : DFA} {p q : List Nat → Bool} (hz : Valid z) (ha : InL z a p) (hb : InL z b q) (j k : DK) (ha9 : ∀ w1, Inv base L w1 → At w1 a j) (hb9 : ∀ w1, Inv base L w1 → At w1 b k) {M : DFA} (hM : opD minusB a b = M) :
    CallT Tryz.prog base 47 [.pointer (some ⟨sb, 0, none⟩), dV a j, dV b k] ([oI sb 65 [(.int .i64 0)]] ++ L) (fun v O' => ∃ k' : DK, v = dV M k' ∧ O' = [dI 48 4 3 M k', oI sb 65 [(.int .i64 0)]] ++ L) := by
  refine CallT.enter Tryz.func47 rfl Tryz.ntmps47 rfl ?_
  have hbb := hb.bds
  have hb4 := hb.has.valid.n4
  have hbf := hb.has.valid.fin
  refine T.s (T.rg ?_)
  refine TO.l rfl (l_box (v := (dV a j)) (cs := (dC a j)) rfl rfl (fun y1 => ?_))
  refine TO.l rfl (l_box (v := (dV b k)) (cs := (dC b k)) rfl rfl (fun y2 => ?_))
  refine TO.l rfl (l_alloc inf25 rfl (fun y3 => ?_))
  refine TO.nl (T.s (T.s (T.rg ?_)))
  refine TO.qm rfl (TO.q (q_nilCheck rfl) (TO.q (q_fa underlying65 rfl inf30 rfl rfl) (TO.q (q_lb 3 underlying30 rfl rfl rfl rfl) ?_)))
  refine TO.q (QT.toB (q_neq rfl rfl) (decide_eq_false (fun h => h rfl))) ?_
  refine TO.nl ?_
  refine T.cond0 rfl ?_
  refine T.skip (T.s (T.rg ?_))
  refine TO.q (q_la 1 underlying25 rfl inf25 rfl rfl rfl) ?_
  refine TO.l rfl (l_alloc inf25 rfl (fun y4 => ?_))
  refine TO.l rfl (l_sb (v := (dV b k)) (vs := (dC b k)) 0 inf25 rfl rfl rfl rfl rfl rfl (by simp [putL]) ?_)
  refine TO.nl (T.s (T.rg ?_))
  refine TO.q (q_fa underlying25 rfl inf23 rfl rfl) ?_
  refine TO.l rfl (l_sb (v := (.slice none 0 0)) (vs := [(.slice none 0 0)]) 0 inf23 rfl rfl rfl rfl rfl rfl (by simp [putL]) ?_)
  refine TO.nl (T.s (T.s (T.rg ?_)))
  refine TO.qa rfl ?_
  refine TO.nl (T.block ?_)
  refine T.nilRow 4 1 ?_
  refine T.sub (O' := ([rowI none 0 4 1 (bools ((b.final.take 0).map (!·))), oI y4 25 [(.int .i64 b.vars), (.int .i64 b.start), (.slice k.nb b.next.length k.nc), (.slice none 0 0)], oI y3 25 [(.int .i64 0), (.int .i64 0), (.slice none 0 0), (.slice none 0 0)], oI y2 25 (dC b k), oI y1 25 (dC a j), oI sb 65 [(.int .i64 0)]] ++ L)) (by exact Sub.rf) ?_
  refine T.loopS (fun (s : Nat) ρ O => ∃ (fb : Option Addr) (fc : Nat), O = ([rowI fb fc 4 1 (bools ((b.final.take s).map (!·))), oI y4 25 [(.int .i64 b.vars), (.int .i64 b.start), (.slice k.nb b.next.length k.nc), (.slice fb s fc)], oI y3 25 [(.int .i64 0), (.int .i64 0), (.slice none 0 0), (.slice none 0 0)], oI y2 25 (dC b k), oI y1 25 (dC a j), oI sb 65 [(.int .i64 0)]] ++ L) ∧ s ≤ b.final.length ∧ Heads [(0, (.pointer (some ⟨sb, 0, none⟩))), (1, (dV a j)), (2, (dV b k)), (4, (.pointer (some ⟨y1, 0, none⟩))), (5, (.pointer (some ⟨y2, 0, none⟩))), (6, (.pointer (some ⟨y3, 0, none⟩))), (7, (.pointer (some ⟨y4, 0, none⟩))), (8, .int .i64 ((s : Nat) : Int))] ρ) (fun s => b.final.length - s) 0 ?_ ?_
  · exact ⟨none, 0, rfl, Nat.zero_le _, ⟨rfl, rfl, rfl, rfl, rfl, rfl, rfl, rfl, trivial⟩⟩
  rintro s ρ O ⟨fb, fc, rfl, hs, hH⟩
  obtain ⟨ρ0, rfl⟩ := hH.elim
  clear hH
  refine T.s (T.s (T.rg ?_))
  refine TO.qm rfl (TO.q (q_fa underlying25 rfl inf23 rfl rfl) (TO.q (q_lb 3 underlying23 rfl rfl rfl rfl) (TO.q (q_len underlying23 rfl) ?_)))
  refine TO.q (q_lss rfl rfl) ?_
  refine TO.nl ?_
  refine T.condP rfl (fun hc => ?_) (fun hc => ?_)
  · have hlt21 : s < b.final.length := by omega
    refine T.skip (T.s (T.block ?_))
    refine T.draws _ [(0, 0), (1, 0), (2, 0), (3, 0), (4, 0), (5, 0), (6, 0), (7, 0), (8, 1), (9, 2), (10, 2), (11, 2)] mixed (drawF_ok (by kernel_rfl)) (Sub.of (List.Sublist.refl _)) (fun _ _ _ h => h) ?_
    refine DO.q rfl (q_fa underlying25 rfl inf23 rfl rfl) (DO.q rfl (q_lb 1 underlying23 rfl rfl rfl rfl) (DO.q rfl (q_fa underlying25 rfl inf23 rfl rfl) (DO.q rfl (q_lb 3 underlying23 rfl rfl rfl rfl) ?_)))
    refine DO.q rfl (q_move rfl) (DO.q rfl (q_ix (i := s) underlying23 inf4 rfl rfl (fun w1 (hI : Inv base _ w1) => haveI := tbz hI; (hb9 w1 (hI.subp (Sub.appL _ Sub.rf))).final) hlt21 (by rw [List.length_map]; exact hlt21)) (DO.q rfl (q_ld underlying4 rfl rfl (fun w1 (hI : Inv base _ w1) => haveI := tbz hI; (hb9 w1 (hI.subp (Sub.appL _ Sub.rf))).final) (bools_get hlt21)) (DO.q rfl (q_not rfl) ?_)))
    refine DO.loud rfl rfl (l_build1 (v := .bool (!b.final[s])) underlying23 inf4 rfl rfl rfl (fun y5 => ⟨by exact Sub.d (.k (.k (.k (.k (.k (.k .rf)))))), ?_⟩))
    refine DO.last rfl rfl (l_append 1 underlying23 underlying23 inf4 rfl rfl rfl rfl (by rw [List.length_map, List.length_map, List.length_take]; omega) (by decide) (Src.row (j := 0) rfl (by simp)) (by simp [oneB]) (by omega) (by decide) (by decide) (fun y6 yc7 => ?_))
    refine DO.last rfl rfl (LT.oq rfl rfl (q_fa underlying25 rfl inf23 rfl rfl) ?_)
    refine DO.last rfl rfl (l_sb (v := (.slice y6 (s + 1) yc7)) (vs := [(.slice y6 (s + 1) yc7)]) 2 inf23 rfl rfl rfl rfl rfl rfl (by simp [putL]) ?_)
    refine DO.done ?_
    refine T.rg ?_
    refine TO.qm rfl (TO.q (q_addN (a := s) (b := 1) rfl rfl (by omega)) (TO.qa rfl ?_))
    refine TO.nl ?_
    have hst : bools ((b.final.take (s + 1)).map (!·)) = bools ((b.final.take s).map (!·)) ++ [.bool (!b.final[s])] := by rw [List.take_succ_eq_append_getElem hlt21, List.map_append]; exact List.map_append
    exact ⟨s + 1, by omega, ([rowI y6 yc7 4 1 ((bools ((b.final.take s).map (!·))) ++ [.bool (!b.final[s])]), oI y4 25 [(.int .i64 b.vars), (.int .i64 b.start), (.slice k.nb b.next.length k.nc), (.slice y6 (s + 1) yc7)], oI y3 25 [(.int .i64 0), (.int .i64 0), (.slice none 0 0), (.slice none 0 0)], oI y2 25 (dC b k), oI y1 25 (dC a j), oI sb 65 [(.int .i64 0)]] ++ L), (by exact Sub.d (.k (.k (.k (.k (.k (.k .rf))))))), y6, yc7, by rw [hst], by omega, ⟨rfl, rfl, rfl, rfl, rfl, rfl, rfl, rfl, trivial⟩⟩
  have hge21 : ¬ s < b.final.length := by omega
  refine T.exit ?_
  refine T.s ?_
  have hse : s = b.final.length := by omega
  obtain ⟨W, hW⟩ : ∃ W, W = flipD b := ⟨_, rfl⟩
  have e2 : (b.final.take s).map (!·) = W.final := by rw [hW, hse, List.take_length]; rfl
  have e3 : W.vars = b.vars := by rw [hW]; rfl
  have e4 : W.start = b.start := by rw [hW]; rfl
  have e5 : W.next = b.next := by rw [hW]; rfl
  have e6 : W.final.length = s := by rw [← e2]; simp; omega
  have hWI : InL z W (fun w => !q w) := by rw [hW]; exact hb.flip
  have hMW : opD andB a W = M := by rw [hW, minus_flip hz ha hb]; exact hM
  obtain ⟨z9, hz9⟩ : ∃ z : DK, z = ⟨k.nb, k.nc, fb, fc, k.qs⟩ := ⟨_, rfl⟩
  have hAW : ∀ w1, Inv base ([rowI fb fc 4 1 (bools W.final)] ++ L) w1 → At w1 W z9 := fun w1 hI => by
    have h1 := hb9 w1 (hI.subp (Sub.appL _ Sub.rf))
    subst hz9
    exact ⟨h1.outer, by rw [e5]; exact h1.rows, hI.slOf (List.mem_append_left _ (List.mem_cons_self ..))⟩
  refine T.sub (O' := ([rowI fb fc 4 1 (bools W.final), oI y4 25 (dC W z9), oI y3 25 [(.int .i64 0), (.int .i64 0), (.slice none 0 0), (.slice none 0 0)], oI y2 25 (dC b k), oI y1 25 (dC a j), oI sb 65 [(.int .i64 0)]] ++ L)) (by subst hz9; unfold dC dfaCells; rw [e3, e4, e5, e6, ← e2]; exact Sub.rf) ?_
  refine T.rg ?_
  refine TO.qm rfl (TO.q (q_la 4 underlying25 rfl inf25 rfl rfl rfl) (TO.q (q_la 1 underlying25 rfl inf25 rfl rfl rfl) ?_))
  have hk38 := CallT.under (A := [oI sb 65 [(.int .i64 0)], rowI fb fc 4 1 (bools W.final)] ++ L) (B := [oI y4 25 (dC W z9), oI y3 25 [(.int .i64 0), (.int .i64 0), (.slice none 0 0), (.slice none 0 0)], oI y2 25 (dC b k), oI y1 25 (dC a j)]) (O := ([rowI fb fc 4 1 (bools W.final), oI y4 25 (dC W z9), oI y3 25 [(.int .i64 0), (.int .i64 0), (.slice none 0 0), (.slice none 0 0)], oI y2 25 (dC b k), oI y1 25 (dC a j), oI sb 65 [(.int .i64 0)]] ++ L)) (randM base ([rowI fb fc 4 1 (bools W.final)] ++ L) sb hz ha hWI j z9 (fun w1 hI => haveI := tbz hI; ha9 w1 (hI.subp (Sub.appL _ Sub.rf))) hAW hMW) (Sub.tr (Sub.swap3 [oI sb 65 [(.int .i64 0)], rowI fb fc 4 1 (bools W.final)] L [oI y4 25 (dC W z9), oI y3 25 [(.int .i64 0), (.int .i64 0), (.slice none 0 0), (.slice none 0 0)], oI y2 25 (dC b k), oI y1 25 (dC a j)]) (by exact Sub.pull [rowI fb fc 4 1 (bools W.final), oI y4 25 (dC W z9), oI y3 25 [(.int .i64 0), (.int .i64 0), (.slice none 0 0), (.slice none 0 0)], oI y2 25 (dC b k), oI y1 25 (dC a j)] _ (.k (.k (.k (.k (.k .rf)))))))
  refine TO.l rfl (l_call ent48 hk38 rfl ?_)
  clear hk38
  rintro vr O' ⟨A1, rfl, k', rfl, rfl⟩
  refine TO.sub (O' := ([dI 48 4 3 M k', oI sb 65 [(.int .i64 0)], rowI fb fc 4 1 (bools W.final), oI y4 25 (dC W z9), oI y3 25 [(.int .i64 0), (.int .i64 0), (.slice none 0 0), (.slice none 0 0)], oI y2 25 (dC b k), oI y1 25 (dC a j)] ++ L)) (by exact Sub.swap3 [dI 48 4 3 M k', oI sb 65 [(.int .i64 0)], rowI fb fc 4 1 (bools W.final)] [oI y4 25 (dC W z9), oI y3 25 [(.int .i64 0), (.int .i64 0), (.slice none 0 0), (.slice none 0 0)], oI y2 25 (dC b k), oI y1 25 (dC a j)] L) ?_
  refine TO.l rfl (l_sb (v := (dV M k')) (vs := (dC M k')) 4 inf25 rfl rfl rfl rfl rfl rfl (by simp [putL]) ?_)
  refine TO.nl (T.ret (Res.drop ?_))
  refine Res.cell1 (i := 4) Tryz.results47 underlying25 rfl inf25 rfl rfl rfl ?_
  exact ⟨[dI 48 4 3 M k', oI sb 65 [(.int .i64 0)]] ++ L, (Sub.pickR [0, 0] [dI 48 4 3 M k', oI sb 65 [(.int .i64 0)], rowI fb fc 4 1 (bools W.final), oI y4 25 (dC W z9), oI y3 25 (dC M k'), oI y2 25 (dC b k), oI y1 25 (dC a j)] L rfl rfl), k', rfl, rfl⟩
end Go.Proofs.YtnpehjpookcfkaaGreatDoor

