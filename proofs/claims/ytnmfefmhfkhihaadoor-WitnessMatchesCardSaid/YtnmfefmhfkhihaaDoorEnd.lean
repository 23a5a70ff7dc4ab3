/- Contracts of functions of the program (W8, W9, Close, End): what each call answers and that it leaves memory as it was. Conditions: those each theorem names. -/
import Derived.Test.YtnmfefmhfkhihaaDoorDK
import Derived.Test.YtnmfefmhfkhihaaDoorFacts
import Derived.Test.YtnmfefmhfkhihaaDoorW1
import Derived.Test.YtnmfefmhfkhihaaDoorR12
import Derived.Test.YtnmfefmhfkhihaaDoorCz
import Derived.OpenShut
import Derived.Deep.DeepHandedRow
import Derived.Deep.Matrix
import Derived.Deep.Grids
import Derived.WideKeyArgs
import Derived.SizedLaws
import Derived.Test.YtnmfefmhfkhihaaDoorCards
import Derived.Test.YtnmfefmhfkhihaaDoorTie
import Derived.WalkKit
import Derived.ProofKit
import Derived.Lib.LaidTab
set_option linter.unusedSectionVars false
set_option linter.unusedSimpArgs false
set_option linter.unusedVariables false
set_option linter.unnecessarySimpa false
namespace Go.Proofs.YtnmfefmhfkhihaaDoor
open Go.Lx Go.RowKit
set_option linter.unusedVariables false
set_option linter.unusedSimpArgs false
set_option maxHeartbeats 8000000 in
set_option maxRecDepth 20000 in
theorem countsC (w : World) [Tab Tryd.prog w] (a : DFA) (k : DK) (ha : At w a k) (hv : Valid a) (n : Nat) (lim : Bool) (hn : n ≤ 64) :
    PureT Tryd.prog 41 [dV a k, .int .i64 ((n : Nat) : Int), .bool lim] w fun v N => ∃ b : Nat, v = .slice (some ⟨b, 0, none⟩) a.next.length a.next.length ∧ N = [rowI (some ⟨b, 0, none⟩) a.next.length 26 1 (uns (cntL lim a n))] := by
  refine CallT.enter Tryd.func41 rfl Tryd.ntmps41 rfl ?_
  have he := checkD_zero.2 hv
  have h4 := hv.n4
  have hww : letN a ≤ 64 := hv.width
  have hfin := hv.fin
  have hvl := ha.rows.1
  have hsl := start_lt hv.toVal
  have hs0 := hv.s0
  have hs1 := hv.s1
  refine T.seq (T.region ?_)
  refine TO.loud rfl (l_box (v := (dV a k)) (cs := (dC a k)) rfl rfl (fun z1 => ?_))
  refine TO.quiet (q_assign rfl) ?_
  refine TO.nil (T.seq (T.region ?_))
  refine TO.quiet (q_fieldAddr Tryd.underlying25 rfl inf22 rfl rfl) (TO.quiet (q_load_box 0 Tryd.underlying22 rfl rfl rfl rfl) (TO.quiet (q_len Tryd.underlying22 rfl) ?_))
  refine TO.loud rfl (l_makeSlice (m := a.next.length) Tryd.underlying62 inf26 rfl rfl (by omega) (by omega) (fun z2 => ?_))
  refine TO.quiet (q_assign rfl) ?_
  refine TO.nil (T.seq (T.seq (T.region ?_)))
  refine TO.quiet (q_assign rfl) ?_
  refine TO.nil (T.block ?_)
  refine T.loop (fun (s : Nat) ρ O => O = [rowI (some ⟨z2, 0, none⟩) a.next.length 26 1 (uns (tab0 a s)), oI z1 25 (dC a k)] ∧ s ≤ a.next.length ∧ Heads [(0, (dV a k)), (1, .int .i64 ((n : Nat) : Int)), (2, .bool lim), (3, (.pointer (some ⟨z1, 0, none⟩))), (6, (.slice none 0 0)), (7, (.slice (some ⟨z2, 0, none⟩) a.next.length a.next.length)), (8, .int .i64 ((s : Nat) : Int))] ρ) (fun s => a.next.length - s) 0 ?_ ?_
  · exact ⟨by rw [tab0_zero], Nat.zero_le _, ⟨rfl, rfl, rfl, rfl, rfl, rfl, rfl, trivial⟩⟩
  rintro s ρ O ⟨rfl, hs, hH⟩
  obtain ⟨ρ0, rfl⟩ := hH.elim
  clear hH
  refine T.seq (T.seq (T.region ?_))
  refine TO.quiet (q_move rfl) (TO.quiet (q_move rfl) (TO.quiet (q_len Tryd.underlying62 rfl) (TO.quiet (q_lss rfl rfl) ?_)))
  refine TO.nil ?_
  refine T.condP rfl (fun hc => ?_) (fun hc => ?_)
  · have hlt20 : s < a.next.length := by omega
    refine T.skip (T.seq (T.block (T.seq (T.region ?_))))
    refine TO.quiet (q_fieldAddr Tryd.underlying25 rfl inf23 rfl rfl) (TO.quiet (q_load_box 1 Tryd.underlying23 rfl rfl rfl rfl) (TO.quiet (q_move rfl) (TO.quiet (q_ix (i := s) Tryd.underlying23 inf4 rfl rfl (Sl.o ha.final) (by omega) (by rw [List.length_map]; omega)) ?_)))
    refine TO.quiet (q_ld Tryd.underlying4 rfl rfl (Sl.o ha.final) (bools_get (by omega))) ?_
    refine TO.nil ?_
    refine T.cond rfl (fun hc => ?_) (fun hc => ?_)
    · have hfn : finN a s = true := by rw [← hc]; simp [finN, show s < a.final.length by omega]
      refine T.region ?_
      refine TO.quiet (q_move rfl) (TO.quiet (q_move rfl) (TO.quiet (q_ix (i := s) Tryd.underlying62 inf26 rfl rfl (rowO (List.mem_of_getElem? (i := 0) rfl)) hlt20 (by rw [List.length_map, tab0_len]; omega)) ?_))
      refine TO.loud rfl (l_st (j := s) (v := .int .u64 1) (vs := [(.int .u64 1)]) (cs := uns (tab0 a s)) 0 inf26 rfl rfl rfl rfl rfl (by simp) rfl (by rw [List.length_map, tab0_len]; simp; omega) ?_)
      refine TO.sub (O' := [rowI (some ⟨z2, 0, none⟩) a.next.length 26 1 (uns ((tab0 a s).set s 1)), oI z1 25 (dC a k)]) (by rw [show putL (uns (tab0 a s)) s [(.int .u64 1)] = uns ((tab0 a s).set s 1) from by simp [putL]]; exact Sub.of (List.Sublist.refl _)) ?_
      refine TO.nil (T.region ?_)
      refine TO.quiet (q_move rfl) (TO.quiet (q_addN (a := s) (b := 1) rfl rfl (by omega)) (TO.quiet (q_assign rfl) ?_))
      refine TO.nil ?_
      exact ⟨s + 1, by omega, by rw [tab0_yes hlt20 hfn], by omega, ⟨rfl, rfl, rfl, rfl, rfl, rfl, rfl, trivial⟩⟩
    have hfn : finN a s = false := by rw [← hc]; simp [finN, show s < a.final.length by omega]
    refine T.skip (T.region ?_)
    refine TO.quiet (q_move rfl) (TO.quiet (q_addN (a := s) (b := 1) rfl rfl (by omega)) (TO.quiet (q_assign rfl) ?_))
    refine TO.nil ?_
    exact ⟨s + 1, by omega, by rw [← tab0_no hfn], by omega, ⟨rfl, rfl, rfl, rfl, rfl, rfl, rfl, trivial⟩⟩
  have hge20 : ¬ s < a.next.length := by omega
  refine T.exit ?_
  refine T.seq (T.seq (T.region ?_))
  refine TO.quiet (q_assign rfl) ?_
  refine TO.nil (T.block ?_)
  have hse : s = a.next.length := by omega
  refine T.loopS (fun (i : Nat) ρ O => ∃ (pb : Nat), O = [rowI (some ⟨pb, 0, none⟩) a.next.length 26 1 (uns (cntL lim a i)), oI z1 25 (dC a k)] ∧ i ≤ n ∧ Heads [(0, (dV a k)), (1, .int .i64 ((n : Nat) : Int)), (2, .bool lim), (3, (.pointer (some ⟨z1, 0, none⟩))), (6, (.slice none 0 0)), (7, (.slice (some ⟨pb, 0, none⟩) a.next.length a.next.length)), (8, .int .i64 ((s : Nat) : Int)), (9, .int .i64 ((i : Nat) : Int))] ρ) (fun i => n - i) 0 ?_ ?_
  · exact ⟨z2, by rw [hse, cntL_zero lim a], Nat.zero_le _, ⟨rfl, rfl, rfl, rfl, rfl, rfl, rfl, rfl, trivial⟩⟩
  rintro i ρ O ⟨pb, rfl, hin, hH⟩
  obtain ⟨ρ0, rfl⟩ := hH.elim
  clear hH
  refine T.seq (T.seq (T.region ?_))
  refine TO.quiet (q_move rfl) (TO.quiet (q_move rfl) (TO.quiet (q_lss rfl rfl) ?_))
  refine TO.nil ?_
  refine T.condP rfl (fun hc => ?_) (fun hc => ?_)
  · have hlt33 : i < n := by omega
    refine T.skip (T.seq (T.block (T.seq (T.region ?_))))
    refine TO.quiet (q_move rfl) (TO.quiet (q_len Tryd.underlying62 rfl) ?_)
    refine TO.loud rfl (l_makeSlice (m := a.next.length) Tryd.underlying62 inf26 rfl rfl (by omega) (by omega) (fun z3 => ?_))
    refine TO.quiet (q_assign rfl) ?_
    refine TO.nil (T.seq (T.seq (T.region ?_)))
    refine TO.quiet (q_assign rfl) ?_
    refine TO.nil (T.block ?_)
    refine T.loop (fun (s2 : Nat) ρ O => O = [rowI (some ⟨z3, 0, none⟩) a.next.length 26 1 (uns (cntX lim a i s2 0)), rowI (some ⟨pb, 0, none⟩) a.next.length 26 1 (uns (cntL lim a i)), oI z1 25 (dC a k)] ∧ s2 ≤ a.next.length ∧ Heads [(0, (dV a k)), (1, .int .i64 ((n : Nat) : Int)), (2, .bool lim), (3, (.pointer (some ⟨z1, 0, none⟩))), (6, (.slice none 0 0)), (7, (.slice (some ⟨pb, 0, none⟩) a.next.length a.next.length)), (8, .int .i64 ((s : Nat) : Int)), (9, .int .i64 ((i : Nat) : Int)), (10, (.slice (some ⟨z3, 0, none⟩) a.next.length a.next.length)), (11, .int .i64 ((s2 : Nat) : Int))] ρ) (fun s2 => a.next.length - s2) 0 ?_ ?_
    · exact ⟨by rw [cntX_zero], Nat.zero_le _, ⟨rfl, rfl, rfl, rfl, rfl, rfl, rfl, rfl, rfl, rfl, trivial⟩⟩
    rintro s2 ρ O ⟨rfl, hs2, hH⟩
    obtain ⟨ρ0, rfl⟩ := hH.elim
    clear hH
    refine T.seq (T.seq (T.region ?_))
    refine TO.quiet (q_move rfl) (TO.quiet (q_move rfl) (TO.quiet (q_len Tryd.underlying62 rfl) (TO.quiet (q_lss rfl rfl) ?_)))
    refine TO.nil ?_
    refine T.condP rfl (fun hc => ?_) (fun hc => ?_)
    · have hlt42 : s2 < a.next.length := by omega
      refine T.skip (T.seq (T.block (T.seq (T.region ?_))))
      refine TO.quiet (q_assign rfl) ?_
      refine TO.nil (T.block ?_)
      obtain ⟨v1, c1, g1, s1⟩ := ha.rows.get hlt42
      have hl1 : a.next[s2].length = letN a := hv.len _ (List.getElem_mem hlt42)
      refine T.loop (fun (x : Nat) ρ O => O = [rowI (some ⟨z3, 0, none⟩) a.next.length 26 1 (uns (cntX lim a i s2 x)), rowI (some ⟨pb, 0, none⟩) a.next.length 26 1 (uns (cntL lim a i)), oI z1 25 (dC a k)] ∧ x ≤ letN a ∧ Heads [(0, (dV a k)), (1, .int .i64 ((n : Nat) : Int)), (2, .bool lim), (3, (.pointer (some ⟨z1, 0, none⟩))), (6, (.slice none 0 0)), (7, (.slice (some ⟨pb, 0, none⟩) a.next.length a.next.length)), (8, .int .i64 ((s : Nat) : Int)), (9, .int .i64 ((i : Nat) : Int)), (10, (.slice (some ⟨z3, 0, none⟩) a.next.length a.next.length)), (11, .int .i64 ((s2 : Nat) : Int)), (12, .int .i64 ((x : Nat) : Int))] ρ) (fun x => letN a - x) 0 ?_ ?_
      · exact ⟨rfl, Nat.zero_le _, ⟨rfl, rfl, rfl, rfl, rfl, rfl, rfl, rfl, rfl, rfl, rfl, trivial⟩⟩
      rintro x ρ O ⟨rfl, hx, hH⟩
      obtain ⟨ρ0, rfl⟩ := hH.elim
      clear hH
      refine T.seq (T.seq (T.region ?_))
      refine TO.quiet (q_move rfl) (TO.quiet (q_fieldAddr Tryd.underlying25 rfl inf22 rfl rfl) (TO.quiet (q_load_box 2 Tryd.underlying22 rfl rfl rfl rfl) (TO.quiet (q_move rfl) ?_)))
      refine TO.quiet (q_ix (i := s2) Tryd.underlying22 inf41 rfl rfl (Sl.o ha.outer) hlt42 (hvl ▸ hlt42)) (TO.quiet (q_ld Tryd.underlying41 rfl rfl (Sl.o ha.outer) g1) (TO.quiet (q_len Tryd.underlying41 rfl) (TO.quiet (q_lss rfl rfl) ?_)))
      refine TO.nil ?_
      refine T.condP rfl (fun hc => ?_) (fun hc => ?_)
      · have hlt52 : x < a.next[s2].length := by omega
        have hxl : x < letN a := by omega
        obtain ⟨hto, _, hxk1, hx1⟩ := hv.toN_lt hlt42 hxl
        have hx1 : (ints a.next[s2])[x]? = some (.int .i64 ((toN a s2 x : Nat) : Int)) := by rw [ints_get hxk1, hx1]
        refine T.skip (T.seq (T.block (T.seq ?_)))
        refine T.draws _ [(0, 0), (1, 0), (2, 0), (3, 0), (4, 0), (5, 0), (6, 0), (7, 0), (8, 0), (9, 0), (10, 0), (11, 0), (12, 0), (13, 0), (14, 0), (15, 0), (16, 0), (17, 0), (18, 0), (19, 2)] mixed (drawF_ok (by kernel_rfl)) (Sub.of (List.Sublist.refl _)) (fun _ _ _ h => h) ?_
        refine DO.quiet rfl (q_move rfl) (DO.quiet rfl (q_move rfl) (DO.quiet rfl (q_move rfl) (DO.quiet rfl (q_move rfl) ?_)))
        refine DO.quiet rfl (q_ix (i := s2) Tryd.underlying62 inf26 rfl rfl (rowO (List.mem_of_getElem? (i := 0) rfl)) hlt42 (by rw [List.length_map, cntX_len]; omega)) (DO.quiet rfl (q_ld Tryd.underlying26 rfl rfl (rowO (List.mem_of_getElem? (i := 0) rfl)) (cntX_at hlt42)) (DO.quiet rfl (q_move rfl) (DO.quiet rfl (q_fieldAddr Tryd.underlying25 rfl inf22 rfl rfl) ?_)))
        refine DO.quiet rfl (q_load_box 2 Tryd.underlying22 rfl rfl rfl rfl) (DO.quiet rfl (q_move rfl) (DO.quiet rfl (q_ix (i := s2) Tryd.underlying22 inf41 rfl rfl (Sl.o ha.outer) hlt42 (hvl ▸ hlt42)) (DO.quiet rfl (q_ld Tryd.underlying41 rfl rfl (Sl.o ha.outer) g1) ?_)))
        refine DO.quiet rfl (q_move rfl) (DO.quiet rfl (q_ix (i := x) Tryd.underlying41 inf3 rfl rfl (Sl.o s1) hxk1 (by rw [List.length_map]; exact hxk1)) (DO.quiet rfl (q_ld Tryd.underlying3 rfl rfl (Sl.o s1) hx1) (DO.quiet rfl (q_ix (i := (toN a s2 x)) Tryd.underlying62 inf26 rfl rfl (rowO (List.mem_of_getElem? (i := 1) rfl)) hto (by rw [List.length_map, cntL_len]; omega)) ?_)))
        refine DO.quiet rfl (q_ld Tryd.underlying26 rfl rfl (rowO (List.mem_of_getElem? (i := 1) rfl)) (cntL_at hto)) (DO.quiet rfl (q_addM rfl rfl) (DO.quiet rfl (q_ix (i := s2) Tryd.underlying62 inf26 rfl rfl (rowO (List.mem_of_getElem? (i := 0) rfl)) hlt42 (by rw [List.length_map, cntX_len]; omega)) ?_))
        refine DO.last rfl rfl (l_st (j := s2) (v := .int .u64 ((((pR lim a i s2 x + cR lim a i (toN a s2 x)) % 18446744073709551616) : Nat) : Int)) (vs := [(.int .u64 ((((pR lim a i s2 x + cR lim a i (toN a s2 x)) % 18446744073709551616) : Nat) : Int))]) (cs := uns (cntX lim a i s2 x)) 0 inf26 rfl rfl rfl rfl rfl (by simp) rfl (by rw [List.length_map, cntX_len]; simp; omega) ?_)
        refine DO.sub (O' := [rowI (some ⟨z3, 0, none⟩) a.next.length 26 1 (uns ((cntX lim a i s2 x).set s2 ((pR lim a i s2 x + cR lim a i (toN a s2 x)) % 18446744073709551616))), rowI (some ⟨pb, 0, none⟩) a.next.length 26 1 (uns (cntL lim a i)), oI z1 25 (dC a k)]) (by rw [show putL (uns (cntX lim a i s2 x)) s2 [(.int .u64 ((((pR lim a i s2 x + cR lim a i (toN a s2 x)) % 18446744073709551616) : Nat) : Int))] = uns ((cntX lim a i s2 x).set s2 ((pR lim a i s2 x + cR lim a i (toN a s2 x)) % 18446744073709551616)) from by simp [putL]]; exact Sub.of (List.Sublist.refl _)) ?_
        refine DO.done ?_
        refine T.seq (T.region ?_)
        refine TO.quiet (q_move rfl) ?_
        refine TO.nil ?_
        refine T.cond rfl (fun hc => ?_) (fun hc => ?_)
        · have hlim : lim = true := hc
          refine T.region ?_
          refine TO.quiet (q_move rfl) (TO.quiet (q_move rfl) (TO.quiet (q_move rfl) (TO.quiet (q_move rfl) ?_)))
          refine TO.quiet (q_ix (i := s2) Tryd.underlying62 inf26 rfl rfl (rowO (List.mem_of_getElem? (i := 0) rfl)) hlt42 (by rw [List.length_map, List.length_set, cntX_len]; omega)) (TO.quiet (q_ld Tryd.underlying26 rfl rfl (rowO (List.mem_of_getElem? (i := 0) rfl)) (uns_set (by rw [cntX_len]; omega))) (TO.quiet (q_minN (a := ((pR lim a i s2 x + cR lim a i (toN a s2 x)) % 18446744073709551616)) (b := 9223372036854775807) rfl rfl) (TO.quiet (q_ix (i := s2) Tryd.underlying62 inf26 rfl rfl (rowO (List.mem_of_getElem? (i := 0) rfl)) hlt42 (by rw [List.length_map, List.length_set, cntX_len]; omega)) ?_)))
          refine TO.loud rfl (l_st (j := s2) (v := .int .u64 (((min ((pR lim a i s2 x + cR lim a i (toN a s2 x)) % 18446744073709551616) 9223372036854775807) : Nat) : Int)) (vs := [(.int .u64 (((min ((pR lim a i s2 x + cR lim a i (toN a s2 x)) % 18446744073709551616) 9223372036854775807) : Nat) : Int))]) (cs := uns ((cntX lim a i s2 x).set s2 ((pR lim a i s2 x + cR lim a i (toN a s2 x)) % 18446744073709551616))) 0 inf26 rfl rfl rfl rfl rfl (by simp) rfl (by rw [List.length_map, List.length_set, cntX_len]; simp; omega) ?_)
          refine TO.sub (O' := [rowI (some ⟨z3, 0, none⟩) a.next.length 26 1 (uns ((cntX lim a i s2 x).set s2 (min ((pR lim a i s2 x + cR lim a i (toN a s2 x)) % 18446744073709551616) 9223372036854775807))), rowI (some ⟨pb, 0, none⟩) a.next.length 26 1 (uns (cntL lim a i)), oI z1 25 (dC a k)]) (by rw [show putL (uns ((cntX lim a i s2 x).set s2 ((pR lim a i s2 x + cR lim a i (toN a s2 x)) % 18446744073709551616))) s2 [(.int .u64 (((min ((pR lim a i s2 x + cR lim a i (toN a s2 x)) % 18446744073709551616) 9223372036854775807) : Nat) : Int))] = uns ((cntX lim a i s2 x).set s2 (min ((pR lim a i s2 x + cR lim a i (toN a s2 x)) % 18446744073709551616) 9223372036854775807)) from uns_putput]; exact Sub.of (List.Sublist.refl _)) ?_
          refine TO.nil (T.region ?_)
          refine TO.quiet (q_move rfl) (TO.quiet (q_addN (a := x) (b := 1) rfl rfl (by omega)) (TO.quiet (q_assign rfl) ?_))
          refine TO.nil ?_
          exact ⟨x + 1, by omega, by rw [cntX_set hlt42 (pR_T hlim)], by omega, ⟨rfl, rfl, rfl, rfl, rfl, rfl, rfl, rfl, rfl, rfl, rfl, trivial⟩⟩
        have hlim : lim = false := hc
        refine T.skip (T.region ?_)
        refine TO.quiet (q_move rfl) (TO.quiet (q_addN (a := x) (b := 1) rfl rfl (by omega)) (TO.quiet (q_assign rfl) ?_))
        refine TO.nil ?_
        exact ⟨x + 1, by omega, by rw [cntX_set hlt42 (pR_F hlim)], by omega, ⟨rfl, rfl, rfl, rfl, rfl, rfl, rfl, rfl, rfl, rfl, rfl, trivial⟩⟩
      have hge52 : ¬ x < a.next[s2].length := by omega
      refine T.exit ?_
      refine T.region ?_
      refine TO.quiet (q_move rfl) (TO.quiet (q_addN (a := s2) (b := 1) rfl rfl (by omega)) (TO.quiet (q_assign rfl) ?_))
      refine TO.nil ?_
      exact ⟨s2 + 1, by omega, by rw [cntX_row (show x = letN a by omega)], by omega, ⟨rfl, rfl, rfl, rfl, rfl, rfl, rfl, rfl, rfl, rfl, trivial⟩⟩
    have hge42 : ¬ s2 < a.next.length := by omega
    refine T.exit ?_
    refine T.region ?_
    refine TO.quiet (q_move rfl) (TO.quiet (q_assign rfl) ?_)
    refine TO.nil (T.region ?_)
    refine TO.quiet (q_move rfl) (TO.quiet (q_addN (a := i) (b := 1) rfl rfl (by omega)) (TO.quiet (q_assign rfl) ?_))
    refine TO.nil ?_
    have hse2 : s2 = a.next.length := by omega
    exact ⟨i + 1, by omega, [rowI (some ⟨z3, 0, none⟩) a.next.length 26 1 (uns (cntX lim a i s2 0)), oI z1 25 (dC a k)], (by exact Sub.k (.d (.k .z))), z3, by rw [cntX_end hse2], by omega, ⟨rfl, rfl, rfl, rfl, rfl, rfl, rfl, rfl, trivial⟩⟩
  have hge33 : ¬ i < n := by omega
  refine T.exit ?_
  refine T.seq (T.region ?_)
  refine TO.quiet (q_move rfl) (TO.quiet (q_assign rfl) ?_)
  refine TO.nil (T.ret (Res.drop ?_))
  refine Res.one (.slice (some ⟨pb, 0, none⟩) a.next.length a.next.length) Tryd.results41 rfl ?_
  have hie : i = n := by omega
  exact ⟨[rowI (some ⟨pb, 0, none⟩) a.next.length 26 1 (uns (cntL lim a i))], (by exact Sub.k .z), pb, rfl, by rw [hie]⟩
set_option maxHeartbeats 1000000 in
set_option maxRecDepth 20000 in
theorem rCountBad (w : World) [Tab Tryd.prog w] (a : DFA) (k : DK) (ha : At w a k) (haa : a.next.length < 9223372036854775807) (haar : ∀ r ∈ a.next, r.length < 9223372036854775807) (haaf : a.final.length < 9223372036854775807) (he : checkD a ≠ 0) (n : Int) :
    PureT Tryd.prog 29 [dV a k, .int .i64 n] w fun v N => v = .tuple #[.int .u64 0, .int .i64 (checkD a : Int)] ∧ N = [] := by
  refine CallT.enter Tryd.func29 rfl Tryd.ntmps29 rfl ?_
  refine T.seq (T.region ?_)
  refine TO.loud rfl (l_box (v := (dV a k)) (cs := (dC a k)) rfl rfl (fun bx1 => ?_))
  refine TO.quiet (q_assign rfl) (TO.quiet (q_assign rfl) ?_)
  refine TO.nil (T.seq (T.region ?_))
  refine TO.quiet (q_load_boxAgg 0 Tryd.underlying25 rfl inf25 rfl rfl rfl) ?_
  have hk8 := fun (w1 : World) (hI : Inv w [oI bx1 25 (dC a k)] w1) => (haveI := Inv.tab (P := Tryd.prog) hI; refCheck w1 a k.nb k.fb k.nc k.fc (vals k.qs) (hI.dfa ha) haa haar haaf)
  refine TO.loud rfl (l_call ent24 (CallT.of_pure hk8) rfl ?_)
  clear hk8
  rintro vr O' ⟨N, rfl, rfl, rfl⟩
  refine TO.quiet (q_assign rfl) ?_
  refine TO.nil (T.seq (T.seq (T.region ?_)))
  refine TO.quiet (q_move rfl) (TO.quiet (QT.toB (q_neq rfl rfl) (decide_eq_true (by omega))) ?_)
  refine TO.nil ?_
  refine T.cond1 rfl ?_
  refine T.seq (T.region ?_)
  refine TO.quiet (q_move rfl) (TO.quiet (q_assign rfl) (TO.quiet (q_assign rfl) ?_))
  refine TO.nil (T.ret (Res.drop ?_))
  refine Res.two (.int .u64 0) (.int .i64 (checkD a : Int)) Tryd.results29 rfl rfl ?_
  exact ⟨[], Sub.z, rfl, rfl⟩
set_option maxHeartbeats 1000000 in
set_option maxRecDepth 20000 in
theorem rCountLo (w : World) [Tab Tryd.prog w] (a : DFA) (k : DK) (ha : At w a k) (hv : Valid a) (n : Int) (hn : n < 0) :
    PureT Tryd.prog 29 [dV a k, .int .i64 n] w fun v N => v = .tuple #[.int .u64 0, .int .i64 1] ∧ N = [] := by
  refine CallT.enter Tryd.func29 rfl Tryd.ntmps29 rfl ?_
  have he := checkD_zero.2 hv
  have h4 := hv.n4
  have hww : letN a ≤ 64 := hv.width
  have hfin := hv.fin
  have hvl := ha.rows.1
  have hsl := start_lt hv.toVal
  have hs0 := hv.s0
  have hs1 := hv.s1
  refine T.seq (T.region ?_)
  refine TO.loud rfl (l_box (v := (dV a k)) (cs := (dC a k)) rfl rfl (fun bx1 => ?_))
  refine TO.quiet (q_assign rfl) (TO.quiet (q_assign rfl) ?_)
  refine TO.nil (T.seq (T.region ?_))
  refine TO.quiet (q_load_boxAgg 0 Tryd.underlying25 rfl inf25 rfl rfl rfl) ?_
  have hk8 := fun (w1 : World) (hI : Inv w [oI bx1 25 (dC a k)] w1) => (haveI := Inv.tab (P := Tryd.prog) hI; (show PureT _ _ _ _ _ from by
      have h9 := refCheck w1 a k.nb k.fb k.nc k.fc (vals k.qs) (hI.dfa ha) (by omega) hv.bound (by omega)
      rw [he] at h9
      exact h9))
  refine TO.loud rfl (l_call ent24 (CallT.of_pure hk8) rfl ?_)
  clear hk8
  rintro vr O' ⟨N, rfl, rfl, rfl⟩
  refine TO.quiet (q_assign rfl) ?_
  refine TO.nil (T.seq (T.seq (T.region ?_)))
  refine TO.quiet (q_move rfl) (TO.quiet (q_neq rfl rfl) ?_)
  refine TO.nil ?_
  refine T.cond0 rfl ?_
  refine T.skip (T.seq (T.seq (T.region ?_)))
  refine TO.quiet (q_move rfl) (TO.quiet (QT.toB (q_lss rfl rfl) (decide_eq_true (by omega))) (TO.quiet (q_move rfl) ?_))
  refine TO.passed rfl rfl ?_
  refine TO.passed rfl rfl ?_
  refine TO.quiet (q_pick1 rfl rfl) ?_
  refine TO.nil ?_
  refine T.cond1 rfl ?_
  refine T.seq (T.region ?_)
  refine TO.quiet (q_assign rfl) (TO.quiet (q_assign rfl) ?_)
  refine TO.nil (T.ret (Res.drop ?_))
  refine Res.two (.int .u64 0) (.int .i64 1) Tryd.results29 rfl rfl ?_
  exact ⟨[], Sub.z, rfl, rfl⟩
set_option maxHeartbeats 1000000 in
set_option maxRecDepth 20000 in
theorem rCountHi (w : World) [Tab Tryd.prog w] (a : DFA) (k : DK) (ha : At w a k) (hv : Valid a) (n : Int) (hn : 64 < n) :
    PureT Tryd.prog 29 [dV a k, .int .i64 n] w fun v N => v = .tuple #[.int .u64 0, .int .i64 1] ∧ N = [] := by
  refine CallT.enter Tryd.func29 rfl Tryd.ntmps29 rfl ?_
  have he := checkD_zero.2 hv
  have h4 := hv.n4
  have hww : letN a ≤ 64 := hv.width
  have hfin := hv.fin
  have hvl := ha.rows.1
  have hsl := start_lt hv.toVal
  have hs0 := hv.s0
  have hs1 := hv.s1
  refine T.seq (T.region ?_)
  refine TO.loud rfl (l_box (v := (dV a k)) (cs := (dC a k)) rfl rfl (fun bx1 => ?_))
  refine TO.quiet (q_assign rfl) (TO.quiet (q_assign rfl) ?_)
  refine TO.nil (T.seq (T.region ?_))
  refine TO.quiet (q_load_boxAgg 0 Tryd.underlying25 rfl inf25 rfl rfl rfl) ?_
  have hk8 := fun (w1 : World) (hI : Inv w [oI bx1 25 (dC a k)] w1) => (haveI := Inv.tab (P := Tryd.prog) hI; (show PureT _ _ _ _ _ from by
      have h9 := refCheck w1 a k.nb k.fb k.nc k.fc (vals k.qs) (hI.dfa ha) (by omega) hv.bound (by omega)
      rw [he] at h9
      exact h9))
  refine TO.loud rfl (l_call ent24 (CallT.of_pure hk8) rfl ?_)
  clear hk8
  rintro vr O' ⟨N, rfl, rfl, rfl⟩
  refine TO.quiet (q_assign rfl) ?_
  refine TO.nil (T.seq (T.seq (T.region ?_)))
  refine TO.quiet (q_move rfl) (TO.quiet (q_neq rfl rfl) ?_)
  refine TO.nil ?_
  refine T.cond0 rfl ?_
  refine T.skip (T.seq (T.seq (T.region ?_)))
  refine TO.quiet (q_move rfl) (TO.quiet (QT.toB (q_lss rfl rfl) (decide_eq_false (by omega))) (TO.quiet (q_move rfl) ?_))
  refine TO.guarded rfl rfl rfl (LT.of_quiet rfl rfl (q_move rfl) ?_)
  refine TO.guarded rfl rfl rfl (LT.of_quiet rfl rfl (QT.toB (q_gtr rfl rfl) (decide_eq_true (by omega))) ?_)
  refine TO.quiet (q_pick0 rfl rfl) ?_
  refine TO.nil ?_
  refine T.cond1 rfl ?_
  refine T.seq (T.region ?_)
  refine TO.quiet (q_assign rfl) (TO.quiet (q_assign rfl) ?_)
  refine TO.nil (T.ret (Res.drop ?_))
  refine Res.two (.int .u64 0) (.int .i64 1) Tryd.results29 rfl rfl ?_
  exact ⟨[], Sub.z, rfl, rfl⟩
set_option maxHeartbeats 8000000 in
set_option maxRecDepth 20000 in
theorem rCountOk (w : World) [Tab Tryd.prog w] (a : DFA) (k : DK) (ha : At w a k) (hv : Valid a) (n : Nat) (hn : n ≤ 64) :
    PureT Tryd.prog 29 [dV a k, .int .i64 ((n : Nat) : Int)] w fun v N => v = .tuple #[.int .u64 ((cntN a n a.start.toNat % 18446744073709551616 : Nat) : Int), .int .i64 0] ∧ N = [] := by
  refine CallT.enter Tryd.func29 rfl Tryd.ntmps29 rfl ?_
  have he := checkD_zero.2 hv
  have h4 := hv.n4
  have hww : letN a ≤ 64 := hv.width
  have hfin := hv.fin
  have hvl := ha.rows.1
  have hsl := start_lt hv.toVal
  have hs0 := hv.s0
  have hs1 := hv.s1
  refine T.seq (T.region ?_)
  refine TO.loud rfl (l_box (v := (dV a k)) (cs := (dC a k)) rfl rfl (fun bx1 => ?_))
  refine TO.quiet (q_assign rfl) (TO.quiet (q_assign rfl) ?_)
  refine TO.nil (T.seq (T.region ?_))
  refine TO.quiet (q_load_boxAgg 0 Tryd.underlying25 rfl inf25 rfl rfl rfl) ?_
  have hk8 := fun (w1 : World) (hI : Inv w [oI bx1 25 (dC a k)] w1) => (haveI := Inv.tab (P := Tryd.prog) hI; (show PureT _ _ _ _ _ from by
      have h9 := refCheck w1 a k.nb k.fb k.nc k.fc (vals k.qs) (hI.dfa ha) (by omega) hv.bound (by omega)
      rw [he] at h9
      exact h9))
  refine TO.loud rfl (l_call ent24 (CallT.of_pure hk8) rfl ?_)
  clear hk8
  rintro vr O' ⟨N, rfl, rfl, rfl⟩
  refine TO.quiet (q_assign rfl) ?_
  refine TO.nil (T.seq (T.seq (T.region ?_)))
  refine TO.quiet (q_move rfl) (TO.quiet (q_neq rfl rfl) ?_)
  refine TO.nil ?_
  refine T.cond0 rfl ?_
  refine T.skip (T.seq (T.seq (T.region ?_)))
  refine TO.quiet (q_move rfl) (TO.quiet (QT.toB (q_lss rfl rfl) (decide_eq_false (by omega))) (TO.quiet (q_move rfl) ?_))
  refine TO.guarded rfl rfl rfl (LT.of_quiet rfl rfl (q_move rfl) ?_)
  refine TO.guarded rfl rfl rfl (LT.of_quiet rfl rfl (QT.toB (q_gtr rfl rfl) (decide_eq_false (by omega))) ?_)
  refine TO.quiet (q_pick0 rfl rfl) ?_
  refine TO.nil ?_
  refine T.cond0 rfl ?_
  refine T.skip (T.seq ?_)
  refine T.draws _ [(0, 0), (1, 0), (3, 0), (4, 0), (2, 1), (5, 2), (6, 2), (7, 2), (8, 2)] mixed (by kernel_rfl) (Sub.of (List.Sublist.refl _)) (fun _ _ _ h => h) ?_
  refine DO.quiet rfl (q_load_boxAgg 0 Tryd.underlying25 rfl inf25 rfl rfl rfl) (DO.quiet rfl (q_move rfl) (DO.quiet rfl (q_fieldAddr Tryd.underlying25 rfl inf3 rfl rfl) (DO.quiet rfl (q_load_box 0 Tryd.underlying3 rfl rfl rfl rfl) ?_)))
  have hk20 := fun (w1 : World) (hI : Inv w [oI bx1 25 (dC a k)] w1) => (haveI := Inv.tab (P := Tryd.prog) hI; countsC w1 a k (hI.atB ha) hv n false (by omega))
  refine DO.loud rfl rfl (l_call ent41 (CallT.of_pure hk20) rfl ?_)
  clear hk20
  rintro vr O' ⟨N, rfl, cb, rfl, rfl⟩
  refine ⟨by exact Sub.d (.k .z), ?_⟩
  refine DO.last rfl rfl (LT.of_quiet rfl rfl (q_ixz (i := a.start) Tryd.underlying62 inf26 rfl rfl (rowO (List.mem_of_getElem? (i := 0) rfl)) hs0 hsl (by rw [List.length_map, cntL_len]; omega)) ?_)
  refine DO.last rfl rfl (LT.of_quiet rfl rfl (q_ld Tryd.underlying26 rfl rfl (rowO (List.mem_of_getElem? (i := 0) rfl)) (cntL_at hsl)) ?_)
  refine DO.last rfl rfl (LT.of_quiet rfl rfl (q_assign rfl) ?_)
  refine DO.last rfl rfl (LT.of_quiet rfl rfl (q_assign rfl) ?_)
  refine DO.done ?_
  refine T.ret (Res.drop ?_)
  refine Res.two (.int .u64 ((cR false a n a.start.toNat : Nat) : Int)) (.int .i64 0) Tryd.results29 rfl rfl ?_
  exact ⟨[], Sub.z, by rw [cR_false], rfl⟩
theorem rCountC (w : World) [Tab Tryd.prog w] (a : DFA) (k : DK) (ha : At w a k) (haa : a.next.length < 9223372036854775807) (haar : ∀ r ∈ a.next, r.length < 9223372036854775807) (haaf : a.final.length < 9223372036854775807) (n : Int) :
    PureT Tryd.prog 29 [dV a k, .int .i64 n] w fun v N => v = .tuple #[.int .u64 ((cntV a n : Nat) : Int), .int .i64 ((cntE a n : Nat) : Int)] ∧ N = [] := by
  unfold cntV cntE
  by_cases he : checkD a ≠ 0
  · rw [if_pos he, if_neg he]
    exact rCountBad w a k ha haa haar haaf he n
  · have hv : Valid a := checkD_zero.1 (by omega)
    rw [if_neg he]
    by_cases hn : n < 0 ∨ 64 < n
    · rw [if_pos hn, if_neg (by decide)]
      rcases hn with h | h
      · exact rCountLo w a k ha hv n h
      · exact rCountHi w a k ha hv n h
    · rw [if_neg hn, if_pos rfl]
      obtain ⟨m, rfl⟩ : ∃ m : Nat, n = (m : Int) := ⟨n.toNat, by omega⟩
      exact rCountOk w a k ha hv m (by omega)
set_option maxHeartbeats 1000000 in
set_option maxRecDepth 20000 in
theorem rUnivBad (w : World) [Tab Tryd.prog w] (a : DFA) (k : DK) (ha : At w a k) (haa : a.next.length < 9223372036854775807) (haar : ∀ r ∈ a.next, r.length < 9223372036854775807) (haaf : a.final.length < 9223372036854775807) (he : checkD a ≠ 0) :
    PureT Tryd.prog 27 [dV a k] w fun v N => ∃ b, v = .tuple #[.bool b, .int .i64 (checkD a : Int)] ∧ N = [] ∧ (checkD a = 0 → (b = true ↔ ∀ u, Wd a u → acc a u = true)) ∧ (checkD a ≠ 0 → b = false) := by
  refine CallT.enter Tryd.func27 rfl Tryd.ntmps27 rfl ?_
  refine T.seq (T.region ?_)
  refine TO.loud rfl (l_box (v := (dV a k)) (cs := (dC a k)) rfl rfl (fun bx1 => ?_))
  refine TO.quiet (q_assign rfl) (TO.quiet (q_assign rfl) ?_)
  refine TO.nil (T.seq (T.region ?_))
  refine TO.quiet (q_load_boxAgg 0 Tryd.underlying25 rfl inf25 rfl rfl rfl) ?_
  have hk8 := fun (w1 : World) (hI : Inv w [oI bx1 25 (dC a k)] w1) => (haveI := Inv.tab (P := Tryd.prog) hI; refCheck w1 a k.nb k.fb k.nc k.fc (vals k.qs) (hI.dfa ha) haa haar haaf)
  refine TO.loud rfl (l_call ent24 (CallT.of_pure hk8) rfl ?_)
  clear hk8
  rintro vr O' ⟨N, rfl, rfl, rfl⟩
  refine TO.quiet (q_assign rfl) ?_
  refine TO.nil (T.seq (T.seq (T.region ?_)))
  refine TO.quiet (q_move rfl) (TO.quiet (QT.toB (q_neq rfl rfl) (decide_eq_true (by omega))) ?_)
  refine TO.nil ?_
  refine T.cond1 rfl ?_
  refine T.seq (T.region ?_)
  refine TO.quiet (q_move rfl) (TO.quiet (q_assign rfl) (TO.quiet (q_assign rfl) ?_))
  refine TO.nil (T.ret (Res.drop ?_))
  refine Res.two (.bool false) (.int .i64 (checkD a : Int)) Tryd.results27 rfl rfl ?_
  exact ⟨[], Sub.z, false, rfl, rfl, fun h => absurd h he, fun _ => rfl⟩
set_option maxHeartbeats 1000000 in
set_option maxRecDepth 20000 in
theorem rFinBad (w : World) [Tab Tryd.prog w] (a : DFA) (k : DK) (ha : At w a k) (haa : a.next.length < 9223372036854775807) (haar : ∀ r ∈ a.next, r.length < 9223372036854775807) (haaf : a.final.length < 9223372036854775807) (he : checkD a ≠ 0) :
    PureT Tryd.prog 28 [dV a k] w fun v N => ∃ b, v = .tuple #[.bool b, .int .i64 (checkD a : Int)] ∧ N = [] ∧ (checkD a = 0 → (b = true ↔ ¬ InfC a a.start.toNat)) ∧ (checkD a ≠ 0 → b = false) := by
  refine CallT.enter Tryd.func28 rfl Tryd.ntmps28 rfl ?_
  refine T.seq (T.region ?_)
  refine TO.loud rfl (l_box (v := (dV a k)) (cs := (dC a k)) rfl rfl (fun bx1 => ?_))
  refine TO.quiet (q_assign rfl) (TO.quiet (q_assign rfl) ?_)
  refine TO.nil (T.seq (T.region ?_))
  refine TO.quiet (q_load_boxAgg 0 Tryd.underlying25 rfl inf25 rfl rfl rfl) ?_
  have hk12 := fun (w1 : World) (hI : Inv w [oI bx1 25 (dC a k)] w1) => (haveI := Inv.tab (P := Tryd.prog) hI; refCheck w1 a k.nb k.fb k.nc k.fc (vals k.qs) (hI.dfa ha) haa haar haaf)
  refine TO.loud rfl (l_call ent24 (CallT.of_pure hk12) rfl ?_)
  clear hk12
  rintro vr O' ⟨N, rfl, rfl, rfl⟩
  refine TO.quiet (q_assign rfl) ?_
  refine TO.nil (T.seq (T.seq (T.region ?_)))
  refine TO.quiet (q_move rfl) (TO.quiet (QT.toB (q_neq rfl rfl) (decide_eq_true (by omega))) ?_)
  refine TO.nil ?_
  refine T.cond1 rfl ?_
  refine T.seq (T.region ?_)
  refine TO.quiet (q_move rfl) (TO.quiet (q_assign rfl) (TO.quiet (q_assign rfl) ?_))
  refine TO.nil (T.ret (Res.drop ?_))
  refine Res.two (.bool false) (.int .i64 (checkD a : Int)) Tryd.results28 rfl rfl ?_
  exact ⟨[], Sub.z, false, rfl, rfl, fun h => absurd h he, fun _ => rfl⟩
set_option maxHeartbeats 8000000 in
set_option maxRecDepth 20000 in
theorem rUnivOk (w : World) [Tab Tryd.prog w] (a : DFA) (k : DK) (ha : At w a k) (hv : Valid a) :
    PureT Tryd.prog 27 [dV a k] w fun v N => ∃ b, v = .tuple #[.bool b, .int .i64 (checkD a : Int)] ∧ N = [] ∧ (checkD a = 0 → (b = true ↔ ∀ u, Wd a u → acc a u = true)) ∧ (checkD a ≠ 0 → b = false) := by
  refine CallT.enter Tryd.func27 rfl Tryd.ntmps27 rfl ?_
  have he := checkD_zero.2 hv
  have h4 := hv.n4
  have hww : letN a ≤ 64 := hv.width
  have hfin := hv.fin
  have hvl := ha.rows.1
  have hsl := start_lt hv.toVal
  have hs0 := hv.s0
  have hs1 := hv.s1
  have hol9 := order_len hv.toVal
  refine T.seq (T.region ?_)
  refine TO.loud rfl (l_box (v := (dV a k)) (cs := (dC a k)) rfl rfl (fun z1 => ?_))
  refine TO.quiet (q_assign rfl) (TO.quiet (q_assign rfl) ?_)
  refine TO.nil (T.seq (T.region ?_))
  refine TO.quiet (q_load_boxAgg 0 Tryd.underlying25 rfl inf25 rfl rfl rfl) ?_
  have hk8 := fun (w1 : World) (hI : Inv w [oI z1 25 (dC a k)] w1) => (haveI := Inv.tab (P := Tryd.prog) hI; (show PureT _ _ _ _ _ from by
      have h9 := refCheck w1 a k.nb k.fb k.nc k.fc (vals k.qs) (hI.dfa ha) (by omega) hv.bound (by omega)
      rw [he] at h9
      exact h9))
  refine TO.loud rfl (l_call ent24 (CallT.of_pure hk8) rfl ?_)
  clear hk8
  rintro vr O' ⟨N, rfl, rfl, rfl⟩
  refine TO.quiet (q_assign rfl) ?_
  refine TO.nil (T.seq (T.seq (T.region ?_)))
  refine TO.quiet (q_move rfl) (TO.quiet (q_neq rfl rfl) ?_)
  refine TO.nil ?_
  refine T.cond0 rfl ?_
  refine T.skip (T.seq (T.region ?_))
  refine TO.quiet (q_load_boxAgg 0 Tryd.underlying25 rfl inf25 rfl rfl rfl) ?_
  have hk13 := fun (w1 : World) (hI : Inv w [oI z1 25 (dC a k)] w1) => (haveI := Inv.tab (P := Tryd.prog) hI; orderC w1 a k.nb k.fb k.nc k.fc (vals k.qs) (hI.dfa ha) hv (by omega))
  refine TO.loud rfl (l_call ent52 (CallT.of_pure hk13) rfl ?_)
  clear hk13
  rintro vr O' ⟨N, rfl, lb, lc, rfl, rfl⟩
  refine TO.quiet (q_assign rfl) ?_
  refine TO.nil (T.seq (T.seq (T.region ?_)))
  refine TO.quiet (q_assign rfl) ?_
  refine TO.nil (T.block ?_)
  refine T.loop (fun (i : Nat) ρ O => O = [rowI lb lc 3 1 (nats (order a)), oI z1 25 (dC a k)] ∧ i ≤ (order a).length ∧ (∀ j, j < i → ∀ o, (order a)[j]? = some o → finN a o = true) ∧ Heads [(0, (dV a k)), (1, (.pointer (some ⟨z1, 0, none⟩))), (4, .int .i64 0), (5, (.slice lb ((order a).length) lc)), (6, .int .i64 ((i : Nat) : Int))] ρ) (fun i => (order a).length - i) 0 ?_ ?_
  · exact ⟨rfl, Nat.zero_le _, fun j hj => absurd hj (by omega), ⟨rfl, rfl, rfl, rfl, rfl, trivial⟩⟩
  rintro i ρ O ⟨rfl, hi, hall, hH⟩
  obtain ⟨ρ0, rfl⟩ := hH.elim
  clear hH
  refine T.seq (T.seq (T.region ?_))
  refine TO.quiet (q_move rfl) (TO.quiet (q_move rfl) (TO.quiet (q_len Tryd.underlying41 rfl) (TO.quiet (q_lss rfl rfl) ?_)))
  refine TO.nil ?_
  refine T.condP rfl (fun hc => ?_) (fun hc => ?_)
  · have hlt17 : i < (order a).length := by omega
    obtain ⟨o, ho⟩ : ∃ o, (order a)[i]? = some o := ⟨_, List.getElem?_eq_getElem hlt17⟩
    have hol := order_lt hv.toVal o (List.mem_of_getElem? ho)
    refine T.skip (T.seq (T.block (T.seq ?_)))
    refine T.draws _ [(0, 0), (1, 0), (2, 0), (3, 0), (4, 0), (5, 0), (6, 0), (7, 0), (8, 0)] mixed (by kernel_rfl) (Sub.of (List.Sublist.refl _)) (fun _ _ _ h => h) ?_
    refine DO.quiet rfl (q_fieldAddr Tryd.underlying25 rfl inf23 rfl rfl) (DO.quiet rfl (q_load_box 1 Tryd.underlying23 rfl rfl rfl rfl) (DO.quiet rfl (q_move rfl) (DO.quiet rfl (q_move rfl) ?_)))
    refine DO.quiet rfl (q_ix (i := i) Tryd.underlying41 inf3 rfl rfl (rowO (List.mem_of_getElem? (i := 0) rfl)) hlt17 (by rw [List.length_map]; omega)) (DO.quiet rfl (q_ld Tryd.underlying3 rfl rfl (rowO (List.mem_of_getElem? (i := 0) rfl)) (show (nats (order a))[i]? = some (.int .i64 ((o : Nat) : Int)) by rw [List.getElem?_map, ho]; rfl)) (DO.quiet rfl (q_ix (i := o) Tryd.underlying23 inf4 rfl rfl (Sl.o ha.final) (by omega) (by rw [List.length_map]; omega)) (DO.quiet rfl (q_ld Tryd.underlying4 rfl rfl (Sl.o ha.final) (bools_at (by omega))) ?_)))
    refine DO.quiet rfl (QT.cast (q_not rfl) (v' := .bool (decide (finN a o = false))) (by show Value.bool (!(finN a o)) = _; cases finN a o <;> rfl)) ?_
    refine DO.done ?_
    refine T.condP rfl (fun hc => ?_) (fun hc => ?_)
    · have hfn : finN a o = false := hc
      refine T.seq (T.region ?_)
      refine TO.quiet (q_assign rfl) (TO.quiet (q_assign rfl) ?_)
      refine TO.nil (T.ret (Res.drop ?_))
      refine Res.two (.bool false) (.int .i64 0) Tryd.results27 rfl rfl ?_
      exact ⟨[], Sub.z, false, by rw [he]; rfl, rfl, fun _ => ⟨fun h => (by cases h), fun h => (by have := (all_order hv.toVal).2 h o (List.mem_of_getElem? ho); rw [hfn] at this; cases this)⟩, fun _ => rfl⟩
    have hfn : finN a o = true := by simpa using hc
    refine T.skip (T.region ?_)
    refine TO.quiet (q_move rfl) (TO.quiet (q_addN (a := i) (b := 1) rfl rfl (by omega)) (TO.quiet (q_assign rfl) ?_))
    refine TO.nil ?_
    exact ⟨i + 1, by omega, rfl, by omega, fun j hj o9 ho9 => (by
      by_cases e9 : j = i
      · subst e9; rw [ho] at ho9; exact Option.some.inj ho9 ▸ hfn
      · exact hall j (by omega) o9 ho9), ⟨rfl, rfl, rfl, rfl, rfl, trivial⟩⟩
  have hge17 : ¬ i < (order a).length := by omega
  refine T.exit ?_
  refine T.seq (T.region ?_)
  refine TO.quiet (q_assign rfl) (TO.quiet (q_assign rfl) ?_)
  refine TO.nil (T.ret (Res.drop ?_))
  refine Res.two (.bool true) (.int .i64 0) Tryd.results27 rfl rfl ?_
  exact ⟨[], Sub.z, true, by rw [he]; rfl, rfl, fun _ => ⟨fun _ => (all_order hv.toVal).1 (fun o9 ho9 => (by
    obtain ⟨j, hj, e9⟩ := List.mem_iff_getElem.1 ho9
    exact hall j (by omega) o9 (by rw [← e9]; exact List.getElem?_eq_getElem hj))), fun _ => rfl⟩, fun h => absurd he h⟩
set_option maxHeartbeats 8000000 in
set_option maxRecDepth 20000 in
theorem rFinOk (w : World) [Tab Tryd.prog w] (a : DFA) (k : DK) (ha : At w a k) (hv : Valid a) :
    PureT Tryd.prog 28 [dV a k] w fun v N => ∃ b, v = .tuple #[.bool b, .int .i64 (checkD a : Int)] ∧ N = [] ∧ (checkD a = 0 → (b = true ↔ ¬ InfC a a.start.toNat)) ∧ (checkD a ≠ 0 → b = false) := by
  refine CallT.enter Tryd.func28 rfl Tryd.ntmps28 rfl ?_
  have he := checkD_zero.2 hv
  have h4 := hv.n4
  have hww : letN a ≤ 64 := hv.width
  have hfin := hv.fin
  have hvl := ha.rows.1
  have hsl := start_lt hv.toVal
  have hs0 := hv.s0
  have hs1 := hv.s1
  refine T.seq (T.region ?_)
  refine TO.loud rfl (l_box (v := (dV a k)) (cs := (dC a k)) rfl rfl (fun z1 => ?_))
  refine TO.quiet (q_assign rfl) (TO.quiet (q_assign rfl) ?_)
  refine TO.nil (T.seq (T.region ?_))
  refine TO.quiet (q_load_boxAgg 0 Tryd.underlying25 rfl inf25 rfl rfl rfl) ?_
  have hk12 := fun (w1 : World) (hI : Inv w [oI z1 25 (dC a k)] w1) => (haveI := Inv.tab (P := Tryd.prog) hI; (show PureT _ _ _ _ _ from by
      have h9 := refCheck w1 a k.nb k.fb k.nc k.fc (vals k.qs) (hI.dfa ha) (by omega) hv.bound (by omega)
      rw [he] at h9
      exact h9))
  refine TO.loud rfl (l_call ent24 (CallT.of_pure hk12) rfl ?_)
  clear hk12
  rintro vr O' ⟨N, rfl, rfl, rfl⟩
  refine TO.quiet (q_assign rfl) ?_
  refine TO.nil (T.seq (T.seq (T.region ?_)))
  refine TO.quiet (q_move rfl) (TO.quiet (q_neq rfl rfl) ?_)
  refine TO.nil ?_
  refine T.cond0 rfl ?_
  refine T.skip (T.seq (T.region ?_))
  refine TO.quiet (q_fieldAddr Tryd.underlying25 rfl inf22 rfl rfl) (TO.quiet (q_load_box 0 Tryd.underlying22 rfl rfl rfl rfl) (TO.quiet (q_len Tryd.underlying22 rfl) (TO.quiet (q_assign rfl) ?_)))
  refine TO.nil (T.seq (T.region ?_))
  refine TO.quiet (q_move rfl) ?_
  refine TO.loud rfl (l_makeSlice (m := a.next.length) Tryd.underlying23 inf4 rfl rfl (by omega) (by omega) (fun z2 => ?_))
  refine TO.quiet (q_assign rfl) ?_
  refine TO.nil (T.seq (T.region ?_))
  refine TO.quiet (q_move rfl) (TO.quiet (q_fieldAddr Tryd.underlying25 rfl inf3 rfl rfl) (TO.quiet (q_load_box 1 Tryd.underlying3 rfl rfl rfl rfl) (TO.quiet (q_ixz (i := a.start) Tryd.underlying23 inf4 rfl rfl (rowO (List.mem_of_getElem? (i := 0) rfl)) hs0 hsl (by rw [List.length_replicate]; omega)) ?_)))
  refine TO.loud rfl (l_st (j := a.start.toNat) (v := .bool true) (vs := [(.bool true)]) (cs := List.replicate a.next.length (.bool false)) 0 inf4 rfl rfl rfl rfl rfl (by simp) rfl (by rw [List.length_replicate]; simp; omega) ?_)
  refine TO.sub (O' := [rowI (some ⟨z2, 0, none⟩) a.next.length 4 1 (bools ((List.replicate a.next.length false).set a.start.toNat true)), oI z1 25 (dC a k)]) (by rw [show putL (List.replicate a.next.length (.bool false)) a.start.toNat [(.bool true)] = bools ((List.replicate a.next.length false).set a.start.toNat true) from by simp [putL]]; exact Sub.of (List.Sublist.refl _)) ?_
  refine TO.nil (T.seq (T.seq (T.region ?_)))
  refine TO.quiet (q_assign rfl) ?_
  refine TO.nil (T.block ?_)
  refine T.loopS (fun (m : Nat) ρ O => ∃ (ib : Nat) (li : List Bool), O = [rowI (some ⟨ib, 0, none⟩) a.next.length 4 1 (bools li), oI z1 25 (dC a k)] ∧ m ≤ 2 * a.next.length ∧ InK a m li ∧ (∀ j, a.next.length ≤ j → j < m → ∀ s, RchK a j s → finN a s = false) ∧ Heads [(0, (dV a k)), (1, (.pointer (some ⟨z1, 0, none⟩))), (4, .int .i64 0), (5, .int .i64 (a.next.length : Int)), (6, (.slice (some ⟨ib, 0, none⟩) a.next.length a.next.length)), (7, .int .i64 ((m : Nat) : Int))] ρ) (fun m => 2 * a.next.length - m) 0 ?_ ?_
  · exact ⟨z2, _, rfl, Nat.zero_le _, InK.zero hsl, fun j _ hj => absurd hj (by omega), ⟨rfl, rfl, rfl, rfl, rfl, rfl, trivial⟩⟩
  rintro m ρ O ⟨ib, li, rfl, hm, hin, hno, hH⟩
  obtain ⟨ρ0, rfl⟩ := hH.elim
  clear hH
  have hll := hin.len
  refine T.seq (T.seq (T.region ?_))
  refine TO.quiet (q_move rfl) (TO.quiet (q_move rfl) (TO.quiet (QT.cast (q_mul64 rfl rfl (by omega)) (v' := .int .i64 ((2 * a.next.length : Nat) : Int)) (congrArg (Value.int .i64) (by omega))) (TO.quiet (q_lss rfl rfl) ?_)))
  refine TO.nil ?_
  refine T.condP rfl (fun hc => ?_) (fun hc => ?_)
  · have hlt28 : m < 2 * a.next.length := by omega
    refine T.skip (T.seq (T.block (T.seq (T.region ?_))))
    refine TO.quiet (q_move rfl) ?_
    refine TO.loud rfl (l_makeSlice (m := a.next.length) Tryd.underlying23 inf4 rfl rfl (by omega) (by omega) (fun z3 => ?_))
    refine TO.quiet (q_assign rfl) ?_
    refine TO.nil (T.seq (T.seq (T.region ?_)))
    refine TO.quiet (q_assign rfl) ?_
    refine TO.nil (T.block ?_)
    refine T.loop (fun (s : Nat) ρ O => ∃ (ln : List Bool), O = [rowI (some ⟨z3, 0, none⟩) a.next.length 4 1 (bools ln), rowI (some ⟨ib, 0, none⟩) a.next.length 4 1 (bools li), oI z1 25 (dC a k)] ∧ s ≤ a.next.length ∧ NxK a m s 0 ln ∧ (a.next.length ≤ m → ∀ t, t < s → RchK a m t → finN a t = false) ∧ Heads [(0, (dV a k)), (1, (.pointer (some ⟨z1, 0, none⟩))), (4, .int .i64 0), (5, .int .i64 (a.next.length : Int)), (6, (.slice (some ⟨ib, 0, none⟩) a.next.length a.next.length)), (7, .int .i64 ((m : Nat) : Int)), (8, (.slice (some ⟨z3, 0, none⟩) a.next.length a.next.length)), (9, .int .i64 ((s : Nat) : Int))] ρ) (fun s => a.next.length - s) 0 ?_ ?_
    · exact ⟨List.replicate a.next.length false, by simp, Nat.zero_le _, NxK.zero a m, fun _ t ht => absurd ht (by omega), ⟨rfl, rfl, rfl, rfl, rfl, rfl, rfl, rfl, trivial⟩⟩
    rintro s ρ O ⟨ln, rfl, hs, hnx, hnf, hH⟩
    obtain ⟨ρ0, rfl⟩ := hH.elim
    clear hH
    have hnl := hnx.len
    refine T.seq (T.seq (T.region ?_))
    refine TO.quiet (q_move rfl) (TO.quiet (q_move rfl) (TO.quiet (q_lss rfl rfl) ?_))
    refine TO.nil ?_
    refine T.condP rfl (fun hc => ?_) (fun hc => ?_)
    · have hlt35 : s < a.next.length := by omega
      refine T.skip (T.seq (T.block (T.seq (T.seq (T.region ?_)))))
      refine TO.quiet (q_move rfl) (TO.quiet (q_move rfl) ?_)
      by_cases hkn : a.next.length ≤ m
      · refine TO.quiet (QT.toB (QT.cast (q_geq rfl rfl) (v' := .bool (decide (a.next.length ≤ m))) (congrArg Value.bool (decide_eq_decide.2 (by omega)))) (decide_eq_true hkn)) ?_
        refine TO.quiet (q_move rfl) ?_
        refine TO.guarded rfl rfl rfl (LT.of_quiet rfl rfl (q_move rfl) ?_)
        refine TO.guarded rfl rfl rfl (LT.of_quiet rfl rfl (q_move rfl) ?_)
        refine TO.guarded rfl rfl rfl (LT.of_quiet rfl rfl (q_ix (i := s) Tryd.underlying23 inf4 rfl rfl (rowO (List.mem_of_getElem? (i := 1) rfl)) hlt35 (by rw [List.length_map]; omega)) ?_)
        by_cases hins : li.getD s false = true
        · refine TO.guarded rfl rfl rfl (LT.of_quiet rfl rfl (QT.toB (QT.cast (q_ld Tryd.underlying4 rfl rfl (rowO (List.mem_of_getElem? (i := 1) rfl)) (bools_at (by omega))) (v' := .bool (decide (li.getD s false = true))) (by cases li.getD s false <;> rfl)) (decide_eq_true hins)) ?_)
          refine TO.quiet (q_pick1 rfl rfl) (TO.quiet (q_move rfl) ?_)
          refine TO.guarded rfl rfl rfl (LT.of_quiet rfl rfl (q_fieldAddr Tryd.underlying25 rfl inf23 rfl rfl) ?_)
          refine TO.guarded rfl rfl rfl (LT.of_quiet rfl rfl (q_load_box 2 Tryd.underlying23 rfl rfl rfl rfl) ?_)
          refine TO.guarded rfl rfl rfl (LT.of_quiet rfl rfl (q_move rfl) ?_)
          refine TO.guarded rfl rfl rfl (LT.of_quiet rfl rfl (q_ix (i := s) Tryd.underlying23 inf4 rfl rfl (Sl.o ha.final) (by omega) (by rw [List.length_map]; omega)) ?_)
          refine TO.guarded rfl rfl rfl (LT.of_quiet rfl rfl (q_ld Tryd.underlying4 rfl rfl (Sl.o ha.final) (bools_at (by omega))) ?_)
          refine TO.quiet (q_pick1 rfl rfl) ?_
          refine TO.nil ?_
          refine T.cond rfl (fun hc => ?_) (fun hc => ?_)
          · have hfn : finN a s = true := hc
            refine T.seq (T.region ?_)
            refine TO.quiet (q_assign rfl) (TO.quiet (q_assign rfl) ?_)
            refine TO.nil (T.ret (Res.drop ?_))
            refine Res.two (.bool false) (.int .i64 0) Tryd.results28 rfl rfl ?_
            have hrs : RchK a m s := (hin.ok s hlt35).1 hins
            exact ⟨[], Sub.z, false, by rw [he]; rfl, rfl, fun _ => ⟨fun h => (by cases h), fun h => (by have := (fin_ref hv.toVal).1 h m hkn (by omega) s hrs; rw [hfn] at this; cases this)⟩, fun _ => rfl⟩
          have hfn : finN a s = false := hc
          refine T.skip (T.seq ?_)
          have hsf : a.next.length ≤ m → RchK a m s → finN a s = false := fun _ _ => hfn
          obtain ⟨v1, c1, g1, s1⟩ := ha.rows.get hlt35
          have hl1 : a.next[s].length = letN a := hv.len _ (List.getElem_mem hlt35)
          refine T.region ?_
          refine TO.quiet (q_assign rfl) ?_
          refine TO.nil (T.block ?_)
          refine T.loop (fun (x : Nat) ρ O => ∃ (ln : List Bool), O = [rowI (some ⟨z3, 0, none⟩) a.next.length 4 1 (bools ln), rowI (some ⟨ib, 0, none⟩) a.next.length 4 1 (bools li), oI z1 25 (dC a k)] ∧ x ≤ letN a ∧ NxK a m s x ln ∧ Heads [(0, (dV a k)), (1, (.pointer (some ⟨z1, 0, none⟩))), (4, .int .i64 0), (5, .int .i64 (a.next.length : Int)), (6, (.slice (some ⟨ib, 0, none⟩) a.next.length a.next.length)), (7, .int .i64 ((m : Nat) : Int)), (8, (.slice (some ⟨z3, 0, none⟩) a.next.length a.next.length)), (9, .int .i64 ((s : Nat) : Int)), (10, .int .i64 ((x : Nat) : Int))] ρ) (fun x => letN a - x) 0 ?_ ?_
          · exact ⟨ln, rfl, Nat.zero_le _, hnx, ⟨rfl, rfl, rfl, rfl, rfl, rfl, rfl, rfl, rfl, trivial⟩⟩
          rintro x ρ O ⟨ln, rfl, hx, hnx, hH⟩
          obtain ⟨ρ0, rfl⟩ := hH.elim
          clear hH
          have hnl := hnx.len
          refine T.seq (T.seq (T.region ?_))
          refine TO.quiet (q_move rfl) (TO.quiet (q_fieldAddr Tryd.underlying25 rfl inf22 rfl rfl) (TO.quiet (q_load_box 2 Tryd.underlying22 rfl rfl rfl rfl) (TO.quiet (q_move rfl) ?_)))
          refine TO.quiet (q_ix (i := s) Tryd.underlying22 inf41 rfl rfl (Sl.o ha.outer) hlt35 (hvl ▸ hlt35)) (TO.quiet (q_ld Tryd.underlying41 rfl rfl (Sl.o ha.outer) g1) (TO.quiet (q_len Tryd.underlying41 rfl) (TO.quiet (q_lss rfl rfl) ?_)))
          refine TO.nil ?_
          refine T.condP rfl (fun hc => ?_) (fun hc => ?_)
          · have hlt61 : x < a.next[s].length := by omega
            have hxl : x < letN a := by omega
            obtain ⟨hto, _, hxk1, hx1⟩ := hv.toN_lt hlt35 hxl
            have hx1 : (ints a.next[s])[x]? = some (.int .i64 ((toN a s x : Nat) : Int)) := by rw [ints_get hxk1, hx1]
            refine T.skip (T.seq (T.block (T.seq (T.region ?_))))
            refine TO.quiet (q_move rfl) (TO.quiet (q_move rfl) (TO.quiet (q_ix (i := s) Tryd.underlying23 inf4 rfl rfl (rowO (List.mem_of_getElem? (i := 1) rfl)) hlt35 (by rw [List.length_map]; omega)) (TO.quiet (q_ld Tryd.underlying4 rfl rfl (rowO (List.mem_of_getElem? (i := 1) rfl)) (bools_at (by omega))) ?_)))
            refine TO.nil ?_
            refine T.cond rfl (fun hc => ?_) (fun hc => ?_)
            · have hrs : RchK a m s := (hin.ok s hlt35).1 hc
              refine T.region ?_
              refine TO.quiet (q_move rfl) (TO.quiet (q_fieldAddr Tryd.underlying25 rfl inf22 rfl rfl) (TO.quiet (q_load_box 2 Tryd.underlying22 rfl rfl rfl rfl) (TO.quiet (q_move rfl) ?_)))
              refine TO.quiet (q_ix (i := s) Tryd.underlying22 inf41 rfl rfl (Sl.o ha.outer) hlt35 (hvl ▸ hlt35)) (TO.quiet (q_ld Tryd.underlying41 rfl rfl (Sl.o ha.outer) g1) (TO.quiet (q_move rfl) (TO.quiet (q_ix (i := x) Tryd.underlying41 inf3 rfl rfl (Sl.o s1) hxk1 (by rw [List.length_map]; omega)) ?_)))
              refine TO.quiet (q_ld Tryd.underlying3 rfl rfl (Sl.o s1) hx1) (TO.quiet (q_ix (i := (toN a s x)) Tryd.underlying23 inf4 rfl rfl (rowO (List.mem_of_getElem? (i := 0) rfl)) hto (by rw [List.length_map]; omega)) ?_)
              refine TO.loud rfl (l_st (j := (toN a s x)) (v := .bool true) (vs := [(.bool true)]) (cs := bools ln) 0 inf4 rfl rfl rfl rfl rfl (by simp) rfl (by rw [List.length_map]; simp; omega) ?_)
              refine TO.sub (O' := [rowI (some ⟨z3, 0, none⟩) a.next.length 4 1 (bools (ln.set (toN a s x) true)), rowI (some ⟨ib, 0, none⟩) a.next.length 4 1 (bools li), oI z1 25 (dC a k)]) (by rw [show putL (bools ln) (toN a s x) [(.bool true)] = bools (ln.set (toN a s x) true) from by simp [putL]]; exact Sub.of (List.Sublist.refl _)) ?_
              refine TO.nil (T.region ?_)
              refine TO.quiet (q_move rfl) (TO.quiet (q_addN (a := x) (b := 1) rfl rfl (by omega)) (TO.quiet (q_assign rfl) ?_))
              refine TO.nil ?_
              exact ⟨x + 1, by omega, _, rfl, by omega, hnx.hit hrs hto, ⟨rfl, rfl, rfl, rfl, rfl, rfl, rfl, rfl, rfl, trivial⟩⟩
            have hrs : ¬ RchK a m s := fun h9 => (by have := (hin.ok s hlt35).2 h9; rw [hc] at this; cases this)
            refine T.skip (T.region ?_)
            refine TO.quiet (q_move rfl) (TO.quiet (q_addN (a := x) (b := 1) rfl rfl (by omega)) (TO.quiet (q_assign rfl) ?_))
            refine TO.nil ?_
            exact ⟨x + 1, by omega, _, rfl, by omega, hnx.miss hrs, ⟨rfl, rfl, rfl, rfl, rfl, rfl, rfl, rfl, rfl, trivial⟩⟩
          have hge61 : ¬ x < a.next[s].length := by omega
          refine T.exit ?_
          refine T.region ?_
          refine TO.quiet (q_move rfl) (TO.quiet (q_addN (a := s) (b := 1) rfl rfl (by omega)) (TO.quiet (q_assign rfl) ?_))
          refine TO.nil ?_
          exact ⟨s + 1, by omega, ln, rfl, by omega, hnx.row (show x = letN a by omega), fun h1 t ht hr => (by
            by_cases e9 : t = s
            · subst e9; exact hsf h1 hr
            · exact hnf h1 t (by omega) hr), ⟨rfl, rfl, rfl, rfl, rfl, rfl, rfl, rfl, trivial⟩⟩
        refine TO.guarded rfl rfl rfl (LT.of_quiet rfl rfl (QT.toB (QT.cast (q_ld Tryd.underlying4 rfl rfl (rowO (List.mem_of_getElem? (i := 1) rfl)) (bools_at (by omega))) (v' := .bool (decide (li.getD s false = true))) (by cases li.getD s false <;> rfl)) (decide_eq_false hins)) ?_)
        refine TO.quiet (q_pick1 rfl rfl) (TO.quiet (q_move rfl) ?_)
        refine TO.passed rfl rfl ?_
        refine TO.passed rfl rfl ?_
        refine TO.passed rfl rfl ?_
        refine TO.passed rfl rfl ?_
        refine TO.passed rfl rfl ?_
        refine TO.quiet (q_pick0 rfl rfl) ?_
        refine TO.nil ?_
        refine T.cond0 rfl ?_
        refine T.skip (T.seq ?_)
        have hsf : a.next.length ≤ m → RchK a m s → finN a s = false := fun _ h2 => absurd ((hin.ok s hlt35).2 h2) hins
        obtain ⟨v1, c1, g1, s1⟩ := ha.rows.get hlt35
        have hl1 : a.next[s].length = letN a := hv.len _ (List.getElem_mem hlt35)
        refine T.region ?_
        refine TO.quiet (q_assign rfl) ?_
        refine TO.nil (T.block ?_)
        refine T.loop (fun (x : Nat) ρ O => ∃ (ln : List Bool), O = [rowI (some ⟨z3, 0, none⟩) a.next.length 4 1 (bools ln), rowI (some ⟨ib, 0, none⟩) a.next.length 4 1 (bools li), oI z1 25 (dC a k)] ∧ x ≤ letN a ∧ NxK a m s x ln ∧ Heads [(0, (dV a k)), (1, (.pointer (some ⟨z1, 0, none⟩))), (4, .int .i64 0), (5, .int .i64 (a.next.length : Int)), (6, (.slice (some ⟨ib, 0, none⟩) a.next.length a.next.length)), (7, .int .i64 ((m : Nat) : Int)), (8, (.slice (some ⟨z3, 0, none⟩) a.next.length a.next.length)), (9, .int .i64 ((s : Nat) : Int)), (10, .int .i64 ((x : Nat) : Int))] ρ) (fun x => letN a - x) 0 ?_ ?_
        · exact ⟨ln, rfl, Nat.zero_le _, hnx, ⟨rfl, rfl, rfl, rfl, rfl, rfl, rfl, rfl, rfl, trivial⟩⟩
        rintro x ρ O ⟨ln, rfl, hx, hnx, hH⟩
        obtain ⟨ρ0, rfl⟩ := hH.elim
        clear hH
        have hnl := hnx.len
        refine T.seq (T.seq (T.region ?_))
        refine TO.quiet (q_move rfl) (TO.quiet (q_fieldAddr Tryd.underlying25 rfl inf22 rfl rfl) (TO.quiet (q_load_box 2 Tryd.underlying22 rfl rfl rfl rfl) (TO.quiet (q_move rfl) ?_)))
        refine TO.quiet (q_ix (i := s) Tryd.underlying22 inf41 rfl rfl (Sl.o ha.outer) hlt35 (hvl ▸ hlt35)) (TO.quiet (q_ld Tryd.underlying41 rfl rfl (Sl.o ha.outer) g1) (TO.quiet (q_len Tryd.underlying41 rfl) (TO.quiet (q_lss rfl rfl) ?_)))
        refine TO.nil ?_
        refine T.condP rfl (fun hc => ?_) (fun hc => ?_)
        · have hlt61 : x < a.next[s].length := by omega
          have hxl : x < letN a := by omega
          obtain ⟨hto, _, hxk1, hx1⟩ := hv.toN_lt hlt35 hxl
          have hx1 : (ints a.next[s])[x]? = some (.int .i64 ((toN a s x : Nat) : Int)) := by rw [ints_get hxk1, hx1]
          refine T.skip (T.seq (T.block (T.seq (T.region ?_))))
          refine TO.quiet (q_move rfl) (TO.quiet (q_move rfl) (TO.quiet (q_ix (i := s) Tryd.underlying23 inf4 rfl rfl (rowO (List.mem_of_getElem? (i := 1) rfl)) hlt35 (by rw [List.length_map]; omega)) (TO.quiet (q_ld Tryd.underlying4 rfl rfl (rowO (List.mem_of_getElem? (i := 1) rfl)) (bools_at (by omega))) ?_)))
          refine TO.nil ?_
          refine T.cond rfl (fun hc => ?_) (fun hc => ?_)
          · have hrs : RchK a m s := (hin.ok s hlt35).1 hc
            refine T.region ?_
            refine TO.quiet (q_move rfl) (TO.quiet (q_fieldAddr Tryd.underlying25 rfl inf22 rfl rfl) (TO.quiet (q_load_box 2 Tryd.underlying22 rfl rfl rfl rfl) (TO.quiet (q_move rfl) ?_)))
            refine TO.quiet (q_ix (i := s) Tryd.underlying22 inf41 rfl rfl (Sl.o ha.outer) hlt35 (hvl ▸ hlt35)) (TO.quiet (q_ld Tryd.underlying41 rfl rfl (Sl.o ha.outer) g1) (TO.quiet (q_move rfl) (TO.quiet (q_ix (i := x) Tryd.underlying41 inf3 rfl rfl (Sl.o s1) hxk1 (by rw [List.length_map]; omega)) ?_)))
            refine TO.quiet (q_ld Tryd.underlying3 rfl rfl (Sl.o s1) hx1) (TO.quiet (q_ix (i := (toN a s x)) Tryd.underlying23 inf4 rfl rfl (rowO (List.mem_of_getElem? (i := 0) rfl)) hto (by rw [List.length_map]; omega)) ?_)
            refine TO.loud rfl (l_st (j := (toN a s x)) (v := .bool true) (vs := [(.bool true)]) (cs := bools ln) 0 inf4 rfl rfl rfl rfl rfl (by simp) rfl (by rw [List.length_map]; simp; omega) ?_)
            refine TO.sub (O' := [rowI (some ⟨z3, 0, none⟩) a.next.length 4 1 (bools (ln.set (toN a s x) true)), rowI (some ⟨ib, 0, none⟩) a.next.length 4 1 (bools li), oI z1 25 (dC a k)]) (by rw [show putL (bools ln) (toN a s x) [(.bool true)] = bools (ln.set (toN a s x) true) from by simp [putL]]; exact Sub.of (List.Sublist.refl _)) ?_
            refine TO.nil (T.region ?_)
            refine TO.quiet (q_move rfl) (TO.quiet (q_addN (a := x) (b := 1) rfl rfl (by omega)) (TO.quiet (q_assign rfl) ?_))
            refine TO.nil ?_
            exact ⟨x + 1, by omega, _, rfl, by omega, hnx.hit hrs hto, ⟨rfl, rfl, rfl, rfl, rfl, rfl, rfl, rfl, rfl, trivial⟩⟩
          have hrs : ¬ RchK a m s := fun h9 => (by have := (hin.ok s hlt35).2 h9; rw [hc] at this; cases this)
          refine T.skip (T.region ?_)
          refine TO.quiet (q_move rfl) (TO.quiet (q_addN (a := x) (b := 1) rfl rfl (by omega)) (TO.quiet (q_assign rfl) ?_))
          refine TO.nil ?_
          exact ⟨x + 1, by omega, _, rfl, by omega, hnx.miss hrs, ⟨rfl, rfl, rfl, rfl, rfl, rfl, rfl, rfl, rfl, trivial⟩⟩
        have hge61 : ¬ x < a.next[s].length := by omega
        refine T.exit ?_
        refine T.region ?_
        refine TO.quiet (q_move rfl) (TO.quiet (q_addN (a := s) (b := 1) rfl rfl (by omega)) (TO.quiet (q_assign rfl) ?_))
        refine TO.nil ?_
        exact ⟨s + 1, by omega, ln, rfl, by omega, hnx.row (show x = letN a by omega), fun h1 t ht hr => (by
          by_cases e9 : t = s
          · subst e9; exact hsf h1 hr
          · exact hnf h1 t (by omega) hr), ⟨rfl, rfl, rfl, rfl, rfl, rfl, rfl, rfl, trivial⟩⟩
      refine TO.quiet (QT.toB (QT.cast (q_geq rfl rfl) (v' := .bool (decide (a.next.length ≤ m))) (congrArg Value.bool (decide_eq_decide.2 (by omega)))) (decide_eq_false hkn)) (TO.quiet (q_move rfl) ?_)
      refine TO.passed rfl rfl ?_
      refine TO.passed rfl rfl ?_
      refine TO.passed rfl rfl ?_
      refine TO.passed rfl rfl ?_
      refine TO.quiet (q_pick0 rfl rfl) (TO.quiet (q_move rfl) ?_)
      refine TO.passed rfl rfl ?_
      refine TO.passed rfl rfl ?_
      refine TO.passed rfl rfl ?_
      refine TO.passed rfl rfl ?_
      refine TO.passed rfl rfl ?_
      refine TO.quiet (q_pick0 rfl rfl) ?_
      refine TO.nil ?_
      refine T.cond0 rfl ?_
      refine T.skip (T.seq ?_)
      have hsf : a.next.length ≤ m → RchK a m s → finN a s = false := fun h1 => absurd h1 hkn
      obtain ⟨v1, c1, g1, s1⟩ := ha.rows.get hlt35
      have hl1 : a.next[s].length = letN a := hv.len _ (List.getElem_mem hlt35)
      refine T.region ?_
      refine TO.quiet (q_assign rfl) ?_
      refine TO.nil (T.block ?_)
      refine T.loop (fun (x : Nat) ρ O => ∃ (ln : List Bool), O = [rowI (some ⟨z3, 0, none⟩) a.next.length 4 1 (bools ln), rowI (some ⟨ib, 0, none⟩) a.next.length 4 1 (bools li), oI z1 25 (dC a k)] ∧ x ≤ letN a ∧ NxK a m s x ln ∧ Heads [(0, (dV a k)), (1, (.pointer (some ⟨z1, 0, none⟩))), (4, .int .i64 0), (5, .int .i64 (a.next.length : Int)), (6, (.slice (some ⟨ib, 0, none⟩) a.next.length a.next.length)), (7, .int .i64 ((m : Nat) : Int)), (8, (.slice (some ⟨z3, 0, none⟩) a.next.length a.next.length)), (9, .int .i64 ((s : Nat) : Int)), (10, .int .i64 ((x : Nat) : Int))] ρ) (fun x => letN a - x) 0 ?_ ?_
      · exact ⟨ln, rfl, Nat.zero_le _, hnx, ⟨rfl, rfl, rfl, rfl, rfl, rfl, rfl, rfl, rfl, trivial⟩⟩
      rintro x ρ O ⟨ln, rfl, hx, hnx, hH⟩
      obtain ⟨ρ0, rfl⟩ := hH.elim
      clear hH
      have hnl := hnx.len
      refine T.seq (T.seq (T.region ?_))
      refine TO.quiet (q_move rfl) (TO.quiet (q_fieldAddr Tryd.underlying25 rfl inf22 rfl rfl) (TO.quiet (q_load_box 2 Tryd.underlying22 rfl rfl rfl rfl) (TO.quiet (q_move rfl) ?_)))
      refine TO.quiet (q_ix (i := s) Tryd.underlying22 inf41 rfl rfl (Sl.o ha.outer) hlt35 (hvl ▸ hlt35)) (TO.quiet (q_ld Tryd.underlying41 rfl rfl (Sl.o ha.outer) g1) (TO.quiet (q_len Tryd.underlying41 rfl) (TO.quiet (q_lss rfl rfl) ?_)))
      refine TO.nil ?_
      refine T.condP rfl (fun hc => ?_) (fun hc => ?_)
      · have hlt61 : x < a.next[s].length := by omega
        have hxl : x < letN a := by omega
        obtain ⟨hto, _, hxk1, hx1⟩ := hv.toN_lt hlt35 hxl
        have hx1 : (ints a.next[s])[x]? = some (.int .i64 ((toN a s x : Nat) : Int)) := by rw [ints_get hxk1, hx1]
        refine T.skip (T.seq (T.block (T.seq (T.region ?_))))
        refine TO.quiet (q_move rfl) (TO.quiet (q_move rfl) (TO.quiet (q_ix (i := s) Tryd.underlying23 inf4 rfl rfl (rowO (List.mem_of_getElem? (i := 1) rfl)) hlt35 (by rw [List.length_map]; omega)) (TO.quiet (q_ld Tryd.underlying4 rfl rfl (rowO (List.mem_of_getElem? (i := 1) rfl)) (bools_at (by omega))) ?_)))
        refine TO.nil ?_
        refine T.cond rfl (fun hc => ?_) (fun hc => ?_)
        · have hrs : RchK a m s := (hin.ok s hlt35).1 hc
          refine T.region ?_
          refine TO.quiet (q_move rfl) (TO.quiet (q_fieldAddr Tryd.underlying25 rfl inf22 rfl rfl) (TO.quiet (q_load_box 2 Tryd.underlying22 rfl rfl rfl rfl) (TO.quiet (q_move rfl) ?_)))
          refine TO.quiet (q_ix (i := s) Tryd.underlying22 inf41 rfl rfl (Sl.o ha.outer) hlt35 (hvl ▸ hlt35)) (TO.quiet (q_ld Tryd.underlying41 rfl rfl (Sl.o ha.outer) g1) (TO.quiet (q_move rfl) (TO.quiet (q_ix (i := x) Tryd.underlying41 inf3 rfl rfl (Sl.o s1) hxk1 (by rw [List.length_map]; omega)) ?_)))
          refine TO.quiet (q_ld Tryd.underlying3 rfl rfl (Sl.o s1) hx1) (TO.quiet (q_ix (i := (toN a s x)) Tryd.underlying23 inf4 rfl rfl (rowO (List.mem_of_getElem? (i := 0) rfl)) hto (by rw [List.length_map]; omega)) ?_)
          refine TO.loud rfl (l_st (j := (toN a s x)) (v := .bool true) (vs := [(.bool true)]) (cs := bools ln) 0 inf4 rfl rfl rfl rfl rfl (by simp) rfl (by rw [List.length_map]; simp; omega) ?_)
          refine TO.sub (O' := [rowI (some ⟨z3, 0, none⟩) a.next.length 4 1 (bools (ln.set (toN a s x) true)), rowI (some ⟨ib, 0, none⟩) a.next.length 4 1 (bools li), oI z1 25 (dC a k)]) (by rw [show putL (bools ln) (toN a s x) [(.bool true)] = bools (ln.set (toN a s x) true) from by simp [putL]]; exact Sub.of (List.Sublist.refl _)) ?_
          refine TO.nil (T.region ?_)
          refine TO.quiet (q_move rfl) (TO.quiet (q_addN (a := x) (b := 1) rfl rfl (by omega)) (TO.quiet (q_assign rfl) ?_))
          refine TO.nil ?_
          exact ⟨x + 1, by omega, _, rfl, by omega, hnx.hit hrs hto, ⟨rfl, rfl, rfl, rfl, rfl, rfl, rfl, rfl, rfl, trivial⟩⟩
        have hrs : ¬ RchK a m s := fun h9 => (by have := (hin.ok s hlt35).2 h9; rw [hc] at this; cases this)
        refine T.skip (T.region ?_)
        refine TO.quiet (q_move rfl) (TO.quiet (q_addN (a := x) (b := 1) rfl rfl (by omega)) (TO.quiet (q_assign rfl) ?_))
        refine TO.nil ?_
        exact ⟨x + 1, by omega, _, rfl, by omega, hnx.miss hrs, ⟨rfl, rfl, rfl, rfl, rfl, rfl, rfl, rfl, rfl, trivial⟩⟩
      have hge61 : ¬ x < a.next[s].length := by omega
      refine T.exit ?_
      refine T.region ?_
      refine TO.quiet (q_move rfl) (TO.quiet (q_addN (a := s) (b := 1) rfl rfl (by omega)) (TO.quiet (q_assign rfl) ?_))
      refine TO.nil ?_
      exact ⟨s + 1, by omega, ln, rfl, by omega, hnx.row (show x = letN a by omega), fun h1 t ht hr => (by
        by_cases e9 : t = s
        · subst e9; exact hsf h1 hr
        · exact hnf h1 t (by omega) hr), ⟨rfl, rfl, rfl, rfl, rfl, rfl, rfl, rfl, trivial⟩⟩
    have hge35 : ¬ s < a.next.length := by omega
    refine T.exit ?_
    refine T.region ?_
    refine TO.quiet (q_move rfl) (TO.quiet (q_assign rfl) ?_)
    refine TO.nil (T.region ?_)
    refine TO.quiet (q_move rfl) (TO.quiet (q_addN (a := m) (b := 1) rfl rfl (by omega)) (TO.quiet (q_assign rfl) ?_))
    refine TO.nil ?_
    have hse : s = a.next.length := by omega
    exact ⟨m + 1, by omega, [rowI (some ⟨z3, 0, none⟩) a.next.length 4 1 (bools ln), oI z1 25 (dC a k)], (by exact Sub.k (.d (.k .z))), z3, ln, rfl, by omega, hnx.end hv.toVal hse, fun j h1 h2 t ht => (by
      by_cases e9 : j = m
      · subst e9; exact hnf h1 t (by have := ht.lt hv.toVal; omega) ht
      · exact hno j h1 (by omega) t ht), ⟨rfl, rfl, rfl, rfl, rfl, rfl, trivial⟩⟩
  have hge28 : ¬ m < 2 * a.next.length := by omega
  refine T.exit ?_
  refine T.seq (T.region ?_)
  refine TO.quiet (q_assign rfl) (TO.quiet (q_assign rfl) ?_)
  refine TO.nil (T.ret (Res.drop ?_))
  refine Res.two (.bool true) (.int .i64 0) Tryd.results28 rfl rfl ?_
  exact ⟨[], Sub.z, true, by rw [he]; rfl, rfl, fun _ => ⟨fun _ => (fin_ref hv.toVal).2 (fun j h1 h2 => hno j h1 (by omega)), fun _ => rfl⟩, fun h => absurd he h⟩
theorem rUnivC (w : World) [Tab Tryd.prog w] (a : DFA) (k : DK) (ha : At w a k) (haa : a.next.length < 9223372036854775807) (haar : ∀ r ∈ a.next, r.length < 9223372036854775807) (haaf : a.final.length < 9223372036854775807) :
    PureT Tryd.prog 27 [dV a k] w fun v N => ∃ b, v = .tuple #[.bool b, .int .i64 (checkD a : Int)] ∧ N = [] ∧ (checkD a = 0 → (b = true ↔ ∀ u, Wd a u → acc a u = true)) ∧ (checkD a ≠ 0 → b = false) := by
  by_cases he : checkD a ≠ 0
  · exact rUnivBad w a k ha haa haar haaf he
  · exact rUnivOk w a k ha (checkD_zero.1 (by omega))
theorem rFinC (w : World) [Tab Tryd.prog w] (a : DFA) (k : DK) (ha : At w a k) (haa : a.next.length < 9223372036854775807) (haar : ∀ r ∈ a.next, r.length < 9223372036854775807) (haaf : a.final.length < 9223372036854775807) :
    PureT Tryd.prog 28 [dV a k] w fun v N => ∃ b, v = .tuple #[.bool b, .int .i64 (checkD a : Int)] ∧ N = [] ∧ (checkD a = 0 → (b = true ↔ ¬ InfC a a.start.toNat)) ∧ (checkD a ≠ 0 → b = false) := by
  by_cases he : checkD a ≠ 0
  · exact rFinBad w a k ha haa haar haaf he
  · exact rFinOk w a k ha (checkD_zero.1 (by omega))
end Go.Proofs.YtnmfefmhfkhihaaDoor


namespace Go.Proofs.YtnmfefmhfkhihaaDoor
open Go.Lx Go.RowKit
set_option linter.unusedVariables false
set_option linter.unusedSimpArgs false
end Go.Proofs.YtnmfefmhfkhihaaDoor


namespace Go.Lx
open Go.RowKit Go.ChangeShapes Go.WideShapes Go.Deep
set_option linter.unusedVariables false
section
variable {H : Type} {enc : TypeId × Value → H} {P : Program}
theorem TrodAll_stays (hl : laidOutB P = true) {W W' : World} {sp' : Nat → Bool} : ∀ {ts : List TypeId} {vs : List Value} {ds : List (DataW H)} {ps : List MemPlace},
    (∀ t ∈ ts, P.readableRec t = true ∧ t < P.types.size) → DataW.TrodAll enc P W 0 (fun _ => true) true ts vs ds ps → (∀ p ∈ ps, W.sameAt W' p) → (∀ p ∈ ps, sp' p.block = true) → DataW.TrodAll enc P W' 0 sp' true ts vs ds ps
  | [], _, _, _, _, h, _, _ => by
    obtain ⟨rfl, rfl, rfl⟩ := trodAll_nil h
    rfl
  | t :: ts, _, _, _, hr, h, hs, hsp => by
    obtain ⟨v, vs1, d, ds1, p, q, rfl, rfl, rfl, h1, h2⟩ := trodAll_cons h
    have ht := hr t (by simp)
    exact ⟨p, q, WideElems.Trod_stays hl ht.1 ht.2 h1 (fun x hx => hs x (List.mem_append_left _ hx)) (fun x hx => hsp x (List.mem_append_left _ hx)),
      TrodAll_stays hl (fun t ht => hr t (by simp [ht])) h2 (fun x hx => hs x (List.mem_append_right _ hx)) (fun x hx => hsp x (List.mem_append_right _ hx)), rfl⟩
theorem post_law {f : Func} {s : ChangeSpec} {W W' : World} {args : Array Value} {ds gs : List (DataW H)} {before : List MemPlace} {tb : TypeId}
    (hl : laidOutB P = true) (hr : ∀ t ∈ f.params.toList, P.readableRec t = true ∧ t < P.types.size) (hres : f.resultTypes = #[tb]) (hb : P.underlying tb = some .bool) (hv : s.vars = [])
    (hW : DataW.Whole enc P f.params.toList s.vars false W args.toList ds gs before)
    (h1 : (s.fn H ds).results = [.lit (.bool true)]) (h2 : (s.fn H ds).args = ds) (h3 : (s.fn H ds).vars = [])
    (hB : Below W.heap.size W W') : s.post enc P f false true false false W args (.bool true) W' := by
  have hW0 := hW
  obtain ⟨p, q, hA, hV, rfl, hz, hn⟩ := hW
  rw [hv] at hV
  obtain ⟨rfl, rfl⟩ := trodVars_none hV
  simp only [List.append_nil] at hW0 hz hn
  have hlt := hW0.lt
  have hsame : ∀ x ∈ p, W.sameAt W' x := fun x hx => hB.same (hlt x hx)
  have hargs : ∀ sp : Nat → Bool, (∀ x ∈ p, sp x.block = true) → DataW.TrodAll enc P W' 0 sp true f.params.toList args.toList (s.fn H (ds ++ [])).args p := fun sp hsp => by
    rw [List.append_nil, h2]
    exact TrodAll_stays hl hr hA hsame hsp
  have hvars : ∀ sp : Nat → Bool, DataW.TrodVars enc P W' sp s.vars (s.fn H (ds ++ [])).vars [] := fun sp => by
    rw [List.append_nil, hv, h3]; rfl
  have hresult : ∀ (b : Nat) (sp : Nat → Bool) (hd : Bool), DataW.TrodAll enc P W' b sp hd f.resultTypes.toList ((Value.bool true).resultList f.resultTypes.size) (s.fn H (ds ++ [])).results [] := fun b sp hd => by
    rw [List.append_nil, h1, hres]
    exact trodAll_cons_mk (shut_bool hb _) trodAll_mk0
  have hold : ∀ x ∈ p, (fun b => decide (b < W.heap.size)) x.block = true := fun x hx => by simpa using hlt x hx
  refine ⟨ds, [], p, [], p, [], hW0, hresult _ _ _, hargs _ hold, hvars _, World.keptBut_mono (fun x hx => ⟨hx, ?_⟩) (hB.frame _), fun _ => ?_⟩
  · exact Or.inr (by simpa using hx)
  · refine ⟨ok_one hres rfl (okWide_bool_mk hb _), _, _, ([] ++ p) ++ [], ⟨[] ++ p, [], trodAll_append (hargs _ (fun _ _ => rfl)) (hresult _ _ _), hvars _, rfl, ?_, ?_⟩, ?_⟩
    · intro b off hx
      have hx' : MemPlace.cell b off ∈ p := by simpa using hx
      rw [hB.frozen (p := ⟨b, off, none⟩) (hlt _ hx')]
      exact hz b off hx'
    · intro ha; cases ha
    · intro x hx _
      simpa using hx
theorem spotNone {w : World} {a : Addr} {v : Value} (h : w.cell? a = some v) : a.spot = none := by
  unfold World.cell? at h
  cases e : a.spot with
  | none => rfl
  | some x => rw [e] at h; split at h <;> simp at h
theorem Sl.ofCells {w : World} {a : Addr} {cs : List Value} (h : ∀ i (hi : i < cs.length), w.cell? (a.add i) = some cs[i]) : Sl w (some a) cs := fun i hi => by
  have h0 := h 0 (by omega)
  have h1 := h i hi
  have h2 : a.spot = none := spotNone (a := a) (by simpa [Addr.add] using h0)
  refine ⟨a, rfl, h2, ?_⟩
  have e : a.add i = ⟨a.block, a.off + i, none⟩ := by
    unfold Addr.add
    split
    · rename_i h; subst h
      cases a with
      | mk b o s => simp at h2; subst h2; rfl
    · rfl
  rw [← e]; exact h1
structure DfaIn (P : Program) (W : World) (v : Value) (d : DFA) (nb fb : Option Addr) (nc fc : Nat) (vs : List Value) : Prop where
  val : v = .agg (dfaCells d nb nc fb fc).toArray
  at_ : DfaAt W d nb vs fb
  n : d.next.length ≤ reachBytes
  r : ∀ r ∈ d.next, r.length ≤ reachBytes
  f : d.final.length ≤ reachBytes
  fcap : d.final.length ≤ fc
  rcap : ∀ (i : Nat) (b : Option Addr) (n c : Nat), vs[i]? = some (Value.slice b n c) → n ≤ c
theorem weights_all (e : TypeId) : ∀ {l : List (DataW H)} {d : DataW H}, d ∈ l → ∀ m ∈ d.weights P e, m ∈ DataW.weightsAll P e l
  | [], _, h, _, _ => by cases h
  | x :: l, d, h, m, hm => by
    rw [DataW.weightsAll, List.mem_append]
    rcases List.mem_cons.1 h with rfl | h
    · exact .inl hm
    · exact .inr (weights_all e h m hm)
theorem slice_bound {t e : TypeId} {elems spare : List (DataW H)} (ht : P.underlying t = some (.slice e)) (he : 0 < P.bytesOf e) (h : ∀ m ∈ (DataW.slice elems spare).weights P t, m ≤ reachBytes) :
    elems.length ≤ reachBytes ∧ ∀ d ∈ elems, ∀ m ∈ d.weights P e, m ≤ reachBytes := by
  have hw : (DataW.slice elems spare).weights P t = (elems.length + spare.length) * P.bytesOf e :: (DataW.weightsAll P e elems ++ DataW.weightsAll P e spare) := by
    rw [DataW.weights, ht]
  rw [hw] at h
  refine ⟨?_, fun d hd m hm => h m (List.mem_cons_of_mem _ (List.mem_append_left _ (weights_all e hd m hm)))⟩
  have h1 := h _ List.mem_cons_self
  have h2 := Nat.mul_le_mul_left (elems.length + spare.length) (show 1 ≤ P.bytesOf e from he)
  omega
theorem intsOf {w : World} {A : Option Addr} {L C : Nat} {Z : List Int} (hL : L ≤ C) (hZ : Z.length = C) (h0 : A = none → C = 0) (h : ∀ a', A = some a' → 0 ≤ a'.block ∧ ∀ c, c < C → w.cell? (a'.add c) = some (.int .i64 (Z.getD c 0))) :
    (Z.take L).length = L ∧ Sl w A (ints (Z.take L)) := by
  have hl : (Z.take L).length = L := by rw [List.length_take]; omega
  refine ⟨hl, ?_⟩
  cases A with
  | none =>
    have := h0 rfl
    have : Z.take L = [] := List.eq_nil_of_length_eq_zero (by omega)
    rw [this]; exact Sl.nil _ _
  | some a =>
    refine Sl.ofCells fun i hi => ?_
    have hi' : i < L := by rw [List.length_map, hl] at hi; exact hi
    have hiz : i < Z.length := by omega
    rw [(h a rfl).2 i (by omega), List.getElem_map, List.getElem_take]
    simp [hiz]
theorem open_dfa {t ti tn tr tf tb : TypeId} {f0 f1 f2 f3 : Field} {W : World} {v : Value} {d : DataW H} {p : List MemPlace}
    (ht : P.underlying t = some (.struct #[f0, f1, f2, f3])) (hc : P.cellsOf t = 4) (h0 : f0.type = ti) (h1 : f1.type = ti) (h2 : f2.type = tn) (h3 : f3.type = tf) (o0 : f0.offset = 0) (o1 : f1.offset = 1) (o2 : f2.offset = 2) (o3 : f3.offset = 3)
    (hi : P.underlying ti = some (.int .i64)) (hn : P.underlying tn = some (.slice tr)) (hrow : P.underlying tr = some (.slice ti)) (hf : P.underlying tf = some (.slice tb)) (hb : P.underlying tb = some .bool)
    (ci : P.cellsOf ti = 1) (cn : P.cellsOf tn = 1) (cr : P.cellsOf tr = 1) (cf : P.cellsOf tf = 1) (cb : P.cellsOf tb = 1) (br : 0 < P.bytesOf tr) (bi : 0 < P.bytesOf ti) (bb : 0 < P.bytesOf tb) (hw : ∀ m ∈ d.weights P t, m ≤ reachBytes)
    (h : DataW.Trod enc P W 0 (fun _ => true) true t v d p) : ∃ D nb fb nc fc vs, DfaIn P W v D nb fb nc fc vs := by
  obtain ⟨fuel, hT⟩ := h
  obtain ⟨xs, n, rfl, hx, hlen, hxl, hfs⟩ := DataW.trod_struct ht hT
  rw [hc] at hlen
  obtain ⟨c0, c1, c2, c3, hcs⟩ : ∃ c0 c1 c2 c3, v.cells.toList = [c0, c1, c2, c3] := by
    match hh : v.cells.toList, hlen with
    | [a, b, c, e], _ => exact ⟨a, b, c, e, rfl⟩
  have hv : v = .agg #[c0, c1, c2, c3] := by
    have hsz : v.cells.size = 4 := by rw [← Array.length_toList, hcs]; rfl
    cases v with
    | agg cs =>
      have : cs.toList = [c0, c1, c2, c3] := hcs
      rw [← Array.toArray_toList (xs := cs), this]
    | _ => simp [Value.cells] at hsz
  rw [hcs] at hfs
  obtain ⟨x0, x1, x2, x3, rfl⟩ : ∃ a b c e, xs = [a, b, c, e] := by
    match xs, hxl with
    | [a, b, c, e], _ => exact ⟨a, b, c, e, rfl⟩
  have g0 := hfs 0 f0 rfl
  have g1 := hfs 1 f1 rfl
  have g2 := hfs 2 f2 rfl
  have g3 := hfs 3 f3 rfl
  rw [h0, o0, ci] at g0
  rw [h1, o1, ci] at g1
  rw [h2, o2, cn] at g2
  rw [h3, o3, cf] at g3
  have hd : d = .agg [x0.1, x1.1, x2.1, x3.1] := congrArg Prod.fst hx
  have hwe : d.weights P t = DataW.weightsEach P [ti, ti, tn, tf] [x0.1, x1.1, x2.1, x3.1] := by
    rw [hd, DataW.weights, ht]
    simp [h0, h1, h2, h3]
  rw [hwe] at hw
  have hw2 : ∀ m ∈ x2.1.weights P tn, m ≤ reachBytes := fun m hm => hw m (DataW.weights_mem_each (j := 2) rfl rfl m hm)
  have hw3 : ∀ m ∈ x3.1.weights P tf, m ≤ reachBytes := fun m hm => hw m (DataW.weights_mem_each (j := 3) rfl rfl m hm)
  obtain ⟨n0, e0, _, _⟩ := DataW.trod_int hi g0
  obtain ⟨n1, e1, _, _⟩ := DataW.trod_int hi g1
  have e0' : c0 = .int .i64 n0 := by simpa using e0
  have e1' : c1 = .int .i64 n1 := by simpa using e1
  subst e0' e1'
  obtain ⟨nb, nc, rows, vs, e2, hnl, hvl, hout, hrows, hrcap⟩ : ∃ (nb : Option Addr) (nc : Nat) (rows : List (List Int)) (vs : List Value), c2 = .slice nb rows.length nc ∧ rows.length ≤ reachBytes ∧ (∀ r ∈ rows, r.length ≤ reachBytes) ∧ Sl W nb vs ∧ RowsR W vs rows ∧ ∀ (i : Nat) (b : Option Addr) (n c : Nat), vs[i]? = some (Value.slice b n c) → n ≤ c := by
    rcases open_int_rows hn hrow hi cr ci g2 with ⟨hcs2, _⟩ | ⟨a, len, cap, A, L, C, Z, hcs2, _, hlc, hcm, hx2, hall⟩
    · exact ⟨none, 0, [], [], by simpa using hcs2, Nat.zero_le _, fun r hr => (List.not_mem_nil hr).elim, Sl.nil _ _, ⟨rfl, fun i r hr => by simp at hr⟩, fun i b n c hr => by simp at hr⟩
    · rw [congrArg Prod.fst hx2] at hw2
      obtain ⟨hwl, hwr⟩ := slice_bound hn br hw2
      have hwl' : len ≤ reachBytes := by simpa using hwl
      have hwrow : ∀ r, r < len → L r ≤ reachBytes := fun r hr => by
        obtain ⟨_, a2, _, a4, _, a6, _⟩ := hall r (by omega)
        have hm := hwr _ (List.mem_map.2 ⟨r, List.mem_range.2 hr, rfl⟩)
        cases hA : A r with
        | none => have := a6 hA; omega
        | some b =>
          rw [hA] at hm
          have := (slice_bound hrow bi hm).1
          simp [lits] at this
          omega
      have hrl : ∀ r, r < len → ((Z r).take (L r)).length = L r ∧ Sl W (A r) (ints ((Z r).take (L r))) := fun r hr => by
        obtain ⟨_, a2, a3, a4, _, a6, a7⟩ := hall r (by omega)
        exact intsOf a2 a4 a6 a7
      refine ⟨some a, cap, (List.range len).map fun r => (Z r).take (L r), (List.range len).map fun r => .slice (A r) (L r) (C r), by simpa using hcs2, by simp; omega, ?_, ?_, ⟨by simp, ?_⟩, ?_⟩
      · intro r hr
        obtain ⟨j, hj, rfl⟩ := List.mem_map.1 hr
        have hj' := List.mem_range.1 hj
        rw [(hrl j hj').1]; exact hwrow j hj'
      · refine Sl.ofCells fun i hi9 => ?_
        have hi' : i < len := by simpa using hi9
        rw [(hall i (by omega)).1]; simp
      · intro i r hr
        have hi' : i < len := by
          have := (List.getElem?_eq_some_iff.1 hr).1
          simpa using this
        have er : r = (Z i).take (L i) := by
          rw [List.getElem?_map, List.getElem?_range hi'] at hr
          exact (Option.some.inj hr).symm
        subst er
        refine ⟨A i, C i, ?_, (hrl i hi').2⟩
        rw [List.getElem?_map, List.getElem?_range hi', (hrl i hi').1]; rfl
      · intro i b n c hr
        by_cases hi' : i < len
        · rw [List.getElem?_map, List.getElem?_range hi'] at hr
          have h9 := Option.some.inj hr
          obtain ⟨_, a2, _⟩ := hall i (by omega)
          injection h9 with _ h10 h11
          omega
        · rw [List.getElem?_eq_none (by simpa using hi')] at hr; cases hr
  obtain ⟨fb, fc, fin, e3, hfl, hfin, hfcap⟩ : ∃ (fb : Option Addr) (fc : Nat) (fin : List Bool), c3 = .slice fb fin.length fc ∧ fin.length ≤ reachBytes ∧ Sl W fb (bools fin) ∧ fin.length ≤ fc := by
    rcases open_bools hf hb cb g3 with ⟨hcs3, _⟩ | ⟨a, len, cap, B, hcs3, _, hlc, hcm, hx3, hall⟩
    · exact ⟨none, 0, [], by simpa using hcs3, Nat.zero_le _, Sl.nil _ _, Nat.zero_le _⟩
    · rw [congrArg Prod.fst hx3] at hw3
      have hwl := (slice_bound hf bb hw3).1
      have hwl' : len ≤ reachBytes := by simpa using hwl
      refine ⟨some a, cap, (List.range len).map B, by simpa using hcs3, by simp; omega, Sl.ofCells fun i hi9 => ?_, by simp; omega⟩
      have hi' : i < len := by simpa using hi9
      rw [hall i (by omega)]; simp
  exact ⟨⟨n0, n1, rows, fin⟩, nb, fb, nc, fc, vs, by rw [hv, e2, e3], ⟨hout, hrows, hfin⟩, hnl, hvl, hfl, hfcap, hrcap⟩
theorem lt63 {n : Nat} (h : n ≤ reachBytes) : n < 9223372036854775807 := Nat.lt_of_le_of_lt h (by decide)
end
end Go.Lx


namespace Go.Proofs.YtnmfefmhfkhihaaDoor
open Go.ChangeShapes Go.WideShapes Go.ChangeAt Go.RowKit Go.Lx
set_option maxRecDepth 100000
theorem own : ownKnob Tryd.prog.godebug = none := by kernel_rfl
theorem laidOut : laidOutB Tryd.prog = true := by kernel_rfl
theorem reads25 : Tryd.prog.readableRec 25 = true := by kernel_rfl
theorem reads3 : Tryd.prog.readableRec 3 = true := by kernel_rfl
theorem lt25 : 25 < Tryd.prog.types.size := of_decide_eq_true (by kernel_rfl)
theorem lt3 : 3 < Tryd.prog.types.size := of_decide_eq_true (by kernel_rfl)
theorem cells_a : Tryd.prog.cellsOf 25 = 4 := by kernel_rfl
theorem cells_b : Tryd.prog.cellsOf 3 = 1 := by kernel_rfl
theorem cells_c : Tryd.prog.cellsOf 22 = 1 := by kernel_rfl
theorem cells_d : Tryd.prog.cellsOf 41 = 1 := by kernel_rfl
theorem cells_e : Tryd.prog.cellsOf 23 = 1 := by kernel_rfl
theorem cells_f : Tryd.prog.cellsOf 4 = 1 := by kernel_rfl
theorem bytes_a : 0 < Tryd.prog.bytesOf 41 := of_decide_eq_true (by kernel_rfl)
theorem bytes_b : 0 < Tryd.prog.bytesOf 3 := of_decide_eq_true (by kernel_rfl)
theorem bytes_c : 0 < Tryd.prog.bytesOf 4 := of_decide_eq_true (by kernel_rfl)
theorem openD {H : Type} {enc : TypeId × Value → H} {W : World} {v : Value} {d : DataW H} {p : List MemPlace} (hw : ∀ m ∈ d.weights Tryd.prog 25, m ≤ reachBytes) (h : DataW.Trod enc Tryd.prog W 0 (fun _ => true) true 25 v d p) : ∃ D nb fb nc fc vs, DfaIn Tryd.prog W v D nb fb nc fc vs :=
  open_dfa Tryd.underlying25 cells_a rfl rfl rfl rfl rfl rfl rfl rfl Tryd.underlying3 Tryd.underlying22 Tryd.underlying41 Tryd.underlying23 Tryd.underlying4 cells_b cells_c cells_d cells_e cells_f bytes_a bytes_b bytes_c hw h
def fillO (cs : Array Value) : Obj → Obj
  | .cells _ t frozen => .cells cs t frozen
  | o => o
noncomputable def laidWorld (os : Os) : World :=
  { World.holding Tryd.prog os ⟨#[], #[], []⟩ with heap := ((((World.holding Tryd.prog os ⟨#[], #[], []⟩).heap.modify 0 (fillO #[.int .u64 1, .int .u64 10, .int .u64 100, .int .u64 1000, .int .u64 10000, .int .u64 100000, .int .u64 1000000, .int .u64 10000000, .int .u64 100000000, .int .u64 1000000000, .int .u64 10000000000, .int .u64 100000000000, .int .u64 1000000000000, .int .u64 10000000000000, .int .u64 100000000000000, .int .u64 1000000000000000, .int .u64 10000000000000000, .int .u64 100000000000000000, .int .u64 1000000000000000000, .int .u64 10000000000000000000])).modify 1 (fillO #[.int .u8 0, .int .u8 1, .int .u8 28, .int .u8 2, .int .u8 29, .int .u8 14, .int .u8 24, .int .u8 3, .int .u8 30, .int .u8 22, .int .u8 20, .int .u8 15, .int .u8 25, .int .u8 17, .int .u8 4, .int .u8 8, .int .u8 31, .int .u8 27, .int .u8 13, .int .u8 23, .int .u8 21, .int .u8 19, .int .u8 16, .int .u8 7, .int .u8 26, .int .u8 12, .int .u8 18, .int .u8 6, .int .u8 11, .int .u8 5, .int .u8 10, .int .u8 9])).modify 2 (fillO #[.int .u8 0, .int .u8 1, .int .u8 56, .int .u8 2, .int .u8 57, .int .u8 49, .int .u8 28, .int .u8 3, .int .u8 61, .int .u8 58, .int .u8 42, .int .u8 50, .int .u8 38, .int .u8 29, .int .u8 17, .int .u8 4, .int .u8 62, .int .u8 47, .int .u8 59, .int .u8 36, .int .u8 45, .int .u8 43, .int .u8 51, .int .u8 22, .int .u8 53, .int .u8 39, .int .u8 33, .int .u8 30, .int .u8 24, .int .u8 18, .int .u8 12, .int .u8 5, .int .u8 63, .int .u8 55, .int .u8 48, .int .u8 27, .int .u8 60, .int .u8 41, .int .u8 37, .int .u8 16, .int .u8 46, .int .u8 35, .int .u8 44, .int .u8 21, .int .u8 52, .int .u8 32, .int .u8 23, .int .u8 11, .int .u8 54, .int .u8 26, .int .u8 40, .int .u8 15, .int .u8 34, .int .u8 20, .int .u8 31, .int .u8 10, .int .u8 25, .int .u8 14, .int .u8 19, .int .u8 9, .int .u8 13, .int .u8 8, .int .u8 7, .int .u8 6])) }
theorem tabOf {W : World} (hL : laidMetH Tryd.prog [("math/bits.deBruijn32tab", Rows.laid_math_bits_deBruijn32tab), ("math/bits.deBruijn64tab", Rows.laid_math_bits_deBruijn64tab), ("internal/strconv.uint64pow10", Rows.laid_internal_strconv_uint64pow10)] W) : Tab Tryd.prog W := by
  have h : laidMet Tryd.prog [("math/bits.deBruijn32tab", Rows.laid_math_bits_deBruijn32tab), ("math/bits.deBruijn64tab", Rows.laid_math_bits_deBruijn64tab), ("internal/strconv.uint64pow10", Rows.laid_internal_strconv_uint64pow10)] W := hL
  obtain ⟨ps, h, _⟩ := h
  obtain ⟨_, h⟩ := laidVars_tail h
  obtain ⟨_, h⟩ := laidVars_tail h
  exact Tab.of (tabIs_of_vars (g := 0) (t := 135) (e := 26) (n := 20) (by kernel_rfl) (by kernel_rfl) (by kernel_rfl) Tryd.underlying135 Tryd.underlying26 (by kernel_rfl) (by kernel_rfl) h)
end Go.Proofs.YtnmfefmhfkhihaaDoor

