/- Contracts of functions of the program (W3, WtL, W5, W6, Sho, WtF, Run, W4, Shw, Con, Inz, Ct, Csm, Cml, Cz, WtU, C1, W7, Awk, Over): what each call answers and that it leaves memory as it was. Conditions: those each theorem names. -/
import Derived.Test.YtnmfefmhfkhihaaDoorCoreV
import Derived.Test.YtnmfefmhfkhihaaDoorKit
import Derived.Test.YtnmfefmhfkhihaaDoorW2
set_option linter.unusedSectionVars false
set_option linter.unusedSimpArgs false
set_option linter.unusedVariables false
set_option linter.unnecessarySimpa false
namespace Go.Proofs.YtnmfefmhfkhihaaDoor
open Go.Lx Go.RowKit
set_option linter.unusedVariables false
set_option linter.unusedSimpArgs false
set_option maxHeartbeats 1000000 in
set_option maxRecDepth 20000 in
theorem nthBad (w : World) [Tab Tryd.prog w] (a : DFA) (k : DK) (ha : At w a k) (haa : a.next.length < 9223372036854775807) (haar : ∀ r ∈ a.next, r.length < 9223372036854775807) (haaf : a.final.length < 9223372036854775807) (he : checkD a ≠ 0) (k0 : Nat) :
    PureT Tryd.prog 14 [dV a k, .int .u64 ((k0 : Nat) : Int)] w fun v N => v = .tuple #[.slice none 0 0, .bool false, .int .i64 (checkD a : Int)] ∧ N = [] := by
  refine CallT.enter Tryd.func14 rfl Tryd.ntmps14 rfl ?_
  refine T.seq (T.region ?_)
  refine TO.loud rfl (l_box (v := (dV a k)) (cs := (dC a k)) rfl rfl (fun bx1 => ?_))
  refine TO.quiet (q_assign rfl) (TO.quiet (q_assign rfl) (TO.quiet (q_assign rfl) ?_))
  refine TO.nil (T.seq (T.seq (T.region ?_)))
  refine TO.quiet (q_load_boxAgg 0 Tryd.underlying25 rfl inf25 rfl rfl rfl) ?_
  have hk15 := fun (w1 : World) (hI : Inv w [oI bx1 25 (dC a k)] w1) => (haveI := Inv.tab (P := Tryd.prog) hI; subsetCheck w1 a k.nb k.fb k.nc k.fc (vals k.qs) (hI.dfa ha) haa haar haaf)
  refine TO.loud rfl (l_call ent33 (CallT.of_pure hk15) rfl ?_)
  clear hk15
  rintro vr O' ⟨N, rfl, rfl, rfl⟩
  refine TO.quiet (q_assign rfl) ?_
  refine TO.nil (T.seq (T.region ?_))
  refine TO.quiet (q_move rfl) (TO.quiet (QT.toB (q_neq rfl rfl) (decide_eq_true (by omega))) ?_)
  refine TO.nil ?_
  refine T.cond1 rfl ?_
  refine T.seq (T.region ?_)
  refine TO.quiet (q_move rfl) (TO.quiet (q_assign rfl) (TO.quiet (q_assign rfl) (TO.quiet (q_assign rfl) ?_)))
  refine TO.nil (T.ret (Res.drop ?_))
  refine Res.three (.slice none 0 0) (.bool false) (.int .i64 (checkD a : Int)) Tryd.results14 rfl rfl rfl ?_
  exact ⟨[], Sub.z, rfl, rfl⟩
set_option maxHeartbeats 1000000 in
set_option maxRecDepth 20000 in
theorem nthBig (w : World) [Tab Tryd.prog w] (a : DFA) (k : DK) (ha : At w a k) (hv : Valid a) (k0 : Nat) (hk : 4611686018427387904 ≤ k0) :
    PureT Tryd.prog 14 [dV a k, .int .u64 ((k0 : Nat) : Int)] w fun v N => v = .tuple #[.slice none 0 0, .bool false, .int .i64 1] ∧ N = [] := by
  refine CallT.enter Tryd.func14 rfl Tryd.ntmps14 rfl ?_
  have he := checkD_zero.2 hv
  have h4 := hv.n4
  have hww : letN a ≤ 64 := hv.width
  have hfin := hv.fin
  have hvl := ha.rows.1
  have hsl := start_lt hv.toVal
  have hs0 := hv.s0
  have hs1 := hv.s1
  refine T.seq (T.region ?_)
  refine TO.loud rfl (l_box (v := (dV a k)) (cs := (dC a k)) rfl rfl (fun bx1 => ?_))
  refine TO.quiet (q_assign rfl) (TO.quiet (q_assign rfl) (TO.quiet (q_assign rfl) ?_))
  refine TO.nil (T.seq (T.seq (T.region ?_)))
  refine TO.quiet (q_load_boxAgg 0 Tryd.underlying25 rfl inf25 rfl rfl rfl) ?_
  have hk15 := fun (w1 : World) (hI : Inv w [oI bx1 25 (dC a k)] w1) => (haveI := Inv.tab (P := Tryd.prog) hI; (show PureT _ _ _ _ _ from by
      have h9 := subsetCheck w1 a k.nb k.fb k.nc k.fc (vals k.qs) (hI.dfa ha) (by omega) hv.bound (by omega)
      rw [he] at h9
      exact h9))
  refine TO.loud rfl (l_call ent33 (CallT.of_pure hk15) rfl ?_)
  clear hk15
  rintro vr O' ⟨N, rfl, rfl, rfl⟩
  refine TO.quiet (q_assign rfl) ?_
  refine TO.nil (T.seq (T.region ?_))
  refine TO.quiet (q_move rfl) (TO.quiet (q_neq rfl rfl) ?_)
  refine TO.nil ?_
  refine T.cond0 rfl ?_
  refine T.skip (T.seq (T.seq (T.region ?_)))
  refine TO.quiet (q_move rfl) (TO.quiet (QT.toB (q_geq rfl rfl) (decide_eq_true (by omega))) ?_)
  refine TO.nil ?_
  refine T.cond1 rfl ?_
  refine T.seq (T.region ?_)
  refine TO.quiet (q_assign rfl) (TO.quiet (q_assign rfl) (TO.quiet (q_assign rfl) ?_))
  refine TO.nil (T.ret (Res.drop ?_))
  refine Res.three (.slice none 0 0) (.bool false) (.int .i64 1) Tryd.results14 rfl rfl rfl ?_
  exact ⟨[], Sub.z, rfl, rfl⟩
set_option maxHeartbeats 8000000 in
set_option maxRecDepth 20000 in
theorem nthN (w : World) [Tab Tryd.prog w] (a : DFA) (k : DK) (ha : At w a k) (hv : Valid a) (k0 : Nat) (hk : k0 < 4611686018427387904) :
    PureT Tryd.prog 14 [dV a k, .int .u64 ((k0 : Nat) : Int)] w fun v N => ∃ res wb wc, (allW a 65)[k0]? = res ∧ v = .tuple #[.slice wb (res.getD []).length wc, .bool res.isSome, .int .i64 0] ∧ ((res ≠ none ∧ N = [rowI wb wc 5 1 (byts (res.getD []))]) ∨ (res = none ∧ N = [] ∧ wb = none ∧ wc = 0)) := by
  refine CallT.enter Tryd.func14 rfl Tryd.ntmps14 rfl ?_
  have he := checkD_zero.2 hv
  have h4 := hv.n4
  have hww : letN a ≤ 64 := hv.width
  have hfin := hv.fin
  have hvl := ha.rows.1
  have hsl := start_lt hv.toVal
  have hs0 := hv.s0
  have hs1 := hv.s1
  have hss : a.start = ((a.start.toNat : Nat) : Int) := (Int.toNat_of_nonneg hv.s0).symm
  refine T.seq (T.region ?_)
  refine TO.loud rfl (l_box (v := (dV a k)) (cs := (dC a k)) rfl rfl (fun z1 => ?_))
  refine TO.quiet (q_assign rfl) (TO.quiet (q_assign rfl) (TO.quiet (q_assign rfl) ?_))
  refine TO.nil (T.seq (T.seq (T.region ?_)))
  refine TO.quiet (q_load_boxAgg 0 Tryd.underlying25 rfl inf25 rfl rfl rfl) ?_
  have hk15 := fun (w1 : World) (hI : Inv w [oI z1 25 (dC a k)] w1) => (haveI := Inv.tab (P := Tryd.prog) hI; (show PureT _ _ _ _ _ from by
      have h9 := subsetCheck w1 a k.nb k.fb k.nc k.fc (vals k.qs) (hI.dfa ha) (by omega) hv.bound (by omega)
      rw [he] at h9
      exact h9))
  refine TO.loud rfl (l_call ent33 (CallT.of_pure hk15) rfl ?_)
  clear hk15
  rintro vr O' ⟨N, rfl, rfl, rfl⟩
  refine TO.quiet (q_assign rfl) ?_
  refine TO.nil (T.seq (T.region ?_))
  refine TO.quiet (q_move rfl) (TO.quiet (q_neq rfl rfl) ?_)
  refine TO.nil ?_
  refine T.cond0 rfl ?_
  refine T.skip (T.seq (T.seq (T.region ?_)))
  refine TO.quiet (q_move rfl) (TO.quiet (QT.toB (q_geq rfl rfl) (decide_eq_false (by omega))) ?_)
  refine TO.nil ?_
  refine T.cond0 rfl ?_
  refine T.skip (T.seq (T.region ?_))
  refine TO.quiet (q_load_boxAgg 0 Tryd.underlying25 rfl inf25 rfl rfl rfl) ?_
  have hk22 := fun (w1 : World) (hI : Inv w [oI z1 25 (dC a k)] w1) => (haveI := Inv.tab (P := Tryd.prog) hI; tableC w1 a k (hI.atB ha) hv)
  refine TO.loud rfl (l_call ent42 (CallT.of_pure hk22) rfl ?_)
  clear hk22
  rintro vr O' ⟨N, rfl, tb, us, hT, rfl, rfl⟩
  refine TO.quiet (q_assign rfl) ?_
  refine TO.nil (T.seq (T.region ?_))
  refine TO.quiet (q_assign rfl) ?_
  refine TO.nil (T.seq (T.block ?_))
  refine T.loop (fun (n : Nat) ρ O => ∃ (k9 : Nat), O = [tabI 62 26 a tb us, oI z1 25 (dC a k)] ∧ n ≤ 65 ∧ k9 ≤ k0 ∧ (allW a 65)[k0]? = (fromW a n 65)[k9]? ∧ Heads [(0, (dV a k)), (1, .int .u64 ((k9 : Nat) : Int)), (2, (.pointer (some ⟨z1, 0, none⟩))), (4, (.slice none 0 0)), (5, .bool false), (6, .int .i64 0), (7, .int .i64 0), (8, (.slice tb 65 65)), (9, .int .i64 ((n : Nat) : Int))] ρ) (fun n => 65 - n) 0 ?_ ?_
  · exact ⟨k0, rfl, Nat.zero_le _, Nat.le_refl _, by rw [fromW_zero], ⟨rfl, rfl, rfl, rfl, rfl, rfl, rfl, rfl, rfl, trivial⟩⟩
  rintro n ρ O ⟨k9, rfl, hn, hk9, hr, hH⟩
  obtain ⟨ρ0, rfl⟩ := hH.elim
  clear hH
  refine T.seq (T.seq ?_)
  refine T.draws _ [(0, 0), (1, 0), (2, 0), (3, 0), (4, 0), (5, 0), (6, 0), (7, 0), (8, 0), (9, 0), (10, 0), (11, 0), (12, 0), (13, 0), (14, 0), (15, 0)] mixed (drawF_ok (by kernel_rfl)) (Sub.of (List.Sublist.refl _)) (fun _ _ _ h => h) ?_
  refine DO.quiet rfl (q_move rfl) (DO.quiet rfl (q_move rfl) (DO.quiet rfl (q_len Tryd.underlying64 rfl) ?_))
  by_cases hn65 : n < 65
  · refine DO.quiet rfl (QT.toB (QT.cast (q_lss rfl rfl) (v' := .bool (decide (n < 65))) (congrArg Value.bool (decide_eq_decide.2 (by omega)))) (decide_eq_true hn65)) ?_
    refine DO.quiet rfl (q_move rfl) ?_
    obtain ⟨q1, hq1, hz1⟩ := hT.get hn65
    refine DO.guarded rfl rfl rfl (q_move rfl) ?_
    refine DO.guarded rfl rfl rfl (q_move rfl) ?_
    refine DO.guarded rfl rfl rfl (q_move rfl) ?_
    refine DO.guarded rfl rfl rfl (q_ix (i := n) Tryd.underlying64 inf62 rfl rfl (tabO (List.mem_of_getElem? (i := 0) rfl)) hn65 (by rw [List.length_map, hT.len]; omega)) ?_
    refine DO.guarded rfl rfl rfl (q_ld Tryd.underlying62 rfl rfl (tabO (List.mem_of_getElem? (i := 0) rfl)) (uvals_at hq1)) ?_
    refine DO.guarded rfl rfl rfl (q_fieldAddr Tryd.underlying25 rfl inf3 rfl rfl) ?_
    refine DO.guarded rfl rfl rfl (q_load_box 1 Tryd.underlying3 rfl rfl rfl rfl) ?_
    refine DO.guarded rfl rfl rfl (q_ixz (i := a.start) Tryd.underlying62 inf26 rfl rfl (tabQR (List.mem_of_getElem? (i := 0) rfl) hq1 hz1) hs0 (by rw [hz1, tabR_len]; exact hsl) (by rw [List.length_map, tabR_len]; exact hsl)) ?_
    refine DO.guarded rfl rfl rfl (q_ld Tryd.underlying26 rfl rfl (tabQR (List.mem_of_getElem? (i := 0) rfl) hq1 hz1) (tabR_get hsl)) ?_
    refine DO.guarded rfl rfl rfl (q_geq rfl rfl) ?_
    refine DO.quiet rfl (q_pick1 rfl rfl) ?_
    refine DO.done ?_
    refine T.condP rfl (fun hc => ?_) (fun hc => ?_)
    · have hlt38 : k9 ≥ satN 18446744073709551615 a n a.start.toNat := by omega
      have hge : satN 18446744073709551615 a n a.start.toNat ≤ k9 := by omega
      refine T.skip (T.seq (T.block ?_))
      refine T.draws _ [(0, 0), (1, 0), (2, 0), (3, 0), (4, 0), (5, 0), (6, 0), (7, 0), (8, 0), (9, 0), (10, 0)] mixed (by kernel_rfl) (Sub.of (List.Sublist.refl _)) (fun _ _ _ h => h) ?_
      refine DO.quiet rfl (q_move rfl) (DO.quiet rfl (q_move rfl) (DO.quiet rfl (q_move rfl) (DO.quiet rfl (q_ix (i := n) Tryd.underlying64 inf62 rfl rfl (tabO (List.mem_of_getElem? (i := 0) rfl)) hn65 (by rw [List.length_map, hT.len]; omega)) ?_)))
      refine DO.quiet rfl (q_ld Tryd.underlying62 rfl rfl (tabO (List.mem_of_getElem? (i := 0) rfl)) (uvals_at hq1)) (DO.quiet rfl (q_fieldAddr Tryd.underlying25 rfl inf3 rfl rfl) (DO.quiet rfl (q_load_box 1 Tryd.underlying3 rfl rfl rfl rfl) (DO.quiet rfl (q_ixz (i := a.start) Tryd.underlying62 inf26 rfl rfl (tabQR (List.mem_of_getElem? (i := 0) rfl) hq1 hz1) hs0 (by rw [hz1, tabR_len]; exact hsl) (by rw [List.length_map, tabR_len]; exact hsl)) ?_)))
      refine DO.quiet rfl (q_ld Tryd.underlying26 rfl rfl (tabQR (List.mem_of_getElem? (i := 0) rfl) hq1 hz1) (tabR_get hsl)) (DO.quiet rfl (q_subU (a := k9) (b := (satN 18446744073709551615 a n a.start.toNat)) .u64 rfl rfl (by show _ < 18446744073709551616; omega) (by omega)) (DO.quiet rfl (q_assign rfl) ?_))
      refine DO.done ?_
      refine T.region ?_
      refine TO.quiet (q_move rfl) (TO.quiet (q_addN (a := n) (b := 1) rfl rfl (by omega)) (TO.quiet (q_assign rfl) ?_))
      refine TO.nil ?_
      exact ⟨n + 1, by omega, k9 - satN 18446744073709551615 a n a.start.toNat, rfl, by omega, by omega, by rw [hr, nth_len (by decide) hn65 (by omega) hge], ⟨rfl, rfl, rfl, rfl, rfl, rfl, rfl, rfl, rfl, trivial⟩⟩
    have hge38 : ¬ k9 ≥ satN 18446744073709551615 a n a.start.toNat := by omega
    have hge : ¬ satN 18446744073709551615 a n a.start.toNat ≤ k9 := by omega
    refine T.exit ?_
    refine T.seq (T.seq (T.region ?_))
    refine TO.quiet (q_move rfl) (TO.quiet (q_move rfl) (TO.quiet (q_len Tryd.underlying64 rfl) (TO.quiet (q_eql rfl rfl) ?_)))
    refine TO.nil ?_
    refine T.cond0 (congrArg Value.bool (decide_eq_false (by omega))) ?_
    refine T.skip (T.seq (T.region ?_))
    refine TO.quiet (q_fieldAddr Tryd.underlying25 rfl inf3 rfl rfl) (TO.quiet (q_load_box 1 Tryd.underlying3 rfl rfl rfl rfl) (TO.quiet (q_assign rfl) ?_))
    refine TO.nil (T.seq (T.block ?_))
    obtain ⟨r, hre⟩ : ∃ r, r = (allW a 65)[k0]? := ⟨_, rfl⟩
    refine T.nilRow 5 1 ?_
    refine T.loopS (fun (m : Nat) ρ O => ∃ (s9 k8 : Nat) (u : List Nat) (wb : Option Addr) (wc : Nat), O = [rowI wb wc 5 1 (byts u), tabI 62 26 a tb us, oI z1 25 (dC a k)] ∧ u.length + m ≤ 64 ∧ k8 ≤ k0 ∧ s9 < a.next.length ∧ NthI a r m s9 k8 u ∧ Heads [(0, (dV a k)), (1, .int .u64 ((k8 : Nat) : Int)), (2, (.pointer (some ⟨z1, 0, none⟩))), (4, (.slice wb u.length wc)), (5, .bool false), (6, .int .i64 0), (7, .int .i64 0), (8, (.slice tb 65 65)), (9, .int .i64 ((m : Nat) : Int)), (10, .int .i64 ((s9 : Nat) : Int))] ρ) (fun m => m) n ?_ ?_
    · exact ⟨a.start.toNat, k9, [], none, 0, rfl, (by show 0 + n ≤ 64; omega), hk9, hsl, NthI.start (by decide) hn65 (by omega) hge (hre.trans hr), ⟨rfl, rfl, rfl, rfl, rfl, rfl, rfl, rfl, rfl, (congrArg (Value.int .i64) hss), trivial⟩⟩
    rintro m ρ O ⟨s9, k8, u, wb, wc, rfl, hul, hk8, hs9, hN, hH⟩
    obtain ⟨ρ0, rfl⟩ := hH.elim
    clear hH
    refine T.seq (T.seq (T.region ?_))
    refine TO.quiet (q_move rfl) (TO.quiet (q_gtr rfl rfl) ?_)
    refine TO.nil ?_
    refine T.condP rfl (fun hc => ?_) (fun hc => ?_)
    · have hlt58 : m > 0 := by omega
      obtain ⟨m1, hm⟩ : ∃ m1, m = m1 + 1 := ⟨m - 1, by omega⟩
      obtain ⟨v1, c1, g1, s1⟩ := ha.rows.get hs9
      have hl1 : a.next[s9].length = letN a := hv.len _ (List.getElem_mem hs9)
      obtain ⟨q2, hq2, hz2⟩ := hT.get (show m1 < 65 by omega)
      refine T.skip (T.seq (T.block (T.seq (T.region ?_))))
      refine TO.quiet (q_fieldAddr Tryd.underlying25 rfl inf22 rfl rfl) (TO.quiet (q_load_box 2 Tryd.underlying22 rfl rfl rfl rfl) (TO.quiet (q_move rfl) (TO.quiet (q_ix (i := s9) Tryd.underlying22 inf41 rfl rfl (Sl.o ha.outer) hs9 (hvl ▸ hs9)) ?_)))
      refine TO.quiet (q_ld Tryd.underlying41 rfl rfl (Sl.o ha.outer) g1) (TO.quiet (q_len Tryd.underlying41 rfl) (TO.quiet (q_move rfl) ?_))
      refine TO.nil (T.block ?_)
      refine T.loop (fun (x : Nat) ρ O => ∃ (k7 : Nat), O = [rowI wb wc 5 1 (byts u), tabI 62 26 a tb us, oI z1 25 (dC a k)] ∧ k7 ≤ k0 ∧ LetI a r m1 s9 k7 x u ∧ Heads [(0, (dV a k)), (1, .int .u64 ((k7 : Nat) : Int)), (2, (.pointer (some ⟨z1, 0, none⟩))), (4, (.slice wb u.length wc)), (5, .bool false), (6, .int .i64 0), (7, .int .i64 0), (8, (.slice tb 65 65)), (9, .int .i64 ((m : Nat) : Int)), (10, .int .i64 ((s9 : Nat) : Int)), (65, (.slice v1 a.next[s9].length c1)), (66, .int .i64 (a.next[s9].length : Int)), (67, .int .i64 ((x : Nat) : Int))] ρ) (fun x => letN a - x) 0 ?_ ?_
      · exact ⟨k8, rfl, hk8, (hm ▸ hN).let, ⟨rfl, rfl, rfl, rfl, rfl, rfl, rfl, rfl, rfl, rfl, rfl, rfl, rfl, trivial⟩⟩
      rintro x ρ O ⟨k7, rfl, hk7, hL, hH⟩
      obtain ⟨ρ0, rfl⟩ := hH.elim
      clear hH
      have hxl := hL.in
      obtain ⟨hto, _, hxk1, hx1⟩ := hv.toN_lt hs9 hxl
      have hx1 : (ints a.next[s9])[x]? = some (.int .i64 ((toN a s9 x : Nat) : Int)) := by rw [ints_get hxk1, hx1]
      refine T.seq (T.region ?_)
      refine TO.quiet (q_lss rfl rfl) ?_
      refine TO.nil (T.seq ?_)
      refine T.condP rfl (fun hc => ?_) (fun hc => ?_)
      · have hlt68 : x < a.next[s9].length := by omega
        refine T.skip (T.seq (T.block (T.seq (T.region ?_))))
        refine TO.quiet (q_move rfl) (TO.quiet (q_ix (i := x) Tryd.underlying41 inf3 rfl rfl (Sl.o s1) hxk1 (by rw [List.length_map]; exact hxk1)) (TO.quiet (q_ld Tryd.underlying3 rfl rfl (Sl.o s1) hx1) (TO.quiet (q_assign rfl) ?_)))
        refine TO.quiet (q_assign rfl) ?_
        refine TO.nil (T.seq (T.seq (T.region ?_)))
        refine TO.quiet (q_move rfl) (TO.quiet (q_move rfl) (TO.quiet (QT.cast (q_sub64 rfl rfl (by omega)) (v' := .int .i64 ((m1 : Nat) : Int)) (congrArg (Value.int .i64) (by omega))) (TO.quiet (q_ix (i := m1) Tryd.underlying64 inf62 rfl rfl (tabO (List.mem_of_getElem? (i := 1) rfl)) (by omega) (by rw [List.length_map, hT.len]; omega)) ?_)))
        refine TO.quiet (q_ld Tryd.underlying62 rfl rfl (tabO (List.mem_of_getElem? (i := 1) rfl)) (uvals_at hq2)) (TO.quiet (q_move rfl) (TO.quiet (q_ix (i := (toN a s9 x)) Tryd.underlying62 inf26 rfl rfl (tabQR (List.mem_of_getElem? (i := 1) rfl) hq2 hz2) (by rw [hz2, tabR_len]; exact hto) (by rw [List.length_map, tabR_len]; exact hto)) (TO.quiet (q_ld Tryd.underlying26 rfl rfl (tabQR (List.mem_of_getElem? (i := 1) rfl) hq2 hz2) (tabR_get hto)) ?_)))
        refine TO.quiet (q_assign rfl) ?_
        refine TO.nil (T.seq (T.region ?_))
        refine TO.quiet (q_move rfl) (TO.quiet (q_move rfl) (TO.quiet (q_geq rfl rfl) ?_))
        refine TO.nil ?_
        refine T.condP rfl (fun hc => ?_) (fun hc => ?_)
        · have hlt82 : k7 ≥ satN 18446744073709551615 a m1 (toN a s9 x) := by omega
          have hcc : satN 18446744073709551615 a m1 (toN a s9 x) ≤ k7 := by omega
          refine T.seq (T.region ?_)
          refine TO.quiet (q_move rfl) (TO.quiet (q_move rfl) (TO.quiet (q_subU (a := k7) (b := (satN 18446744073709551615 a m1 (toN a s9 x))) .u64 rfl rfl (by show _ < 18446744073709551616; omega) (by omega)) (TO.quiet (q_assign rfl) ?_)))
          refine TO.nil ?_
          refine T.exit ?_
          refine T.region ?_
          refine TO.quiet (q_addN (a := x) (b := 1) rfl rfl (by omega)) (TO.quiet (q_move rfl) ?_)
          refine TO.nil ?_
          exact ⟨x + 1, by omega, _, rfl, by omega, hL.next (by decide) (by omega) hcc, ⟨rfl, rfl, rfl, rfl, rfl, rfl, rfl, rfl, rfl, rfl, rfl, rfl, rfl, trivial⟩⟩
        have hge82 : ¬ k7 ≥ satN 18446744073709551615 a m1 (toN a s9 x) := by omega
        have hcc : ¬ satN 18446744073709551615 a m1 (toN a s9 x) ≤ k7 := by omega
        refine T.skip (T.seq (T.region ?_))
        refine TO.quiet (q_move rfl) (TO.quiet (q_move rfl) (TO.quiet (q_conv_id Tryd.underlying3 Tryd.underlying5 rfl (wrap8 (by omega))) ?_))
        refine TO.loud rfl (l_build1 (v := .int .u8 ((x : Nat) : Int)) Tryd.underlying29 inf5 rfl rfl rfl (fun z2 => ?_))
        refine TO.loud rfl (l_append 1 Tryd.underlying29 Tryd.underlying29 inf5 rfl rfl rfl rfl (by rw [List.length_map, Nat.mul_one]) (by decide) (Src.row (j := 0) rfl (by simp)) (by simp [oneB]) (by omega) (by decide) (by decide) (fun z3 zc4 => ?_))
        refine TO.quiet (q_move rfl) (TO.quiet (q_assign rfl) (TO.quiet (q_assign rfl) ?_))
        refine TO.nil ?_
        refine T.exit ?_
        refine T.region ?_
        refine TO.quiet (q_move rfl) (TO.quiet (q_subN (a := m) (b := 1) rfl rfl (by omega) (by omega)) (TO.quiet (q_assign rfl) ?_))
        refine TO.nil ?_
        have hst : byts (u ++ [x]) = byts u ++ [.int .u8 ((x : Nat) : Int)] := List.map_append
        have hN2 := hL.hit (by decide) (by omega) hcc
        exact ⟨m1, by omega, [rowI z3 zc4 5 1 ((byts u) ++ [.int .u8 ((x : Nat) : Int)]), tabI 62 26 a tb us, oI z1 25 (dC a k)], (by exact Sub.d (.k (.k (.k .z)))), toN a s9 x, k7, u ++ [x], z3, zc4, by rw [hst], by rw [List.length_append]; simp; omega, by omega, hto, hN2, ⟨rfl, rfl, rfl, (congrArg (fun n9 => Value.slice _ n9 _) (by simp : u.length + 1 = (u ++ [x]).length)), rfl, rfl, rfl, rfl, (congrArg (Value.int .i64) (by omega)), rfl, trivial⟩⟩
      exact absurd hc (by omega)
    have hge58 : ¬ m > 0 := by omega
    have hm0 : m = 0 := by omega
    refine T.exit ?_
    refine T.seq (T.region ?_)
    refine TO.quiet (q_move rfl) (TO.quiet (q_assign rfl) (TO.quiet (q_assign rfl) (TO.quiet (q_assign rfl) ?_)))
    refine TO.nil (T.ret (Res.drop ?_))
    refine Res.three (.slice wb u.length wc) (.bool true) (.int .i64 0) Tryd.results14 rfl rfl rfl ?_
    have hrs := (hm0 ▸ hN).end
    exact ⟨[rowI wb wc 5 1 (byts u)], (by exact Sub.k .z), some u, wb, wc, hre.symm.trans hrs, rfl, .inl ⟨by simp, rfl⟩⟩
  refine DO.quiet rfl (QT.toB (QT.cast (q_lss rfl rfl) (v' := .bool (decide (n < 65))) (congrArg Value.bool (decide_eq_decide.2 (by omega)))) (decide_eq_false hn65)) (DO.quiet rfl (q_move rfl) ?_)
  refine DO.passed rfl rfl rfl ?_
  refine DO.passed rfl rfl rfl ?_
  refine DO.passed rfl rfl rfl ?_
  refine DO.passed rfl rfl rfl ?_
  refine DO.passed rfl rfl rfl ?_
  refine DO.passed rfl rfl rfl ?_
  refine DO.passed rfl rfl rfl ?_
  refine DO.passed rfl rfl rfl ?_
  refine DO.passed rfl rfl rfl ?_
  refine DO.passed rfl rfl rfl ?_
  refine DO.quiet rfl (q_pick0 rfl rfl) ?_
  refine DO.done ?_
  refine T.cond0 rfl ?_
  refine T.exit ?_
  refine T.seq (T.seq (T.region ?_))
  refine TO.quiet (q_move rfl) (TO.quiet (q_move rfl) (TO.quiet (q_len Tryd.underlying64 rfl) (TO.quiet (q_eql rfl rfl) ?_)))
  refine TO.nil ?_
  refine T.cond1 (congrArg Value.bool (decide_eq_true (by omega))) ?_
  refine T.seq (T.region ?_)
  refine TO.quiet (q_assign rfl) (TO.quiet (q_assign rfl) (TO.quiet (q_assign rfl) ?_))
  refine TO.nil (T.ret (Res.drop ?_))
  refine Res.three (.slice none 0 0) (.bool false) (.int .i64 0) Tryd.results14 rfl rfl rfl ?_
  exact ⟨[], Sub.z, none, none, 0, by rw [hr, fromW_end (by omega)]; rfl, rfl, .inr ⟨rfl, rfl, rfl, rfl⟩⟩
theorem nthC (w : World) [Tab Tryd.prog w] (a : DFA) (k : DK) (ha : At w a k) (haa : a.next.length < 9223372036854775807) (haar : ∀ r ∈ a.next, r.length < 9223372036854775807) (haaf : a.final.length < 9223372036854775807) (k0 : Nat) :
    PureT Tryd.prog 14 [dV a k, .int .u64 ((k0 : Nat) : Int)] w fun v N => ∃ wb wc, v = .tuple #[.slice wb ((nthV a k0).getD []).length wc, .bool (nthV a k0).isSome, .int .i64 ((nthE a k0 : Nat) : Int)] ∧ N = [rowI wb wc 5 1 (byts ((nthV a k0).getD []))] := by
  have nil : ∀ {e : Nat}, PureT Tryd.prog 14 [dV a k, .int .u64 ((k0 : Nat) : Int)] w (fun v N => v = .tuple #[.slice none 0 0, .bool false, .int .i64 (e : Int)] ∧ N = []) → PureT Tryd.prog 14 [dV a k, .int .u64 ((k0 : Nat) : Int)] w (fun v N => ∃ wb wc, v = .tuple #[.slice wb 0 wc, .bool false, .int .i64 (e : Int)] ∧ N = [rowI wb wc 5 1 (byts [])]) := fun h => by
    refine (CallT.nilOr 5 1 h).mono ?_
    rintro v N ⟨O2, hN, h1, h2⟩
    exact ⟨none, 0, h1, hN.2 h2⟩
  unfold nthV nthE
  by_cases he : checkD a ≠ 0
  · rw [if_pos he, if_neg he]
    exact nil (nthBad w a k ha haa haar haaf he k0)
  · have hv : Valid a := checkD_zero.1 (by omega)
    rw [if_neg he]
    by_cases hn : 4611686018427387904 ≤ k0
    · rw [if_pos hn, if_neg (by decide)]
      exact nil (e := 1) (nthBig w a k ha hv k0 hn)
    · rw [if_neg hn, if_pos rfl]
      refine (CallT.nilOr 5 1 (nthN w a k ha hv k0 (by omega))).mono ?_
      rintro v N ⟨O2, hN, res, wb, wc, hL, hV, h⟩
      rw [hL]
      rcases h with ⟨hr, rfl⟩ | ⟨rfl, rfl, rfl, rfl⟩
      · exact ⟨wb, wc, hV, hN.1 (by simp)⟩
      · exact ⟨none, 0, hV, hN.2 rfl⟩
end Go.Proofs.YtnmfefmhfkhihaaDoor


namespace Go.Lx
open Go.RowKit
set_option linter.unusedVariables false
set_option linter.unusedSimpArgs false
theorem rowP.len {b : Option Addr} {c k : Nat} {T : TypeId} {cs : List Value} {w : World} (h : rowP b c T k cs w) : cs.length ≤ c * k := by
  cases b with
  | none => obtain ⟨rfl, rfl⟩ := h; simp
  | some a => obtain ⟨_, full, _, h3, _⟩ := h; exact h3
section
variable {P : Program} {r : Option Nat} {base : World} {n : Nat} {ρ : Env} {O : List Item} {K : Env → List Item → Prop} {d : Nat} {dst : Option Nat} {t : TypeId} {p : String} {af : Array Edge} {g : Option (Nat × Bool)}
theorem q_clip {x y z : Operand} {T E : TypeId} {b : Option Addr} {m c k by_ : Nat} {zv : Value} (hu : P.underlying T = some (.slice E)) (hi' : Inf P E zv k by_) (hx : ev ρ x = .slice b m c) (hy : ev ρ y = .int .i64 (m : Int)) (hz : ev ρ z = .int .i64 (m : Int)) (h : m ≤ c) :
    QT P base ⟨dst, .slice T x none (some y) (some z), t, p, af, g⟩ ρ O (.slice b m m) := fun w _ => by
  have e1 : (m : Int) ≤ (c : Int) := by omega
  have e2 : (0 : Int) ≤ (m : Int) := by omega
  by_cases hc0 : m = 0
  · simp [execOp, Instr.sliceAt, Instr.slice, hx, hy, hz, run_underlying' hu, run_sizeOf' hi', Instr.sliceBounds, Instr.sliceBound, asIntOf, e1, e2, hc0, h]
  · simp [execOp, Instr.sliceAt, Instr.slice, hx, hy, hz, run_underlying' hu, run_sizeOf' hi', Instr.sliceBounds, Instr.sliceBound, asIntOf, e1, e2, hc0, h]
    cases b <;> simp [Addr.add]
theorem run_appendF {T U E : TypeId} {xd : TypeDesc} {b : Option Addr} {m l s by_ : Nat} {x z : Value} {cs new : List Value} {ty : TypeId}
    (hu : P.underlying T = some (.slice E)) (hxu : P.underlying U = some xd) (hxi : (∃ XE, xd = .slice XE) ∨ xd = .string) (hi : Inf P E z s by_) (hz : z.cells.size = s)
    (hcs : Src P base O s m (.slice b m m) cs) (hl0 : 0 < l)
    (hx : Src P base O s l x new) (hone : (new.all oneB) = true) (hsz : (m + l) * by_ ≤ 70368744177664) (hby : by_ ≤ 1000000) (hsz' : 0 < by_) {w : World} (hI : Inv base O w) :
    ∃ b' c' w', (Builtin.append_ #[T, U] ty #[.slice b m m, x]).run P w = .ok (.slice b' (m + l) c') w' ∧ Inv base (rowI b' c' E s (cs ++ new) :: O) w' := by
  obtain ⟨hnl, hlen, hfirst⟩ := hx
  obtain ⟨hl, _, hfs⟩ := hcs
  obtain ⟨i, hi1, hi2, hi3, hi4⟩ := hi.get
  have hfit : ¬ m + l ≤ m := by omega
  obtain ⟨cap, hcap⟩ : ∃ cap, (Question.appendCap (m + l) m E).cut (w.tape w.drawn (Question.appendCap (m + l) m E)) = cap := ⟨_, rfl⟩
  have hle : m + l ≤ cap := hcap ▸ cut_cap (m + l) m _ E
  have hforced : (Question.appendCap (m + l) m E).forced = false := rfl
  have hI' : Inv base O w.drew := hI.drew
  have hfx := hfirst w hI
  have hfx' := hfirst _ hI'
  have hfs' := hfs _ hI'
  have hnext : ¬ (Builtin.nextslicecap (m + l) m * by_ > 2 ^ 48) := by
    have h1 := nextcap_le (need := m + l) (cap := m) (by omega)
    have h2 : Builtin.nextslicecap (m + l) m * by_ ≤ (2 * (m + l) + 192) * by_ := Nat.mul_le_mul_right _ h1
    have h3 : (2 * (m + l) + 192) * by_ = 2 * ((m + l) * by_) + 192 * by_ := by rw [Nat.add_mul, Nat.mul_assoc]
    omega
  obtain ⟨w', hw'⟩ : ∃ w' : World, w' = w.drew.alloc (.cells (cs.toArray ++ new.toArray ++ Builtin.zeroCells z.cells (cap - (m + l))) E) := ⟨_, rfl⟩
  refine ⟨some ⟨w.heap.size, 0, none⟩, cap, w', ?_, ?_⟩
  · have hmax' : ¬ (9223372036854775807 < ((m : Int) + (l : Int)) ∧ by_ = 0) := by rintro ⟨_, h⟩; omega
    have hnext' : ¬ (281474976710656 < Builtin.nextslicecap (m + l) m * by_) := by simpa using hnext
    have hl' : ¬ l = 0 := by omega
    rcases hxi with ⟨XE, rfl⟩ | rfl <;> simp [Builtin.append_, run_underlying' hu, run_underlying' hxu, run_sizeOf' hi, hlen, hfit, hl', run_typeInfo' hi1, hi4, hmax', hnext', hforced, hcap, hfs', hfx', run_zeroValue' hi, newRow, hw']
    all_goals (have e : (cs ++ new).toArray = cs.toArray ++ new.toArray := by simp)
    all_goals rw [e, Array.append_assoc]
  · subst hw'
    refine Inv.new (N := [rowI (some ⟨w.heap.size, 0, none⟩) cap E s (cs ++ new)]) hI' rfl rfl rfl (by simp) (fun q hq => ?_) ?_ ?_ (by simp [rowI])
    · show (w.heap.push _)[q]? = _
      rw [Array.getElem?_push, if_neg (by have : q < w.heap.size := hq; omega)]; rfl
    · intro it hit
      obtain rfl := List.mem_singleton.1 hit
      refine ⟨rfl, cs.toArray ++ new.toArray ++ Builtin.zeroCells z.cells (cap - (m + l)), ?_, ?_, ?_, ?_⟩
      · show (w.heap.push _)[w.heap.size]? = _
        simp
      · simp only [List.length_append, hl, hnl, ← Nat.add_mul]; exact Nat.mul_le_mul_right s hle
      · simp only [Array.size_append, List.size_toArray, zeros_any, hz, hl, hnl, ← Nat.add_mul, Nat.zero_add]
        exact Nat.mul_le_mul_right s (by omega)
      · intro q hq
        simp only [Nat.zero_add]
        rw [Array.getElem?_append_left (by simp at hq ⊢; exact hq)]
        simp
    · intro it hit q hq
      obtain rfl := List.mem_singleton.1 hit
      simp [rowI] at hq
      subst hq
      exact ⟨Nat.le_refl _, by simp⟩
theorem l_appendF {T U E XE : TypeId} {b : Option Addr} {m l s by_ : Nat} {x y : Operand} {xv z : Value} {cs new : List Value}
    (hu : P.underlying T = some (.slice E)) (hxu : P.underlying U = some (.slice XE)) (hi : Inf P E z s by_) (hz : z.cells.size = s)
    (hx : ev ρ x = .slice b m m) (hy : ev ρ y = xv) (hcs : Src P base O s m (.slice b m m) cs) (hl0 : 0 < l)
    (hsrc : Src P base O s l xv new) (hone : (new.all oneB) = true) (hsz : (m + l) * by_ ≤ 70368744177664) (hby : by_ ≤ 1000000) (hsz' : 0 < by_)
    (h : ∀ b' c', K (upd ρ d (.slice b' (m + l) c')) (rowI b' c' E s (cs ++ new) :: O)) (hn : Nat.blt d n = true := by rfl) :
    LT P r base n ⟨some d, .call ⟨.builtin .append, #[x, y], #[T, U]⟩, t, p, af, g⟩ ρ O K :=
  LT.of_run hn fun w M hI => by
    obtain ⟨b', c', w', hr, hI'⟩ := run_appendF (ty := t) hu hxu (.inl ⟨_, rfl⟩) hi hz hcs.app hl0 hsrc.app hone hsz hby hsz' hI
    refine ⟨_, w', _, ?_, hI', h b' c'⟩
    simp [execOp, resolve, hx, hy, invoke, builtin, hr]
end
theorem Res.cell1t {P : Program} {base : World} {ρ : Env} {O : List Item} {fn : Func} {R : Value → List Item → Prop} {a i c : Nat} {T E : TypeId} {d : TypeDesc} {b : Nat} {v : Value} (u : Value) {cs : List Value} {fr : Nat × Nat} (hr : fn.results = #[.cell a T, .tmp c]) (hu : P.underlying T = some d) (ha : aggB d = false)
    (hp : ρ a = .pointer (some ⟨b, 0, none⟩)) (hO : O[i]? = some (objI b (.cells (v :: cs).toArray E fr))) (hc' : ρ c = u)
    (h : R (.tuple #[v, u]) O) : Res P base fn ρ O R :=
  ⟨⟨_, O, Sub.of (List.Sublist.refl _), h, fun w tmps hI ht => by
    have h1 := run_loadBox1 (P := P) hu ha (hI.objAt hO)
    have ht' := ht a
    have hc := ht c
    simp only [Array.getD_eq_getD_getElem?] at ht' hc
    simp [results, hr, ht', hc, hp, hc', asAddr, h1]⟩⟩
theorem wvals_gt {us : List WRec} {n : Nat} (h : n < us.length) : (wvals us)[n]? = some (.slice us[n].b us[n].xs.length us[n].c) := by
  rw [List.getElem?_map, List.getElem?_eq_getElem h]; rfl
theorem witms_snoc (E : TypeId) (qs : List WRec) (r : WRec) : witms E (qs ++ [r]) = witms E qs ++ [r.itm E] := List.map_append
theorem take_pre {α : Type} {l r : List α} {m : Nat} (h : m ≤ l.length) : (l ++ r).take m = l.take m := by rw [List.take_append_of_le_length h]
structure WdsI (d : DFA) (m n i : Nat) (ws : List (List Nat)) : Prop where
  eq : ws = (allW d n ++ (wsN d n d.start.toNat).take i).take m
theorem WdsI.zero {d : DFA} {m n : Nat} {ws : List (List Nat)} (h : ws = (allW d n).take m) : WdsI d m n 0 ws := ⟨by simpa using h⟩
theorem WdsI.put {d : DFA} {m n i : Nat} {ws : List (List Nat)} {u : List Nat} (h : WdsI d m n i ws) (hu : (wsN d n d.start.toNat)[i]? = some u) (hl : ws.length ≠ m) : WdsI d m n (i + 1) (ws ++ [u]) := by
  have hi := (List.getElem?_eq_some_iff.1 hu).1
  have hui := (List.getElem?_eq_some_iff.1 hu).2
  have hlt : (allW d n ++ (wsN d n d.start.toNat).take i).length < m := by
    have := congrArg List.length h.eq
    rw [List.length_take] at this
    omega
  refine ⟨?_⟩
  have e1 := List.take_of_length_le (Nat.le_of_lt hlt)
  have e2 : ((allW d n ++ (wsN d n d.start.toNat).take i) ++ [u]).take m = (allW d n ++ (wsN d n d.start.toNat).take i) ++ [u] := List.take_of_length_le (by rw [List.length_append (bs := [u])]; simp only [List.length_cons, List.length_nil]; omega)
  rw [List.take_succ_eq_append_getElem hi, hui, ← List.append_assoc, h.eq, e1, e2]
theorem WdsI.done {d : DFA} {m n : Nat} {ws : List (List Nat)} (h : WdsI d m n (wsN d n d.start.toNat).length ws) : ws = (allW d (n + 1)).take m := by
  rw [h.eq, List.take_length, allW_snoc]
theorem WdsI.full {d : DFA} {m n i : Nat} {ws : List (List Nat)} (h : WdsI d m n i ws) (hl : ws.length = m) : ws = (allW d (n + 1)).take m := by
  have h1 : m ≤ (allW d n ++ (wsN d n d.start.toNat).take i).length := by
    have := congrArg List.length h.eq
    rw [List.length_take] at this; omega
  have h2 : allW d (n + 1) = (allW d n ++ (wsN d n d.start.toNat).take i) ++ (wsN d n d.start.toNat).drop i := by rw [List.append_assoc, List.take_append_drop, allW_snoc]
  rw [h2, take_pre h1]; exact h.eq
theorem allW_pre (d : DFA) {n N : Nat} (h : n ≤ N) : ∃ r, allW d N = allW d n ++ r := by
  induction h with
  | refl => exact ⟨[], by simp⟩
  | step _ ih => obtain ⟨r, hr⟩ := ih; exact ⟨r ++ wsN d _ d.start.toNat, by rw [allW_snoc, hr, List.append_assoc]⟩
theorem wds_end {d : DFA} {m n : Nat} {ws : List (List Nat)} (hn : n ≤ 65) (h : ws = (allW d n).take m) (hc : n = 65 ∨ m ≤ ws.length) : ws = (allW d 65).take m := by
  rcases hc with rfl | hc
  · exact h
  · obtain ⟨r, hr⟩ := allW_pre d hn
    have hl : m ≤ (allW d n).length := by
      have := congrArg List.length h
      rw [List.length_take] at this; omega
    rw [hr, take_pre hl]; exact h
end Go.Lx


namespace Go.Proofs.YtnmfefmhfkhihaaDoor
open Go.Lx Go.RowKit
set_option linter.unusedVariables false
set_option linter.unusedSimpArgs false
set_option maxHeartbeats 1000000 in
set_option maxRecDepth 20000 in
theorem clipC (w : World) [Tab Tryd.prog w] (b : Option Addr) (m c : Nat) (h : m ≤ c) :
    PureT Tryd.prog 63 [.slice b m c] w fun v N => v = .slice b m m ∧ N = [] := by
  refine CallT.enter Tryd.func63 rfl Tryd.ntmps63 rfl ?_
  refine T.seq (T.region ?_)
  refine TO.quiet (q_assign rfl) ?_
  refine TO.nil (T.seq (T.region ?_))
  refine TO.quiet (q_move rfl) (TO.quiet (q_move rfl) (TO.quiet (q_len Tryd.underlying29 rfl) (TO.quiet (q_move rfl) ?_)))
  refine TO.quiet (q_len Tryd.underlying29 rfl) (TO.quiet (q_clip Tryd.underlying29 inf5 rfl rfl rfl h) (TO.quiet (q_assign rfl) ?_))
  refine TO.nil (T.ret (Res.drop ?_))
  refine Res.one (.slice b m m) Tryd.results63 rfl ?_
  exact ⟨[], Sub.z, rfl, rfl⟩
set_option maxHeartbeats 1000000 in
set_option maxRecDepth 20000 in
theorem wordsMk (w : World) [Tab Tryd.prog w] (a : DFA) (k : DK) (tb pb : Option Addr) (s n pl pc : Nat) :
    PureT Tryd.prog 43 [dV a k, .slice tb 65 65, .int .i64 ((s : Nat) : Int), .int .i64 ((n : Nat) : Int), .slice pb pl pc] w fun v N => ∃ xb nb sb ub db : Nat, v = (.func (.func 62) #[] #[(.pointer (some ⟨nb, 0, none⟩)), (.pointer (some ⟨db, 0, none⟩)), (.pointer (some ⟨sb, 0, none⟩)), (.pointer (some ⟨xb, 0, none⟩)), (.pointer (some ⟨ub, 0, none⟩))]) ∧ N = [oI xb 29 [(.slice pb pl pc)], oI nb 3 [(.int .i64 ((n : Nat) : Int))], oI sb 3 [(.int .i64 ((s : Nat) : Int))], oI ub 64 [(.slice tb 65 65)], oI db 25 (dC a k)] := by
  refine CallT.enter Tryd.func43 rfl Tryd.ntmps43 rfl ?_
  refine T.seq (T.region ?_)
  refine TO.loud rfl (l_box (v := (dV a k)) (cs := (dC a k)) rfl rfl (fun z1 => ?_))
  refine TO.loud rfl (l_box (v := (.slice tb 65 65)) (cs := [(.slice tb 65 65)]) rfl rfl (fun z2 => ?_))
  refine TO.loud rfl (l_box (v := (.int .i64 ((s : Nat) : Int))) (cs := [(.int .i64 ((s : Nat) : Int))]) rfl rfl (fun z3 => ?_))
  refine TO.loud rfl (l_box (v := (.int .i64 ((n : Nat) : Int))) (cs := [(.int .i64 ((n : Nat) : Int))]) rfl rfl (fun z4 => ?_))
  refine TO.loud rfl (l_box (v := (.slice pb pl pc)) (cs := [(.slice pb pl pc)]) rfl rfl (fun z5 => ?_))
  refine TO.quiet (q_assign rfl) ?_
  refine TO.nil (T.seq (T.region ?_))
  refine TO.quiet (q_makeFunc) (TO.quiet (q_assign rfl) ?_)
  refine TO.nil (T.ret ?_)
  refine Res.one (.func (.func 62) #[] #[(.pointer (some ⟨z4, 0, none⟩)), (.pointer (some ⟨z1, 0, none⟩)), (.pointer (some ⟨z3, 0, none⟩)), (.pointer (some ⟨z5, 0, none⟩)), (.pointer (some ⟨z2, 0, none⟩))]) Tryd.results43 rfl ?_
  exact ⟨z5, z4, z3, z2, z1, rfl, rfl⟩
set_option maxHeartbeats 8000000 in
set_option maxRecDepth 20000 in
theorem wordsF (base : World) [Tab Tryd.prog base] (a : DFA) (k : DK) (ha : At base a k) (hv : Valid a) (tb : Option Addr) (us : List URec) (hT : TabOk a us) :
    ∀ (n s : Nat) (p : List Nat) (pl : Nat) (hpl : pl = p.length) (pcs : List Value) (hpc : pcs = byts p) (xb nb sb ub db : Nat) (pb : Option Addr) (pc : Nat) (yv : Value) (hyc : yv.cells = #[yv]) (J : Nat → List Lx.Item → Prop) (Q : List Lx.Item → Prop) (hn : p.length + n ≤ 64) (hs : s < a.next.length)
    (hy : ∀ (i : Nat) (u : List Nat) (rb : Option Addr) (rc : Nat) (O : List Lx.Item), (wsN a n s)[i]? = some u → J i O → CallV Tryd.prog base yv [.slice rb (p ++ u).length rc] (O ++ [rowI rb rc 5 1 (byts (p ++ u))]) (fun v O' => (v = .bool true ∧ J (i + 1) O') ∨ (v = .bool false ∧ Q O')))
    (O : List Lx.Item) (h0 : J 0 O),
    CallT Tryd.prog base 62 [yv, (.pointer (some ⟨nb, 0, none⟩)), (.pointer (some ⟨db, 0, none⟩)), (.pointer (some ⟨sb, 0, none⟩)), (.pointer (some ⟨xb, 0, none⟩)), (.pointer (some ⟨ub, 0, none⟩))] ([oI xb 29 [(.slice pb pl pc)], oI nb 3 [(.int .i64 ((n : Nat) : Int))], oI sb 3 [(.int .i64 ((s : Nat) : Int))], oI ub 64 [(.slice tb 65 65)], oI db 25 (dC a k), rowI pb pc 5 1 pcs, tabI 62 26 a tb us] ++ O) (fun _ O' => (∃ O2, O' = O2 ++ [tabI 62 26 a tb us] ∧ J (wsN a n s).length O2) ∨ (∃ O2, O' = O2 ++ [tabI 62 26 a tb us] ∧ Q O2)) := by
  intro n
  induction n using Nat.strongRecOn with
  | _ n ih => ?_
  intro s p pl hpl pcs hpc xb nb sb ub db pb pc yv hyc J Q hn hs hy O h0
  subst hpl hpc
  refine CallT.enter Tryd.func62 rfl Tryd.ntmps62 rfl ?_
  have hww : letN a ≤ 64 := hv.width
  have hfin := hv.fin
  have hvl := ha.rows.1
  have hsf : s < a.final.length := by omega
  refine T.seq (T.region ?_)
  refine TO.loud rfl (l_box (v := yv) (cs := [yv]) rfl hyc (fun yb => ?_))
  refine TO.nil (T.seq (T.seq (T.region ?_)))
  refine TO.quiet (q_load_box 2 Tryd.underlying3 rfl rfl rfl rfl) (TO.quiet (q_eql rfl rfl) ?_)
  refine TO.nil ?_
  refine T.condP rfl (fun hc => ?_) (fun hc => ?_)
  · have hlt11 : n = 0 := by omega
    have hn0 : n = 0 := by omega
    refine T.seq (T.seq (T.region ?_))
    refine TO.quiet (q_fieldAddr Tryd.underlying25 rfl inf23 rfl rfl) (TO.quiet (q_load_box 5 Tryd.underlying23 rfl rfl rfl rfl) (TO.quiet (q_load_box 3 Tryd.underlying3 rfl rfl rfl rfl) (TO.quiet (q_ix (i := s) Tryd.underlying23 inf4 rfl rfl (Sl.o ha.final) (by omega) (by rw [List.length_map]; omega)) ?_)))
    refine TO.quiet (q_ld Tryd.underlying4 rfl rfl (Sl.o ha.final) (bools_get hsf)) ?_
    refine TO.nil ?_
    refine T.cond rfl (fun hc => ?_) (fun hc => ?_)
    · have hfn : finN a s = true := by rw [← hc]; simp [finN, hsf]
      have hws : wsN a n s = [[]] := by rw [hn0]; unfold wsN; rw [if_pos hfn]
      refine T.draws _ [(0, 0), (1, 0), (2, 1), (3, 2)] mixed (by kernel_rfl) (Sub.of (List.Sublist.refl _)) (fun _ _ _ h => h) ?_
      refine DO.quiet rfl (q_load_box 0 Tryd.underlying85 rfl rfl rfl rfl) (DO.quiet rfl (q_load_box 1 Tryd.underlying29 rfl rfl rfl rfl) ?_)
      have hk19 := fun (w1 : World) (hI : Inv base ([oI yb 85 [yv], oI xb 29 [(.slice pb p.length pc)], oI nb 3 [(.int .i64 ((n : Nat) : Int))], oI sb 3 [(.int .i64 ((s : Nat) : Int))], oI ub 64 [(.slice tb 65 65)], oI db 25 (dC a k), rowI pb pc 5 1 (byts p), tabI 62 26 a tb us] ++ O) w1) => (haveI := Inv.tab (P := Tryd.prog) hI; cloneC w1 pb pc p (hI.slOf (List.mem_append_left _ (List.mem_of_getElem? (i := 6) rfl))) (by omega))
      refine DO.loud rfl rfl (l_call ent44 (CallT.of_pure hk19) rfl ?_)
      clear hk19
      rintro vr O' ⟨N, rfl, cb, cc, rfl, rfl⟩
      refine ⟨by exact Sub.d (.k (.k (.k (.k (.k (.k (.k (.k .rf)))))))), ?_⟩
      have hk20 := CallV.under (B := [oI yb 85 [yv], oI xb 29 [(.slice pb p.length pc)], oI nb 3 [(.int .i64 ((n : Nat) : Int))], oI sb 3 [(.int .i64 ((s : Nat) : Int))], oI ub 64 [(.slice tb 65 65)], oI db 25 (dC a k), rowI pb pc 5 1 (byts p), tabI 62 26 a tb us]) (O := ([rowI cb cc 5 1 (byts p), oI yb 85 [yv], oI xb 29 [(.slice pb p.length pc)], oI nb 3 [(.int .i64 ((n : Nat) : Int))], oI sb 3 [(.int .i64 ((s : Nat) : Int))], oI ub 64 [(.slice tb 65 65)], oI db 25 (dC a k), rowI pb pc 5 1 (byts p), tabI 62 26 a tb us] ++ O)) (by
          have h9 := hy 0 [] cb cc O (by rw [hws]; rfl) h0
          rw [List.append_nil] at h9
          exact h9) (Sub.cnt [] (by intro a; simp only [itms, oI, List.set_cons_zero, List.set_cons_succ, putL, List.cons_append, List.nil_append, List.append_nil, List.append_assoc, List.map_append, List.map_cons, List.map_nil, cnt_append, cnt_cons, cnt_nil] <;> omega))
      refine DO.last rfl rfl (l_callG hk20 rfl rfl ?_)
      clear hk20
      rintro vr O' ⟨A1, rfl, hA⟩
      refine DO.done ?_
      refine T.ret (Res.drop ?_)
      refine Res.zero Tryd.results62 ?_
      rcases hA with ⟨rfl, hA⟩ | ⟨rfl, hA⟩
      · exact ⟨A1 ++ [tabI 62 26 a tb us], Sub.cnt [oI yb 85 [yv], oI xb 29 [(.slice pb p.length pc)], oI nb 3 [(.int .i64 ((n : Nat) : Int))], oI sb 3 [(.int .i64 ((s : Nat) : Int))], oI ub 64 [(.slice tb 65 65)], oI db 25 (dC a k), rowI pb pc 5 1 (byts p)] (by intro a; simp only [itms, oI, List.set_cons_zero, List.set_cons_succ, putL, List.cons_append, List.nil_append, List.append_nil, List.append_assoc, List.map_append, List.map_cons, List.map_nil, cnt_append, cnt_cons, cnt_nil] <;> omega), .inl ⟨A1, rfl, by rw [hws]; exact hA⟩⟩
      · exact ⟨A1 ++ [tabI 62 26 a tb us], Sub.cnt [oI yb 85 [yv], oI xb 29 [(.slice pb p.length pc)], oI nb 3 [(.int .i64 ((n : Nat) : Int))], oI sb 3 [(.int .i64 ((s : Nat) : Int))], oI ub 64 [(.slice tb 65 65)], oI db 25 (dC a k), rowI pb pc 5 1 (byts p)] (by intro a; simp only [itms, oI, List.set_cons_zero, List.set_cons_succ, putL, List.cons_append, List.nil_append, List.append_nil, List.append_assoc, List.map_append, List.map_cons, List.map_nil, cnt_append, cnt_cons, cnt_nil] <;> omega), .inr ⟨A1, rfl, hA⟩⟩
    have hfn : finN a s = false := by rw [← hc]; simp [finN, hsf]
    have hws : wsN a n s = [] := by rw [hn0]; unfold wsN; rw [if_neg (by rw [hfn]; decide)]
    refine T.skip (T.ret (Res.drop ?_))
    refine Res.zero Tryd.results62 ?_
    exact ⟨O ++ [tabI 62 26 a tb us], Sub.cnt [oI yb 85 [yv], oI xb 29 [(.slice pb p.length pc)], oI nb 3 [(.int .i64 ((n : Nat) : Int))], oI sb 3 [(.int .i64 ((s : Nat) : Int))], oI ub 64 [(.slice tb 65 65)], oI db 25 (dC a k), rowI pb pc 5 1 (byts p)] (by intro a; simp only [itms, oI, List.set_cons_zero, List.set_cons_succ, putL, List.cons_append, List.nil_append, List.append_nil, List.append_assoc, List.map_append, List.map_cons, List.map_nil, cnt_append, cnt_cons, cnt_nil] <;> omega), .inl ⟨O, rfl, by rw [hws]; exact h0⟩⟩
  have hge11 : ¬ n = 0 := by omega
  obtain ⟨n1, hn1⟩ : ∃ n1, n = n1 + 1 := ⟨n - 1, by omega⟩
  obtain ⟨v1, c1, g1, s1⟩ := ha.rows.get hs
  have hl1 : a.next[s].length = letN a := hv.len _ (List.getElem_mem hs)
  obtain ⟨q1, hq1, hz1⟩ := hT.get (show n1 < 65 by omega)
  refine T.skip (T.seq (T.region ?_))
  refine TO.quiet (q_fieldAddr Tryd.underlying25 rfl inf22 rfl rfl) (TO.quiet (q_load_box 5 Tryd.underlying22 rfl rfl rfl rfl) (TO.quiet (q_load_box 3 Tryd.underlying3 rfl rfl rfl rfl) (TO.quiet (q_ix (i := s) Tryd.underlying22 inf41 rfl rfl (Sl.o ha.outer) hs (hvl ▸ hs)) ?_)))
  refine TO.quiet (q_ld Tryd.underlying41 rfl rfl (Sl.o ha.outer) g1) (TO.quiet (q_len Tryd.underlying41 rfl) (TO.quiet (q_move rfl) ?_))
  refine TO.nil (T.block ?_)
  refine T.loop (fun (x : Nat) ρ O => ∃ (O1 : List Lx.Item), O = ([oI yb 85 [yv], oI xb 29 [(.slice pb p.length pc)], oI nb 3 [(.int .i64 ((n : Nat) : Int))], oI sb 3 [(.int .i64 ((s : Nat) : Int))], oI ub 64 [(.slice tb 65 65)], oI db 25 (dC a k), rowI pb pc 5 1 (byts p), tabI 62 26 a tb us] ++ O1) ∧ x ≤ letN a ∧ J (psum a n1 s x) O1 ∧ Heads [(0, yv), (1, (.pointer (some ⟨nb, 0, none⟩))), (2, (.pointer (some ⟨db, 0, none⟩))), (3, (.pointer (some ⟨sb, 0, none⟩))), (4, (.pointer (some ⟨xb, 0, none⟩))), (5, (.pointer (some ⟨ub, 0, none⟩))), (6, (.pointer (some ⟨yb, 0, none⟩))), (25, (.slice v1 a.next[s].length c1)), (26, .int .i64 (a.next[s].length : Int)), (27, (.int .i64 ((x : Nat) : Int)))] ρ) (fun x => letN a - x) 0 ?_ ?_
  · exact ⟨O, rfl, Nat.zero_le _, h0, ⟨rfl, rfl, rfl, rfl, rfl, rfl, rfl, rfl, rfl, rfl, trivial⟩⟩
  rintro x ρ O ⟨O1, rfl, hx, hJ, hH⟩
  obtain ⟨ρ0, rfl⟩ := hH.elim
  clear hH
  refine T.seq (T.region ?_)
  refine TO.quiet (q_lss rfl rfl) ?_
  refine TO.nil (T.seq ?_)
  refine T.condP rfl (fun hc => ?_) (fun hc => ?_)
  · have hlt28 : x < a.next[s].length := by omega
    have hxl : x < letN a := by omega
    obtain ⟨hto, _, hxk1, hx1⟩ := hv.toN_lt hs hxl
    have hx1 : (ints a.next[s])[x]? = some (.int .i64 ((toN a s x : Nat) : Int)) := by rw [ints_get hxk1, hx1]
    refine T.skip (T.seq (T.block (T.seq (T.region ?_))))
    refine TO.quiet (q_move rfl) (TO.quiet (q_ix (i := x) Tryd.underlying41 inf3 rfl rfl (Sl.o s1) hxk1 (by rw [List.length_map]; exact hxk1)) (TO.quiet (q_ld Tryd.underlying3 rfl rfl (Sl.o s1) hx1) (TO.quiet (q_assign rfl) ?_)))
    refine TO.quiet (q_assign rfl) ?_
    refine TO.nil (T.seq (T.seq (T.region ?_)))
    refine TO.quiet (q_load_box 4 Tryd.underlying64 rfl rfl rfl rfl) (TO.quiet (q_load_box 2 Tryd.underlying3 rfl rfl rfl rfl) (TO.quiet (QT.cast (q_sub64 rfl rfl (by omega)) (v' := .int .i64 ((n1 : Nat) : Int)) (congrArg (Value.int .i64) (by omega))) (TO.quiet (q_ix (i := n1) Tryd.underlying64 inf62 rfl rfl (tabO (List.mem_append_left _ (List.mem_of_getElem? (i := 7) rfl))) (by omega) (by rw [List.length_map, hT.len]; omega)) ?_)))
    refine TO.quiet (q_ld Tryd.underlying62 rfl rfl (tabO (List.mem_append_left _ (List.mem_of_getElem? (i := 7) rfl))) (uvals_at hq1)) (TO.quiet (q_move rfl) (TO.quiet (q_ix (i := (toN a s x)) Tryd.underlying62 inf26 rfl rfl (tabQR (List.mem_append_left _ (List.mem_of_getElem? (i := 7) rfl)) hq1 hz1) (by rw [hz1, tabR_len]; exact hto) (by rw [List.length_map, tabR_len]; exact hto)) (TO.quiet (q_ld Tryd.underlying26 rfl rfl (tabQR (List.mem_append_left _ (List.mem_of_getElem? (i := 7) rfl)) hq1 hz1) (tabR_get hto)) ?_)))
    refine TO.quiet (q_eql rfl rfl) ?_
    refine TO.nil ?_
    refine T.condP rfl (fun hc => ?_) (fun hc => ?_)
    · have hlt40 : satN 18446744073709551615 a n1 (toN a s x) = 0 := by omega
      have hzero : cntN a n1 (toN a s x) = 0 := satN_none (B := 18446744073709551615) (by decide) (by omega)
      refine T.exit ?_
      
      refine T.region ?_
      refine TO.quiet (q_addN (a := x) (b := 1) rfl rfl (by omega)) (TO.quiet (q_move rfl) ?_)
      refine TO.nil ?_
      exact ⟨x + 1, by omega, O1, rfl, by omega, by rw [psum_succ, hzero]; exact hJ, ⟨rfl, rfl, rfl, rfl, rfl, rfl, rfl, rfl, rfl, rfl, trivial⟩⟩
    have hge40 : ¬ satN 18446744073709551615 a n1 (toN a s x) = 0 := by omega
    skip
    refine T.skip ?_
    refine T.have (φ := p.length ≤ pc) (fun w9 hI => by have := rowP.len (hI.row (i := 6) rfl); simpa using this) (fun hcap => ?_)
    refine T.cut (fun ρ O => ∃ (bs : Nat) (b7 : Option Addr) (c7 xb2 nb2 sb2 ub2 db2 : Nat), O = ([oI xb2 29 [(.slice b7 (p.length + 1) c7)], oI nb2 3 [(.int .i64 ((n1 : Nat) : Int))], oI sb2 3 [(.int .i64 ((toN a s x : Nat) : Int))], oI ub2 64 [(.slice tb 65 65)], oI db2 25 (dC a k), rowI b7 c7 5 1 (byts p ++ [Value.int .u8 ((x : Nat) : Int)]), rowI (some ⟨bs, 0, none⟩) 1 5 1 [Value.int .u8 ((x : Nat) : Int)], oI yb 85 [yv], oI xb 29 [(.slice pb p.length pc)], oI nb 3 [(.int .i64 ((n : Nat) : Int))], oI sb 3 [(.int .i64 ((s : Nat) : Int))], oI ub 64 [(.slice tb 65 65)], oI db 25 (dC a k), rowI pb pc 5 1 (byts p), tabI 62 26 a tb us] ++ O1) ∧ Heads [(0, yv), (1, (.pointer (some ⟨nb, 0, none⟩))), (2, (.pointer (some ⟨db, 0, none⟩))), (3, (.pointer (some ⟨sb, 0, none⟩))), (4, (.pointer (some ⟨xb, 0, none⟩))), (5, (.pointer (some ⟨ub, 0, none⟩))), (6, (.pointer (some ⟨yb, 0, none⟩))), (7, (.int .i64 ((x : Nat) : Int))), (8, .int .i64 ((toN a s x : Nat) : Int)), (25, (.slice v1 a.next[s].length c1)), (26, .int .i64 (a.next[s].length : Int)), (27, (.int .i64 ((x : Nat) : Int))), (52, (.func (.func 62) #[] #[(.pointer (some ⟨nb2, 0, none⟩)), (.pointer (some ⟨db2, 0, none⟩)), (.pointer (some ⟨sb2, 0, none⟩)), (.pointer (some ⟨xb2, 0, none⟩)), (.pointer (some ⟨ub2, 0, none⟩))]))] ρ) ?_ ?_
    · refine T.tree [oI yb 85 [yv], oI xb 29 [(.slice pb p.length pc)], oI nb 3 [(.int .i64 ((n : Nat) : Int))], oI sb 3 [(.int .i64 ((s : Nat) : Int))], oI ub 64 [(.slice tb 65 65)], oI db 25 (dC a k)] 12 mixed rfl (by exact Sub.k (.k (.k (.k (.k (.k .z)))))) (fun _ _ _ h => h) ?_
      refine RO.quietT 0 rfl (by kernel_rfl) (q_load_boxAgg 5 Tryd.underlying25 rfl inf25 rfl rfl rfl) ?_
      refine RO.quietT 1 rfl (by kernel_rfl) (q_load_box 4 Tryd.underlying64 rfl rfl rfl rfl) ?_
      refine RO.quietT 2 rfl (by kernel_rfl) (q_move rfl) ?_
      refine RO.quietT 3 rfl (by kernel_rfl) (q_load_box 2 Tryd.underlying3 rfl rfl rfl rfl) ?_
      refine RO.quietT 4 rfl (by kernel_rfl) (QT.cast (q_sub64 rfl rfl (by omega)) (v' := .int .i64 ((n1 : Nat) : Int)) (congrArg (Value.int .i64) (by omega))) ?_
      refine RO.quietT 5 rfl (by kernel_rfl) (q_load_box 1 Tryd.underlying29 rfl rfl rfl rfl) ?_
      refine RO.quietT 7 rfl (by kernel_rfl) (q_move rfl) ?_
      refine RO.quietT 8 rfl (by kernel_rfl) (q_conv_id Tryd.underlying3 Tryd.underlying5 rfl (wrap8 (by omega))) ?_
      have hk47 := fun (w1 : World) (hI : Inv base ([oI yb 85 [yv], oI xb 29 [(.slice pb p.length pc)], oI nb 3 [(.int .i64 ((n : Nat) : Int))], oI sb 3 [(.int .i64 ((s : Nat) : Int))], oI ub 64 [(.slice tb 65 65)], oI db 25 (dC a k), rowI pb pc 5 1 (byts p), tabI 62 26 a tb us] ++ O1) w1) => (haveI := Inv.tab (P := Tryd.prog) hI; clipC w1 pb p.length pc hcap)
      refine RO.fork [6, 9] (by kernel_rfl) rfl ⟨⟨_, rfl, rfl, l_call ent63 (CallT.of_pure hk47) rfl ?_⟩, ⟨_, rfl, rfl, l_build1 (v := Value.int .u8 ((x : Nat) : Int)) Tryd.underlying29 inf5 rfl rfl rfl (fun bs => ⟨by exact Sub.d (.k (.k (.k (.k (.k (.k .z)))))), ?_⟩)⟩, trivial⟩
      · clear hk47
        rintro vr O' ⟨N, rfl, rfl, rfl⟩
        refine ⟨by exact Sub.k (.k (.k (.k (.k (.k .z))))), ?_⟩
        refine RO.fork [9] (by kernel_rfl) rfl ⟨⟨_, rfl, rfl, l_build1 (v := Value.int .u8 ((x : Nat) : Int)) Tryd.underlying29 inf5 rfl rfl rfl (fun bs => ⟨by exact Sub.d (.k (.k (.k (.k (.k (.k .z)))))), ?_⟩)⟩, trivial⟩
        refine RO.fork [10] (by kernel_rfl) rfl ⟨⟨_, rfl, rfl, l_appendF (cs := byts p) (new := [Value.int .u8 ((x : Nat) : Int)]) Tryd.underlying29 Tryd.underlying29 inf5 rfl rfl rfl (Src.row (j := 7) rfl (by rw [List.length_map, Nat.mul_one]) p.length) (by decide) (Src.row (j := 0) rfl (by simp)) (by simp [oneB]) (by omega) (by decide) (by decide) (fun b7 c7 => ⟨by exact Sub.d (.d (.k (.k (.k (.k (.k (.k .z))))))), ?_⟩)⟩, trivial⟩
        have hk52 := fun (w1 : World) (hI : Inv base ([rowI b7 c7 5 1 (byts p ++ [Value.int .u8 ((x : Nat) : Int)]), rowI (some ⟨bs, 0, none⟩) 1 5 1 [Value.int .u8 ((x : Nat) : Int)], oI yb 85 [yv], oI xb 29 [(.slice pb p.length pc)], oI nb 3 [(.int .i64 ((n : Nat) : Int))], oI sb 3 [(.int .i64 ((s : Nat) : Int))], oI ub 64 [(.slice tb 65 65)], oI db 25 (dC a k), rowI pb pc 5 1 (byts p), tabI 62 26 a tb us] ++ O1) w1) => (haveI := Inv.tab (P := Tryd.prog) hI; wordsMk w1 a k tb b7 (toN a s x) n1 (p.length + 1) c7)
        refine RO.fork [11] (by kernel_rfl) rfl ⟨⟨_, rfl, rfl, l_call ent43 (CallT.of_pure hk52) rfl ?_⟩, trivial⟩
        clear hk52
        rintro vr O' ⟨N, rfl, xb2, nb2, sb2, ub2, db2, rfl, rfl⟩
        refine ⟨by exact Sub.d (.d (.d (.d (.d (.d (.d (.k (.k (.k (.k (.k (.k .z)))))))))))), ?_⟩
        exact RO.fin (by kernel_rfl) ⟨bs, b7, c7, xb2, nb2, sb2, ub2, db2, rfl, ⟨rfl, rfl, rfl, rfl, rfl, rfl, rfl, rfl, rfl, rfl, rfl, rfl, rfl, trivial⟩⟩ (by exact Sub.rf)
      have hk47 := fun (w1 : World) (hI : Inv base ([rowI (some ⟨bs, 0, none⟩) 1 5 1 [Value.int .u8 ((x : Nat) : Int)], oI yb 85 [yv], oI xb 29 [(.slice pb p.length pc)], oI nb 3 [(.int .i64 ((n : Nat) : Int))], oI sb 3 [(.int .i64 ((s : Nat) : Int))], oI ub 64 [(.slice tb 65 65)], oI db 25 (dC a k), rowI pb pc 5 1 (byts p), tabI 62 26 a tb us] ++ O1) w1) => (haveI := Inv.tab (P := Tryd.prog) hI; clipC w1 pb p.length pc hcap)
      refine RO.fork [6] (by kernel_rfl) rfl ⟨⟨_, rfl, rfl, l_call ent63 (CallT.of_pure hk47) rfl ?_⟩, trivial⟩
      clear hk47
      rintro vr O' ⟨N, rfl, rfl, rfl⟩
      refine ⟨by exact Sub.d (.k (.k (.k (.k (.k (.k .z)))))), ?_⟩
      refine RO.fork [10] (by kernel_rfl) rfl ⟨⟨_, rfl, rfl, l_appendF (cs := byts p) (new := [Value.int .u8 ((x : Nat) : Int)]) Tryd.underlying29 Tryd.underlying29 inf5 rfl rfl rfl (Src.row (j := 7) rfl (by rw [List.length_map, Nat.mul_one]) p.length) (by decide) (Src.row (j := 0) rfl (by simp)) (by simp [oneB]) (by omega) (by decide) (by decide) (fun b7 c7 => ⟨by exact Sub.d (.d (.k (.k (.k (.k (.k (.k .z))))))), ?_⟩)⟩, trivial⟩
      have hk52 := fun (w1 : World) (hI : Inv base ([rowI b7 c7 5 1 (byts p ++ [Value.int .u8 ((x : Nat) : Int)]), rowI (some ⟨bs, 0, none⟩) 1 5 1 [Value.int .u8 ((x : Nat) : Int)], oI yb 85 [yv], oI xb 29 [(.slice pb p.length pc)], oI nb 3 [(.int .i64 ((n : Nat) : Int))], oI sb 3 [(.int .i64 ((s : Nat) : Int))], oI ub 64 [(.slice tb 65 65)], oI db 25 (dC a k), rowI pb pc 5 1 (byts p), tabI 62 26 a tb us] ++ O1) w1) => (haveI := Inv.tab (P := Tryd.prog) hI; wordsMk w1 a k tb b7 (toN a s x) n1 (p.length + 1) c7)
      refine RO.fork [11] (by kernel_rfl) rfl ⟨⟨_, rfl, rfl, l_call ent43 (CallT.of_pure hk52) rfl ?_⟩, trivial⟩
      clear hk52
      rintro vr O' ⟨N, rfl, xb2, nb2, sb2, ub2, db2, rfl, rfl⟩
      refine ⟨by exact Sub.d (.d (.d (.d (.d (.d (.d (.k (.k (.k (.k (.k (.k .z)))))))))))), ?_⟩
      exact RO.fin (by kernel_rfl) ⟨bs, b7, c7, xb2, nb2, sb2, ub2, db2, rfl, ⟨rfl, rfl, rfl, rfl, rfl, rfl, rfl, rfl, rfl, rfl, rfl, rfl, rfl, trivial⟩⟩ (by exact Sub.rf)
    rintro ρ O ⟨bs, b7, c7, xb2, nb2, sb2, ub2, db2, rfl, hH⟩
    obtain ⟨ρ0, rfl⟩ := hH.elim
    clear hH
    refine T.block ?_
    refine T.sub (O' := ([oI xb2 29 [(.slice b7 (p.length + 1) c7)], oI nb2 3 [(.int .i64 ((n1 : Nat) : Int))], oI sb2 3 [(.int .i64 ((toN a s x : Nat) : Int))], oI ub2 64 [(.slice tb 65 65)], oI db2 25 (dC a k), rowI b7 c7 5 1 (byts p ++ [Value.int .u8 ((x : Nat) : Int)]), tabI 62 26 a tb us, oI yb 85 [yv], oI xb 29 [(.slice pb p.length pc)], oI nb 3 [(.int .i64 ((n : Nat) : Int))], oI sb 3 [(.int .i64 ((s : Nat) : Int))], oI ub 64 [(.slice tb 65 65)], oI db 25 (dC a k), rowI pb pc 5 1 (byts p)] ++ O1)) (by exact Sub.k (.k (.k (.k (.k (.k (.d (.pull [oI yb 85 [yv], oI xb 29 [(.slice pb p.length pc)], oI nb 3 [(.int .i64 ((n : Nat) : Int))], oI sb 3 [(.int .i64 ((s : Nat) : Int))], oI ub 64 [(.slice tb 65 65)], oI db 25 (dC a k), rowI pb pc 5 1 (byts p)] _ (.k (.k (.k (.k (.k (.k (.k .rf))))))))))))))) ?_
    refine T.rangeFunc (first := []) (caps := [(.pointer (some ⟨nb2, 0, none⟩)), (.pointer (some ⟨db2, 0, none⟩)), (.pointer (some ⟨sb2, 0, none⟩)), (.pointer (some ⟨xb2, 0, none⟩)), (.pointer (some ⟨ub2, 0, none⟩))]) rfl ent62 (fun yl yq yhq => ?_)
    refine CallT.mono (CallT.sub (O' := oI xb2 29 [(.slice b7 (p.length + 1) c7)] :: oI nb2 3 [(.int .i64 ((n1 : Nat) : Int))] :: oI sb2 3 [(.int .i64 ((toN a s x : Nat) : Int))] :: oI ub2 64 [(.slice tb 65 65)] :: oI db2 25 (dC a k) :: rowI b7 c7 5 1 (byts p ++ [Value.int .u8 ((x : Nat) : Int)]) :: tabI 62 26 a tb us :: (objI yl (lp yq none) :: ([oI yb 85 [yv], oI xb 29 [(.slice pb p.length pc)], oI nb 3 [(.int .i64 ((n : Nat) : Int))], oI sb 3 [(.int .i64 ((s : Nat) : Int))], oI ub 64 [(.slice tb 65 65)], oI db 25 (dC a k), rowI pb pc 5 1 (byts p)] ++ O1))) (Sub.pickR [1, 1, 1, 1, 1, 1, 1, 0, 0, 0, 0, 0, 0, 0, 0] [objI yl (lp yq none), oI xb2 29 [(.slice b7 (p.length + 1) c7)], oI nb2 3 [(.int .i64 ((n1 : Nat) : Int))], oI sb2 3 [(.int .i64 ((toN a s x : Nat) : Int))], oI ub2 64 [(.slice tb 65 65)], oI db2 25 (dC a k), rowI b7 c7 5 1 (byts p ++ [Value.int .u8 ((x : Nat) : Int)]), tabI 62 26 a tb us, oI yb 85 [yv], oI xb 29 [(.slice pb p.length pc)], oI nb 3 [(.int .i64 ((n : Nat) : Int))], oI sb 3 [(.int .i64 ((s : Nat) : Int))], oI ub 64 [(.slice tb 65 65)], oI db 25 (dC a k), rowI pb pc 5 1 (byts p)] O1 rfl rfl) (ih n1 (by omega) (toN a s x) (p ++ [x]) (p.length + 1) (by simp) (byts p ++ [Value.int .u8 ((x : Nat) : Int)]) (by simp) xb2 nb2 sb2 ub2 db2 b7 c7 (.func (.yield yl) #[] #[]) rfl (fun i9 O => ∃ (O2 : List Lx.Item), O = objI yl (lp yq none) :: ([oI yb 85 [yv], oI xb 29 [(.slice pb p.length pc)], oI nb 3 [(.int .i64 ((n : Nat) : Int))], oI sb 3 [(.int .i64 ((s : Nat) : Int))], oI ub 64 [(.slice tb 65 65)], oI db 25 (dC a k), rowI pb pc 5 1 (byts p)] ++ O2) ∧ J (psum a n1 s x + i9) O2) (fun O => ∃ (O2 : List Lx.Item), O = objI yl (lp yq (some .ret)) :: ([oI yb 85 [yv], oI xb 29 [(.slice pb p.length pc)], oI nb 3 [(.int .i64 ((n : Nat) : Int))], oI sb 3 [(.int .i64 ((s : Nat) : Int))], oI ub 64 [(.slice tb 65 65)], oI db 25 (dC a k), rowI pb pc 5 1 (byts p)] ++ O2) ∧ Q O2) (by rw [List.length_append]; simp; omega) hto ?_ _ ?_)) ?_
    · intro i u rb rc O hu hJ
      obtain ⟨O2, rfl, hJ2⟩ := hJ
      refine CallV.yield yhq rfl rfl ?_
      have happ : p ++ [x] ++ u = p ++ x :: u := by simp
      have hidx : (wsN a n s)[psum a n1 s x + i]? = some (x :: u) := by rw [hn1]; exact wsN_at hxl hu
      refine T.region ?_
      refine TO.quiet (q_assign rfl) ?_
      refine TO.nil (T.block (T.seq (T.region ?_)))
      refine TO.quiet (q_load_box 0 Tryd.underlying85 rfl rfl rfl rfl) (TO.quiet (q_move rfl) ?_)
      have hk56 := CallV.under (B := [oI yb 85 [yv], oI xb 29 [(.slice pb p.length pc)], oI nb 3 [(.int .i64 ((n : Nat) : Int))], oI sb 3 [(.int .i64 ((s : Nat) : Int))], oI ub 64 [(.slice tb 65 65)], oI db 25 (dC a k), rowI pb pc 5 1 (byts p)]) (O := ([oI yb 85 [yv], oI xb 29 [(.slice pb p.length pc)], oI nb 3 [(.int .i64 ((n : Nat) : Int))], oI sb 3 [(.int .i64 ((s : Nat) : Int))], oI ub 64 [(.slice tb 65 65)], oI db 25 (dC a k), rowI pb pc 5 1 (byts p)] ++ (O2 ++ [rowI rb rc 5 1 (byts ((p ++ [x]) ++ u))]))) (by
          have h9 := hy _ (x :: u) rb rc O2 hidx hJ2
          rw [← happ] at h9
          exact h9) (Sub.cnt [] (by intro a; simp only [itms, oI, List.set_cons_zero, List.set_cons_succ, putL, List.cons_append, List.nil_append, List.append_nil, List.append_assoc, List.map_append, List.map_cons, List.map_nil, cnt_append, cnt_cons, cnt_nil] <;> omega))
      refine TO.loud rfl (l_callG hk56 rfl rfl ?_)
      clear hk56
      rintro vr O' ⟨A1, rfl, ⟨rfl, hJ3⟩ | ⟨rfl, hQ3⟩⟩
      · refine TO.sub (O' := ([oI yb 85 [yv], oI xb 29 [(.slice pb p.length pc)], oI nb 3 [(.int .i64 ((n : Nat) : Int))], oI sb 3 [(.int .i64 ((s : Nat) : Int))], oI ub 64 [(.slice tb 65 65)], oI db 25 (dC a k), rowI pb pc 5 1 (byts p)] ++ A1)) (Sub.cnt [] (by intro a; simp only [itms, oI, List.set_cons_zero, List.set_cons_succ, putL, List.cons_append, List.nil_append, List.append_nil, List.append_assoc, List.map_append, List.map_cons, List.map_nil, cnt_append, cnt_cons, cnt_nil] <;> omega)) ?_
        refine TO.quiet (q_not rfl) ?_
        refine TO.nil ?_
        refine T.cond0 rfl ?_
        refine T.skip ?_
        exact .inl ⟨rfl, A1, rfl, hJ3⟩
      refine TO.sub (O' := ([oI yb 85 [yv], oI xb 29 [(.slice pb p.length pc)], oI nb 3 [(.int .i64 ((n : Nat) : Int))], oI sb 3 [(.int .i64 ((s : Nat) : Int))], oI ub 64 [(.slice tb 65 65)], oI db 25 (dC a k), rowI pb pc 5 1 (byts p)] ++ A1)) (Sub.cnt [] (by intro a; simp only [itms, oI, List.set_cons_zero, List.set_cons_succ, putL, List.cons_append, List.nil_append, List.append_nil, List.append_assoc, List.map_append, List.map_cons, List.map_nil, cnt_append, cnt_cons, cnt_nil] <;> omega)) ?_
      refine TO.quiet (q_not rfl) ?_
      refine TO.nil ?_
      refine T.cond1 rfl ?_
      refine T.ret ?_
      exact .inr ⟨rfl, A1, rfl, hQ3⟩
    · exact ⟨O1, rfl, hJ⟩
    rintro v O' (⟨O9, rfl, O2, rfl, hJ2⟩ | ⟨O9, rfl, O2, rfl, hQ2⟩)
    rotate_left
    · refine ⟨some .ret, _, rfl, ?_⟩
      refine Res.drop ?_
      refine Res.zero Tryd.results62 ?_
      exact ⟨O2 ++ [tabI 62 26 a tb us], Sub.appL [oI yb 85 [yv], oI xb 29 [(.slice pb p.length pc)], oI nb 3 [(.int .i64 ((n : Nat) : Int))], oI sb 3 [(.int .i64 ((s : Nat) : Int))], oI ub 64 [(.slice tb 65 65)], oI db 25 (dC a k), rowI pb pc 5 1 (byts p)] Sub.rf, .inr ⟨O2, rfl, hQ2⟩⟩
    refine ⟨none, _, rfl, ?_⟩
    refine T.sub (O' := ([oI yb 85 [yv], oI xb 29 [(.slice pb p.length pc)], oI nb 3 [(.int .i64 ((n : Nat) : Int))], oI sb 3 [(.int .i64 ((s : Nat) : Int))], oI ub 64 [(.slice tb 65 65)], oI db 25 (dC a k), rowI pb pc 5 1 (byts p)] ++ (O2 ++ [tabI 62 26 a tb us]))) (by exact Sub.rf) ?_
    refine T.sub (O' := ([oI yb 85 [yv], oI xb 29 [(.slice pb p.length pc)], oI nb 3 [(.int .i64 ((n : Nat) : Int))], oI sb 3 [(.int .i64 ((s : Nat) : Int))], oI ub 64 [(.slice tb 65 65)], oI db 25 (dC a k), rowI pb pc 5 1 (byts p), tabI 62 26 a tb us] ++ O2)) (Sub.cnt [] (by intro a; simp only [itms, oI, List.set_cons_zero, List.set_cons_succ, putL, List.cons_append, List.nil_append, List.append_nil, List.append_assoc, List.map_append, List.map_cons, List.map_nil, cnt_append, cnt_cons, cnt_nil] <;> omega)) ?_
    refine T.region ?_
    refine TO.quiet (q_addN (a := x) (b := 1) rfl rfl (by omega)) (TO.quiet (q_move rfl) ?_)
    refine TO.nil ?_
    exact ⟨x + 1, by omega, O2, rfl, by omega, by rw [psum_succ]; exact hJ2, ⟨rfl, rfl, rfl, rfl, rfl, rfl, rfl, rfl, rfl, rfl, trivial⟩⟩
  have hge28 : ¬ x < a.next[s].length := by omega
  refine T.exit ?_
  refine Res.drop ?_
  refine Res.zero Tryd.results62 ?_
  have hxe : x = letN a := by omega
  subst hxe
  exact ⟨O1 ++ [tabI 62 26 a tb us], Sub.cnt [oI yb 85 [yv], oI xb 29 [(.slice pb p.length pc)], oI nb 3 [(.int .i64 ((n : Nat) : Int))], oI sb 3 [(.int .i64 ((s : Nat) : Int))], oI ub 64 [(.slice tb 65 65)], oI db 25 (dC a k), rowI pb pc 5 1 (byts p)] (by intro a; simp only [itms, oI, List.set_cons_zero, List.set_cons_succ, putL, List.cons_append, List.nil_append, List.append_nil, List.append_assoc, List.map_append, List.map_cons, List.map_nil, cnt_append, cnt_cons, cnt_nil] <;> omega), .inl ⟨O1, rfl, by rw [psum_full] at hJ; rw [hn1]; exact hJ⟩⟩
end Go.Proofs.YtnmfefmhfkhihaaDoor


namespace Go.Proofs.YtnmfefmhfkhihaaDoor
open Go.Lx Go.RowKit
set_option linter.unusedVariables false
set_option linter.unusedSimpArgs false
set_option maxHeartbeats 1000000 in
set_option maxRecDepth 20000 in
theorem wdsBad (w : World) [Tab Tryd.prog w] (a : DFA) (k : DK) (ha : At w a k) (haa : a.next.length < 9223372036854775807) (haar : ∀ r ∈ a.next, r.length < 9223372036854775807) (haaf : a.final.length < 9223372036854775807) (he : checkD a ≠ 0) (m : Int) :
    PureT Tryd.prog 15 [dV a k, .int .i64 m] w fun v N => v = .tuple #[.slice none 0 0, .int .i64 (checkD a : Int)] ∧ N = [] := by
  refine CallT.enter Tryd.func15 rfl Tryd.ntmps15 rfl ?_
  refine T.seq (T.region ?_)
  refine TO.loud rfl (l_box (v := (dV a k)) (cs := (dC a k)) rfl rfl (fun bx1 => ?_))
  refine TO.loud rfl (l_box (v := .int .i64 m) (cs := [(.int .i64 m)]) rfl rfl (fun bx2 => ?_))
  refine TO.loud rfl (l_alloc inf33 rfl (fun bx3 => ?_))
  refine TO.quiet (q_assign rfl) ?_
  refine TO.nil (T.seq (T.seq (T.region ?_)))
  refine TO.quiet (q_load_boxAgg 2 Tryd.underlying25 rfl inf25 rfl rfl rfl) ?_
  have hk11 := fun (w1 : World) (hI : Inv w [oI bx3 33 [(.slice none 0 0)], oI bx2 3 [(.int .i64 m)], oI bx1 25 (dC a k)] w1) => (haveI := Inv.tab (P := Tryd.prog) hI; subsetCheck w1 a k.nb k.fb k.nc k.fc (vals k.qs) (hI.dfa ha) haa haar haaf)
  refine TO.loud rfl (l_call ent33 (CallT.of_pure hk11) rfl ?_)
  clear hk11
  rintro vr O' ⟨N, rfl, rfl, rfl⟩
  refine TO.quiet (q_assign rfl) ?_
  refine TO.nil (T.seq (T.region ?_))
  refine TO.quiet (q_move rfl) (TO.quiet (QT.toB (q_neq rfl rfl) (decide_eq_true (by omega))) ?_)
  refine TO.nil ?_
  refine T.cond1 rfl ?_
  refine T.seq (T.region ?_)
  refine TO.quiet (q_move rfl) ?_
  refine TO.loud rfl (l_store_box (v := (.slice none 0 0)) (vs := [(.slice none 0 0)]) 0 inf33 rfl rfl rfl rfl rfl rfl (by simp [putL]) ?_)
  refine TO.quiet (q_assign rfl) ?_
  refine TO.nil (T.ret (Res.drop ?_))
  refine Res.cell1t (i := 0) (.int .i64 (checkD a : Int)) Tryd.results15 Tryd.underlying33 rfl rfl rfl rfl ?_
  exact ⟨[], Sub.z, rfl, rfl⟩
set_option maxHeartbeats 1000000 in
set_option maxRecDepth 20000 in
theorem wdsLo (w : World) [Tab Tryd.prog w] (a : DFA) (k : DK) (ha : At w a k) (hv : Valid a) (m : Int) (hn : m < 0) :
    PureT Tryd.prog 15 [dV a k, .int .i64 m] w fun v N => v = .tuple #[.slice none 0 0, .int .i64 1] ∧ N = [] := by
  refine CallT.enter Tryd.func15 rfl Tryd.ntmps15 rfl ?_
  have he := checkD_zero.2 hv
  have h4 := hv.n4
  have hww : letN a ≤ 64 := hv.width
  have hfin := hv.fin
  have hvl := ha.rows.1
  have hsl := start_lt hv.toVal
  have hs0 := hv.s0
  have hs1 := hv.s1
  refine T.seq (T.region ?_)
  refine TO.loud rfl (l_box (v := (dV a k)) (cs := (dC a k)) rfl rfl (fun bx1 => ?_))
  refine TO.loud rfl (l_box (v := .int .i64 m) (cs := [(.int .i64 m)]) rfl rfl (fun bx2 => ?_))
  refine TO.loud rfl (l_alloc inf33 rfl (fun bx3 => ?_))
  refine TO.quiet (q_assign rfl) ?_
  refine TO.nil (T.seq (T.seq (T.region ?_)))
  refine TO.quiet (q_load_boxAgg 2 Tryd.underlying25 rfl inf25 rfl rfl rfl) ?_
  have hk11 := fun (w1 : World) (hI : Inv w [oI bx3 33 [(.slice none 0 0)], oI bx2 3 [(.int .i64 m)], oI bx1 25 (dC a k)] w1) => (haveI := Inv.tab (P := Tryd.prog) hI; (show PureT _ _ _ _ _ from by
      have h9 := subsetCheck w1 a k.nb k.fb k.nc k.fc (vals k.qs) (hI.dfa ha) (by omega) hv.bound (by omega)
      rw [he] at h9
      exact h9))
  refine TO.loud rfl (l_call ent33 (CallT.of_pure hk11) rfl ?_)
  clear hk11
  rintro vr O' ⟨N, rfl, rfl, rfl⟩
  refine TO.quiet (q_assign rfl) ?_
  refine TO.nil (T.seq (T.region ?_))
  refine TO.quiet (q_move rfl) (TO.quiet (q_neq rfl rfl) ?_)
  refine TO.nil ?_
  refine T.cond0 rfl ?_
  refine T.skip (T.seq (T.seq (T.region ?_)))
  refine TO.quiet (q_load_box 1 Tryd.underlying3 rfl rfl rfl rfl) (TO.quiet (QT.toB (q_lss rfl rfl) (decide_eq_true (by omega))) (TO.quiet (q_move rfl) ?_))
  refine TO.passed rfl rfl ?_
  refine TO.passed rfl rfl ?_
  refine TO.quiet (q_pick1 rfl rfl) ?_
  refine TO.nil ?_
  refine T.cond1 rfl ?_
  refine T.seq (T.region ?_)
  refine TO.loud rfl (l_store_box (v := (.slice none 0 0)) (vs := [(.slice none 0 0)]) 0 inf33 rfl rfl rfl rfl rfl rfl (by simp [putL]) ?_)
  refine TO.quiet (q_assign rfl) ?_
  refine TO.nil (T.ret (Res.drop ?_))
  refine Res.cell1t (i := 0) (.int .i64 1) Tryd.results15 Tryd.underlying33 rfl rfl rfl rfl ?_
  exact ⟨[], Sub.z, rfl, rfl⟩
set_option maxHeartbeats 1000000 in
set_option maxRecDepth 20000 in
theorem wdsHi (w : World) [Tab Tryd.prog w] (a : DFA) (k : DK) (ha : At w a k) (hv : Valid a) (m : Int) (hn : 256 < m) :
    PureT Tryd.prog 15 [dV a k, .int .i64 m] w fun v N => v = .tuple #[.slice none 0 0, .int .i64 1] ∧ N = [] := by
  refine CallT.enter Tryd.func15 rfl Tryd.ntmps15 rfl ?_
  have he := checkD_zero.2 hv
  have h4 := hv.n4
  have hww : letN a ≤ 64 := hv.width
  have hfin := hv.fin
  have hvl := ha.rows.1
  have hsl := start_lt hv.toVal
  have hs0 := hv.s0
  have hs1 := hv.s1
  refine T.seq (T.region ?_)
  refine TO.loud rfl (l_box (v := (dV a k)) (cs := (dC a k)) rfl rfl (fun bx1 => ?_))
  refine TO.loud rfl (l_box (v := .int .i64 m) (cs := [(.int .i64 m)]) rfl rfl (fun bx2 => ?_))
  refine TO.loud rfl (l_alloc inf33 rfl (fun bx3 => ?_))
  refine TO.quiet (q_assign rfl) ?_
  refine TO.nil (T.seq (T.seq (T.region ?_)))
  refine TO.quiet (q_load_boxAgg 2 Tryd.underlying25 rfl inf25 rfl rfl rfl) ?_
  have hk11 := fun (w1 : World) (hI : Inv w [oI bx3 33 [(.slice none 0 0)], oI bx2 3 [(.int .i64 m)], oI bx1 25 (dC a k)] w1) => (haveI := Inv.tab (P := Tryd.prog) hI; (show PureT _ _ _ _ _ from by
      have h9 := subsetCheck w1 a k.nb k.fb k.nc k.fc (vals k.qs) (hI.dfa ha) (by omega) hv.bound (by omega)
      rw [he] at h9
      exact h9))
  refine TO.loud rfl (l_call ent33 (CallT.of_pure hk11) rfl ?_)
  clear hk11
  rintro vr O' ⟨N, rfl, rfl, rfl⟩
  refine TO.quiet (q_assign rfl) ?_
  refine TO.nil (T.seq (T.region ?_))
  refine TO.quiet (q_move rfl) (TO.quiet (q_neq rfl rfl) ?_)
  refine TO.nil ?_
  refine T.cond0 rfl ?_
  refine T.skip (T.seq (T.seq (T.region ?_)))
  refine TO.quiet (q_load_box 1 Tryd.underlying3 rfl rfl rfl rfl) (TO.quiet (QT.toB (q_lss rfl rfl) (decide_eq_false (by omega))) (TO.quiet (q_move rfl) ?_))
  refine TO.guarded rfl rfl rfl (LT.of_quiet rfl rfl (q_load_box 1 Tryd.underlying3 rfl rfl rfl rfl) ?_)
  refine TO.guarded rfl rfl rfl (LT.of_quiet rfl rfl (QT.toB (q_gtr rfl rfl) (decide_eq_true (by omega))) ?_)
  refine TO.quiet (q_pick0 rfl rfl) ?_
  refine TO.nil ?_
  refine T.cond1 rfl ?_
  refine T.seq (T.region ?_)
  refine TO.loud rfl (l_store_box (v := (.slice none 0 0)) (vs := [(.slice none 0 0)]) 0 inf33 rfl rfl rfl rfl rfl rfl (by simp [putL]) ?_)
  refine TO.quiet (q_assign rfl) ?_
  refine TO.nil (T.ret (Res.drop ?_))
  refine Res.cell1t (i := 0) (.int .i64 1) Tryd.results15 Tryd.underlying33 rfl rfl rfl rfl ?_
  exact ⟨[], Sub.z, rfl, rfl⟩
set_option maxHeartbeats 8000000 in
set_option maxRecDepth 20000 in
theorem wdsN (w : World) [Tab Tryd.prog w] (a : DFA) (k : DK) (ha : At w a k) (hv : Valid a) (m : Nat) (hm : m ≤ 256) :
    PureT Tryd.prog 15 [dV a k, .int .i64 ((m : Nat) : Int)] w fun v N => ∃ ws lb lc, wnums ws = (allW a 65).take m ∧ v = .tuple #[.slice lb ws.length lc, .int .i64 0] ∧ N = [rowI lb lc 29 1 (wvals ws)] ++ witms 5 ws := by
  refine CallT.enter Tryd.func15 rfl Tryd.ntmps15 rfl ?_
  have he := checkD_zero.2 hv
  have h4 := hv.n4
  have hww : letN a ≤ 64 := hv.width
  have hfin := hv.fin
  have hvl := ha.rows.1
  have hsl := start_lt hv.toVal
  have hs0 := hv.s0
  have hs1 := hv.s1
  have hss : a.start = ((a.start.toNat : Nat) : Int) := (Int.toNat_of_nonneg hv.s0).symm
  refine T.seq (T.region ?_)
  refine TO.loud rfl (l_box (v := (dV a k)) (cs := (dC a k)) rfl rfl (fun z1 => ?_))
  refine TO.loud rfl (l_box (v := (.int .i64 ((m : Nat) : Int))) (cs := [(.int .i64 ((m : Nat) : Int))]) rfl rfl (fun z2 => ?_))
  refine TO.loud rfl (l_alloc inf33 rfl (fun z3 => ?_))
  refine TO.quiet (q_assign rfl) ?_
  refine TO.nil (T.seq (T.seq (T.region ?_)))
  refine TO.quiet (q_load_boxAgg 2 Tryd.underlying25 rfl inf25 rfl rfl rfl) ?_
  have hk11 := fun (w1 : World) (hI : Inv w [oI z3 33 [(.slice none 0 0)], oI z2 3 [(.int .i64 ((m : Nat) : Int))], oI z1 25 (dC a k)] w1) => (haveI := Inv.tab (P := Tryd.prog) hI; (show PureT _ _ _ _ _ from by
      have h9 := subsetCheck w1 a k.nb k.fb k.nc k.fc (vals k.qs) (hI.dfa ha) (by omega) hv.bound (by omega)
      rw [he] at h9
      exact h9))
  refine TO.loud rfl (l_call ent33 (CallT.of_pure hk11) rfl ?_)
  clear hk11
  rintro vr O' ⟨N, rfl, rfl, rfl⟩
  refine TO.quiet (q_assign rfl) ?_
  refine TO.nil (T.seq (T.region ?_))
  refine TO.quiet (q_move rfl) (TO.quiet (q_neq rfl rfl) ?_)
  refine TO.nil ?_
  refine T.cond0 rfl ?_
  refine T.skip (T.seq (T.seq (T.region ?_)))
  refine TO.quiet (q_load_box 1 Tryd.underlying3 rfl rfl rfl rfl) (TO.quiet (QT.toB (q_lss rfl rfl) (decide_eq_false (by omega))) (TO.quiet (q_move rfl) ?_))
  refine TO.guarded rfl rfl rfl (LT.of_quiet rfl rfl (q_load_box 1 Tryd.underlying3 rfl rfl rfl rfl) ?_)
  refine TO.guarded rfl rfl rfl (LT.of_quiet rfl rfl (QT.toB (q_gtr rfl rfl) (decide_eq_false (by omega))) ?_)
  refine TO.quiet (q_pick0 rfl rfl) ?_
  refine TO.nil ?_
  refine T.cond0 rfl ?_
  refine T.skip (T.seq (T.region ?_))
  refine TO.quiet (q_load_boxAgg 2 Tryd.underlying25 rfl inf25 rfl rfl rfl) ?_
  have hk22 := fun (w1 : World) (hI : Inv w [oI z3 33 [(.slice none 0 0)], oI z2 3 [(.int .i64 ((m : Nat) : Int))], oI z1 25 (dC a k)] w1) => (haveI := Inv.tab (P := Tryd.prog) hI; tableC w1 a k (hI.atB ha) hv)
  refine TO.loud rfl (l_call ent42 (CallT.of_pure hk22) rfl ?_)
  clear hk22
  rintro vr O' ⟨N, rfl, tb, us, hT, rfl, rfl⟩
  refine TO.quiet (q_assign rfl) ?_
  refine TO.nil (T.seq (T.seq (T.region ?_)))
  refine TO.quiet (q_assign rfl) ?_
  refine TO.nil (T.block ?_)
  refine T.nilRow 29 1 ?_
  refine T.sub (O' := [oI z3 33 [(.slice none 0 0)], rowI none 0 29 1 (wvals []), tabI 62 26 a tb us, oI z2 3 [(.int .i64 ((m : Nat) : Int))], oI z1 25 (dC a k)]) (by exact Sub.pull [rowI none 0 29 1 [], tabI 62 26 a tb us] _ (.k (.k (.k (.k .z))))) ?_
  refine T.loop (fun (n : Nat) ρ O => ∃ (ws : List WRec) (lb : Option Addr) (lc : Nat), O = ([oI z3 33 [(.slice lb ws.length lc)], rowI lb lc 29 1 (wvals ws), tabI 62 26 a tb us, oI z2 3 [(.int .i64 ((m : Nat) : Int))], oI z1 25 (dC a k)] ++ (witms 5 ws)) ∧ n ≤ 65 ∧ wnums ws = (allW a n).take m ∧ Heads [(0, (dV a k)), (1, (.int .i64 ((m : Nat) : Int))), (2, (.pointer (some ⟨z1, 0, none⟩))), (3, (.pointer (some ⟨z2, 0, none⟩))), (4, (.pointer (some ⟨z3, 0, none⟩))), (5, .int .i64 0), (6, .int .i64 0), (7, (.slice tb 65 65)), (8, .int .i64 ((n : Nat) : Int))] ρ) (fun n => 65 - n) 0 ?_ ?_
  · exact ⟨[], none, 0, rfl, Nat.zero_le _, (by simp [allW]), ⟨rfl, rfl, rfl, rfl, rfl, rfl, rfl, rfl, rfl, trivial⟩⟩
  rintro n ρ O ⟨ws, lb, lc, rfl, hn, hws, hH⟩
  obtain ⟨ρ0, rfl⟩ := hH.elim
  clear hH
  have hwl : ws.length ≤ m := by
    have h9 := congrArg List.length hws
    rw [List.length_map, List.length_take] at h9; omega
  refine T.seq (T.seq (T.region ?_))
  refine TO.quiet (q_move rfl) (TO.quiet (q_move rfl) (TO.quiet (q_len Tryd.underlying64 rfl) ?_))
  by_cases hn65 : n < 65
  · refine TO.quiet (QT.toB (QT.cast (q_lss rfl rfl) (v' := .bool (decide (n < 65))) (congrArg Value.bool (decide_eq_decide.2 (by omega)))) (decide_eq_true hn65)) ?_
    refine TO.quiet (q_move rfl) ?_
    refine TO.guarded rfl rfl rfl (LT.of_quiet rfl rfl (q_load_box 0 Tryd.underlying33 rfl rfl rfl rfl) ?_)
    refine TO.guarded rfl rfl rfl (LT.of_quiet rfl rfl (q_len Tryd.underlying33 rfl) ?_)
    refine TO.guarded rfl rfl rfl (LT.of_quiet rfl rfl (q_load_box 3 Tryd.underlying3 rfl rfl rfl rfl) ?_)
    refine TO.guarded rfl rfl rfl (LT.of_quiet rfl rfl (q_lss rfl rfl) ?_)
    refine TO.quiet (q_pick1 rfl rfl) ?_
    refine TO.nil ?_
    refine T.condP rfl (fun hc => ?_) (fun hc => ?_)
    · have hlt32 : ws.length < m := by omega
      have hlm : ws.length < m := by omega
      refine T.skip (T.seq (T.block (T.seq (T.region ?_))))
      refine TO.quiet (q_load_boxAgg 4 Tryd.underlying25 rfl inf25 rfl rfl rfl) (TO.quiet (q_move rfl) (TO.quiet (q_fieldAddr Tryd.underlying25 rfl inf3 rfl rfl) (TO.quiet (QT.cast (q_load_box 4 Tryd.underlying3 rfl rfl rfl rfl) (v' := (.int .i64 ((a.start.toNat : Nat) : Int))) (congrArg (Value.int .i64) hss)) ?_)))
      refine TO.quiet (q_move rfl) ?_
      have hk40 := fun (w1 : World) (hI : Inv w ([oI z3 33 [(.slice lb ws.length lc)], rowI lb lc 29 1 (wvals ws), tabI 62 26 a tb us, oI z2 3 [(.int .i64 ((m : Nat) : Int))], oI z1 25 (dC a k)] ++ (witms 5 ws)) w1) => (haveI := Inv.tab (P := Tryd.prog) hI; wordsMk w1 a k tb none a.start.toNat n 0 0)
      refine TO.loud rfl (l_call ent43 (CallT.of_pure hk40) rfl ?_)
      clear hk40
      rintro vr O' ⟨N, rfl, xb, nb, sb, ub, db, rfl, rfl⟩
      refine TO.nil (T.block ?_)
      refine T.nilRow 5 1 ?_
      refine T.sub (O' := ([oI xb 29 [(.slice none 0 0)], oI nb 3 [(.int .i64 ((n : Nat) : Int))], oI sb 3 [(.int .i64 ((a.start.toNat : Nat) : Int))], oI ub 64 [(.slice tb 65 65)], oI db 25 (dC a k), rowI none 0 5 1 (byts []), tabI 62 26 a tb us, oI z3 33 [(.slice lb ws.length lc)], rowI lb lc 29 1 (wvals ws), oI z2 3 [(.int .i64 ((m : Nat) : Int))], oI z1 25 (dC a k)] ++ witms 5 ws)) (by exact Sub.pull [rowI none 0 5 1 []] _ (.pull [rowI none 0 5 1 []] _ (.pull [rowI none 0 5 1 []] _ (.pull [rowI none 0 5 1 []] _ (.pull [rowI none 0 5 1 []] _ (.k (.pull [oI z3 33 [(.slice lb ws.length lc)], rowI lb lc 29 1 (wvals ws)] _ (.k (.k (.k (.k .rf))))))))))) ?_
      refine T.rangeFunc (first := []) (caps := [(.pointer (some ⟨nb, 0, none⟩)), (.pointer (some ⟨db, 0, none⟩)), (.pointer (some ⟨sb, 0, none⟩)), (.pointer (some ⟨xb, 0, none⟩)), (.pointer (some ⟨ub, 0, none⟩))]) rfl ent62 (fun yl yq yhq => ?_)
      refine CallT.mono (CallT.sub (O' := oI xb 29 [(.slice none 0 0)] :: oI nb 3 [(.int .i64 ((n : Nat) : Int))] :: oI sb 3 [(.int .i64 ((a.start.toNat : Nat) : Int))] :: oI ub 64 [(.slice tb 65 65)] :: oI db 25 (dC a k) :: rowI none 0 5 1 (byts []) :: tabI 62 26 a tb us :: (objI yl (lp yq none) :: ([oI z3 33 [(.slice lb ws.length lc)], rowI lb lc 29 1 (wvals ws), oI z2 3 [(.int .i64 ((m : Nat) : Int))], oI z1 25 (dC a k)] ++ (witms 5 ws)))) (Sub.pickR [1, 1, 1, 1, 1, 1, 1, 0, 0, 0, 0, 0] [objI yl (lp yq none), oI xb 29 [(.slice none 0 0)], oI nb 3 [(.int .i64 ((n : Nat) : Int))], oI sb 3 [(.int .i64 ((a.start.toNat : Nat) : Int))], oI ub 64 [(.slice tb 65 65)], oI db 25 (dC a k), rowI none 0 5 1 (byts []), tabI 62 26 a tb us, oI z3 33 [(.slice lb ws.length lc)], rowI lb lc 29 1 (wvals ws), oI z2 3 [(.int .i64 ((m : Nat) : Int))], oI z1 25 (dC a k)] (witms 5 ws) rfl rfl) (wordsF w a k ha hv tb us hT n a.start.toNat [] 0 rfl (byts []) rfl xb nb sb ub db none 0 (.func (.yield yl) #[] #[]) rfl (fun i9 O => ∃ (ws : List WRec) (lb : Option Addr) (lc : Nat), O = objI yl (lp yq none) :: ([oI z3 33 [(.slice lb ws.length lc)], rowI lb lc 29 1 (wvals ws), oI z2 3 [(.int .i64 ((m : Nat) : Int))], oI z1 25 (dC a k)] ++ (witms 5 ws)) ∧ WdsI a m n i9 (wnums ws)) (fun O => ∃ (ws : List WRec) (lb : Option Addr) (lc : Nat) (i9 : Nat) (W : Lx.Item), O = objI yl (lp yq (some (.exit 2))) :: ([oI z3 33 [(.slice lb ws.length lc)], rowI lb lc 29 1 (wvals ws), oI z2 3 [(.int .i64 ((m : Nat) : Int))], oI z1 25 (dC a k)] ++ (witms 5 ws ++ [W])) ∧ WdsI a m n i9 (wnums ws) ∧ ws.length = m) (by simp; omega) hsl ?_ _ ?_)) ?_
      · intro i u rb rc O hu hJ
        obtain ⟨ws, lb, lc, rfl, hWI⟩ := hJ
        refine CallV.yield yhq rfl rfl ?_
        have hwl9 : (wnums ws).length = ws.length := by simp
        have hwlm : ws.length ≤ m := by
          have h9 := congrArg List.length hWI.eq
          rw [List.length_take, hwl9] at h9; omega
        refine T.region ?_
        refine TO.quiet (q_assign rfl) ?_
        refine TO.nil (T.block (T.seq (T.seq (T.region ?_))))
        refine TO.quiet (q_load_box 0 Tryd.underlying33 rfl rfl rfl rfl) (TO.quiet (q_len Tryd.underlying33 rfl) (TO.quiet (q_load_box 2 Tryd.underlying3 rfl rfl rfl rfl) (TO.quiet (q_eql rfl rfl) ?_)))
        refine TO.nil ?_
        refine T.condP rfl (fun hc => ?_) (fun hc => ?_)
        · have hlt45 : ws.length = m := by omega
          have hfull : ws.length = m := by omega
          refine T.exit ?_
          exact .inr ⟨rfl, ws, lb, lc, i, _, rfl, hWI, hfull⟩
        have hge45 : ¬ ws.length = m := by omega
        have hfull : ws.length ≠ m := by omega
        refine T.skip (T.region ?_)
        refine TO.quiet (q_load_box 0 Tryd.underlying33 rfl rfl rfl rfl) (TO.quiet (q_move rfl) ?_)
        refine TO.loud rfl (l_build1 (v := (.slice rb u.length rc)) Tryd.underlying33 inf29 rfl rfl rfl (fun z4 => ?_))
        refine TO.loud rfl (l_append 2 Tryd.underlying33 Tryd.underlying33 inf29 rfl rfl rfl rfl (by rw [List.length_map, Nat.mul_one]) (by decide) (Src.row (j := 0) rfl (by simp)) (by simp [oneB]) (by omega) (by decide) (by decide) (fun z5 zc6 => ?_))
        refine TO.loud rfl (l_store_box (v := (.slice z5 (ws.length + 1) zc6)) (vs := [(.slice z5 (ws.length + 1) zc6)]) 1 inf33 rfl rfl rfl rfl rfl rfl (by simp [putL]) ?_)
        refine TO.sub (O' := ([oI z3 33 [(.slice z5 (ws.length + 1) zc6)], rowI z5 zc6 29 1 ((wvals ws) ++ [(.slice rb u.length rc)]), oI z2 3 [(.int .i64 ((m : Nat) : Int))], oI z1 25 (dC a k)] ++ witms 5 (ws ++ [⟨rb, rc, u⟩]))) (by rw [witms_snoc]; exact Sub.d (.k (.k (.k (.k .rf))))) ?_
        refine TO.nil ?_
        exact .inl ⟨rfl, ws ++ [⟨rb, rc, u⟩], z5, zc6, by simp only [List.length_append, List.length_cons, List.length_nil, Nat.zero_add, List.map_append, List.map_cons, List.map_nil]; rfl, by show WdsI _ _ _ _ (List.map WRec.xs (ws ++ [_])); rw [List.map_append]; exact hWI.put hu (by rw [hwl9]; exact hfull)⟩
      · exact ⟨ws, lb, lc, rfl, WdsI.zero hws⟩
      rintro v O' (⟨O9, rfl, ws9, lb9, lc9, rfl, hW9⟩ | ⟨O9, rfl, ws9, lb9, lc9, i9, W9, rfl, hW9, hfu⟩)
      · refine ⟨none, _, rfl, ?_⟩
        have hws9 : wnums ws9 = (allW a (n + 1)).take m := hW9.done
        refine T.sub (O' := ([oI z3 33 [(.slice lb9 ws9.length lc9)], rowI lb9 lc9 29 1 (wvals ws9), oI z2 3 [(.int .i64 ((m : Nat) : Int))], oI z1 25 (dC a k)] ++ (witms 5 ws9 ++ [tabI 62 26 a tb us]))) (by exact Sub.rf) ?_
        refine T.sub (O' := ([oI z3 33 [(.slice lb9 ws9.length lc9)], rowI lb9 lc9 29 1 (wvals ws9), tabI 62 26 a tb us, oI z2 3 [(.int .i64 ((m : Nat) : Int))], oI z1 25 (dC a k)] ++ witms 5 ws9)) (Sub.cnt [] (by intro a; simp only [itms, oI, List.set_cons_zero, List.set_cons_succ, putL, List.cons_append, List.nil_append, List.append_nil, List.append_assoc, List.map_append, List.map_cons, List.map_nil, cnt_append, cnt_cons, cnt_nil] <;> omega)) ?_
        refine T.region ?_
        refine TO.quiet (q_move rfl) (TO.quiet (q_addN (a := n) (b := 1) rfl rfl (by omega)) (TO.quiet (q_assign rfl) ?_))
        refine TO.nil ?_
        exact ⟨n + 1, by omega, ws9, lb9, lc9, rfl, by omega, hws9, ⟨rfl, rfl, rfl, rfl, rfl, rfl, rfl, rfl, rfl, trivial⟩⟩
      refine ⟨some (.exit 2), _, rfl, ?_⟩
      have hws9 : wnums ws9 = (allW a (n + 1)).take m := hW9.full (by rw [List.length_map]; exact hfu)
      refine T.sub (O' := ([oI z3 33 [(.slice lb9 ws9.length lc9)], rowI lb9 lc9 29 1 (wvals ws9), oI z2 3 [(.int .i64 ((m : Nat) : Int))], oI z1 25 (dC a k)] ++ ((witms 5 ws9 ++ [W9]) ++ [tabI 62 26 a tb us]))) (by exact Sub.rf) ?_
      refine T.sub (O' := ([oI z3 33 [(.slice lb9 ws9.length lc9)], rowI lb9 lc9 29 1 (wvals ws9), tabI 62 26 a tb us, oI z2 3 [(.int .i64 ((m : Nat) : Int))], oI z1 25 (dC a k)] ++ witms 5 ws9)) (Sub.cnt [W9] (by intro a; simp only [itms, oI, List.set_cons_zero, List.set_cons_succ, putL, List.cons_append, List.nil_append, List.append_nil, List.append_assoc, List.map_append, List.map_cons, List.map_nil, cnt_append, cnt_cons, cnt_nil] <;> omega)) ?_
      refine T.region ?_
      refine TO.quiet (q_move rfl) (TO.quiet (q_addN (a := n) (b := 1) rfl rfl (by omega)) (TO.quiet (q_assign rfl) ?_))
      refine TO.nil ?_
      exact ⟨n + 1, by omega, ws9, lb9, lc9, rfl, by omega, hws9, ⟨rfl, rfl, rfl, rfl, rfl, rfl, rfl, rfl, rfl, trivial⟩⟩
    have hge32 : ¬ ws.length < m := by omega
    have hlm : ¬ ws.length < m := by omega
    refine T.exit ?_
    refine T.seq (T.region ?_)
    refine TO.quiet (q_load_box 0 Tryd.underlying33 rfl rfl rfl rfl) ?_
    refine TO.loud rfl (l_store_box (v := (.slice lb ws.length lc)) (vs := [(.slice lb ws.length lc)]) 0 inf33 rfl rfl rfl rfl rfl rfl (by simp [putL]) ?_)
    refine TO.quiet (q_assign rfl) ?_
    refine TO.nil (T.ret (Res.drop ?_))
    refine Res.cell1t (i := 0) (.int .i64 0) Tryd.results15 Tryd.underlying33 rfl rfl rfl rfl ?_
    have hfi := wds_end hn hws (by rw [List.length_map]; omega)
    exact ⟨([rowI lb lc 29 1 (wvals ws)] ++ witms 5 ws), (by exact Sub.d (.k (.d (.d (.d .rf))))), ws, lb, lc, hfi, rfl, rfl⟩
  refine TO.quiet (QT.toB (QT.cast (q_lss rfl rfl) (v' := .bool (decide (n < 65))) (congrArg Value.bool (decide_eq_decide.2 (by omega)))) (decide_eq_false hn65)) (TO.quiet (q_move rfl) ?_)
  refine TO.passed rfl rfl ?_
  refine TO.passed rfl rfl ?_
  refine TO.passed rfl rfl ?_
  refine TO.passed rfl rfl ?_
  refine TO.quiet (q_pick0 rfl rfl) ?_
  refine TO.nil ?_
  refine T.cond0 rfl ?_
  refine T.exit ?_
  refine T.seq (T.region ?_)
  refine TO.quiet (q_load_box 0 Tryd.underlying33 rfl rfl rfl rfl) ?_
  refine TO.loud rfl (l_store_box (v := (.slice lb ws.length lc)) (vs := [(.slice lb ws.length lc)]) 0 inf33 rfl rfl rfl rfl rfl rfl (by simp [putL]) ?_)
  refine TO.quiet (q_assign rfl) ?_
  refine TO.nil (T.ret (Res.drop ?_))
  refine Res.cell1t (i := 0) (.int .i64 0) Tryd.results15 Tryd.underlying33 rfl rfl rfl rfl ?_
  have hfi := wds_end hn hws (by rw [List.length_map]; omega)
  exact ⟨([rowI lb lc 29 1 (wvals ws)] ++ witms 5 ws), (by exact Sub.d (.k (.d (.d (.d .rf))))), ws, lb, lc, hfi, rfl, rfl⟩
theorem wdsC (w : World) [Tab Tryd.prog w] (a : DFA) (k : DK) (ha : At w a k) (haa : a.next.length < 9223372036854775807) (haar : ∀ r ∈ a.next, r.length < 9223372036854775807) (haaf : a.final.length < 9223372036854775807) (m : Int) :
    PureT Tryd.prog 15 [dV a k, .int .i64 m] w fun v N => ∃ ws lb lc, wnums ws = wdsV a m ∧ v = .tuple #[.slice lb ws.length lc, .int .i64 ((wdsE a m : Nat) : Int)] ∧ N = [wlI 29 5 lb lc ws] := by
  have nil : ∀ {e : Nat}, PureT Tryd.prog 15 [dV a k, .int .i64 m] w (fun v N => v = .tuple #[.slice none 0 0, .int .i64 (e : Int)] ∧ N = []) → PureT Tryd.prog 15 [dV a k, .int .i64 m] w (fun v N => ∃ ws lb lc, wnums ws = [] ∧ v = .tuple #[.slice lb ws.length lc, .int .i64 (e : Int)] ∧ N = [wlI 29 5 lb lc ws]) := fun h => by
    refine CallT.packR (CallT.nilOr 29 1 h) ?_
    rintro v N ⟨O2, hN, h1, h2⟩
    exact ⟨True, _, [], trivial, (hN.2 h2).trans (List.append_nil _).symm, [], none, 0, rfl, h1, rfl⟩
  unfold wdsV wdsE
  by_cases he : checkD a ≠ 0
  · rw [if_pos he, if_neg he]
    exact nil (wdsBad w a k ha haa haar haaf he m)
  · have hv : Valid a := checkD_zero.1 (by omega)
    rw [if_neg he]
    by_cases hn : m < 0 ∨ 256 < m
    · rw [if_pos hn, if_neg (by decide)]
      rcases hn with h | h
      · exact nil (e := 1) (wdsLo w a k ha hv m h)
      · exact nil (e := 1) (wdsHi w a k ha hv m h)
    · rw [if_neg hn, if_pos rfl]
      obtain ⟨n, rfl⟩ : ∃ n : Nat, m = (n : Int) := ⟨m.toNat, by omega⟩
      refine CallT.packR (wdsN w a k ha hv n (by omega)) ?_
      rintro v N ⟨ws, lb, lc, h1, h2, rfl⟩
      exact ⟨True, _, [], trivial, (List.append_nil _).symm, ws, lb, lc, h1, h2, rfl⟩
end Go.Proofs.YtnmfefmhfkhihaaDoor


namespace Go.Lx
open Go.RowKit
set_option linter.unusedVariables false
theorem bq_diag {d : DFA} (hv : Val d) {s : Nat} : ∀ i, (∀ j, j < i → j < (bq d s s j).length) → BfsI d s s i (bq d s s i)
  | 0, _ => BfsI.zero d s s
  | i + 1, h => (bq_diag hv i fun j hj => h j (by omega)).step hv (List.getElem?_eq_getElem (h i (by omega)))
theorem BfsI.diag {d : DFA} {s i : Nat} {A : List Stp} (h : BfsI d s s i A) {q : Stp} (hq : q ∈ A) : q.1 = (q.1.1, q.1.1) := by rw [(h.run q hq).2]
abbrev shq (d : DFA) (i : Nat) : List Stp := bq d d.start.toNat d.start.toNat i
def ShR (d : DFA) (res : Option (List Nat)) : Prop :=
  ∃ i, (∀ j, j < i → ∃ q, (shq d j)[j]? = some q ∧ finN d q.1.1 = false) ∧
    match res with
    | some w => ∃ q, (shq d i)[i]? = some q ∧ finN d q.1.1 = true ∧ q.2 = w
    | none => (shq d i).length ≤ i
theorem shq_inv {d : DFA} (hv : Val d) {i : Nat} (h : ∀ j, j < i → ∃ q, (shq d j)[j]? = some q ∧ finN d q.1.1 = false) : BfsI d d.start.toNat d.start.toNat i (shq d i) :=
  bq_diag hv i fun j hj => by obtain ⟨q, hq, _⟩ := h j hj; exact (List.getElem?_eq_some_iff.1 hq).1
theorem ShR.least {d : DFA} (hv : Val d) {res : Option (List Nat)} (h : ShR d res) : LeastA d res := by
  obtain ⟨i, hj, hr⟩ := h
  have hI := shq_inv hv hj
  have hsame : ∀ j q, j < i → (shq d i)[j]? = some q → finN d q.1.1 = false := fun j q hji hq => by
    obtain ⟨q', h1, h2⟩ := hj j hji
    have := bq_get (i := i) h1 (by omega)
    rw [hq] at this; cases this; exact h2
  have key : ∀ u, Wd d u → (∃ q ∈ shq d i, q.1 = (runN d d.start.toNat u, runN d d.start.toNat u) ∧ code q.2 ≤ code u) ∨ ∃ q, (shq d i)[i]? = some q ∧ code q.2 ≤ code u := by
    refine snocInd ?_ ?_
    · intro _
      obtain ⟨q, h1, h2, h3⟩ := hI.first
      exact .inl ⟨q, List.mem_of_getElem? h1, h2, by rw [h3]; exact Nat.le_refl _⟩
    · intro u x ih hw
      rw [code_snoc]
      rcases ih (fun z hz => hw z (by simp [hz])) with ⟨q, h1, h2, h3⟩ | ⟨q, h1, h3⟩
      · obtain ⟨j, hjq⟩ := List.getElem?_of_mem h1
        by_cases hji : j < i
        · obtain ⟨q', g1, g2, g3⟩ := hI.suc j q hji hjq x (hw x (by simp))
          refine .inl ⟨q', g1, ?_, by omega⟩
          rw [g2, runN_snoc, h2]; rfl
        · by_cases e : j = i
          · subst e; exact .inr ⟨q, hjq, by omega⟩
          · have hil : i < (shq d i).length := by have := (List.getElem?_eq_some_iff.1 hjq).1; omega
            have := hI.mono i j _ q (by omega) (List.getElem?_eq_getElem hil) hjq
            exact .inr ⟨_, List.getElem?_eq_getElem hil, by omega⟩
      · exact .inr ⟨q, h1, by omega⟩
  cases res with
  | some w =>
    obtain ⟨q, hq, hf, rfl⟩ := hr
    obtain ⟨h1, h2⟩ := hI.run q (List.mem_of_getElem? hq)
    refine ⟨h1, ?_, ?_⟩
    · unfold acc; rw [h2] at hf; exact hf
    · intro u hu hd
      rcases key u hu with ⟨p, g1, g2, g3⟩ | ⟨p, g1, g3⟩
      · obtain ⟨j, hjp⟩ := List.getElem?_of_mem g1
        by_cases hji : j < i
        · have := hsame j p hji hjp
          rw [g2] at this
          have hd' : finN d (runN d d.start.toNat u) = true := hd
          rw [hd'] at this; cases this
        · by_cases e : j = i
          · subst e; rw [hq] at hjp; cases hjp; exact g3
          · have := hI.mono i j q p (by omega) hq hjp
            omega
      · rw [hq] at g1; cases g1; exact g3
  | none =>
    intro u hu
    have hlen : (shq d i).length ≤ i := hr
    rcases key u hu with ⟨p, g1, g2, g3⟩ | ⟨p, g1, g3⟩
    · obtain ⟨j, hjp⟩ := List.getElem?_of_mem g1
      have hji := (List.getElem?_eq_some_iff.1 hjp).1
      have := hsame j p (by omega) hjp
      rw [g2] at this; exact this
    · have := (List.getElem?_eq_some_iff.1 g1).1; omega
theorem BfsI.states {d : DFA} (hv : Val d) {s i : Nat} (hs : s < d.next.length) {A : List Stp} (h : BfsI d s s i A) : (A.map (·.1.1)).Nodup ∧ ∀ q ∈ A, q.1.1 < d.next.length := by
  refine ⟨?_, fun q hq => ?_⟩
  · have hn := h.nd
    rw [List.nodup_iff_pairwise_ne, List.pairwise_map] at hn ⊢
    exact hn.imp_of_mem fun ha hb hne e => hne (by rw [h.diag ha, h.diag hb, e])
  · obtain ⟨h1, h2⟩ := h.run q hq
    rw [h2]; exact runN_lt hv hs q.2 h1
theorem BfsI.size {d : DFA} (hv : Val d) {s i : Nat} (hs : s < d.next.length) {A : List Stp} (h : BfsI d s s i A) : A.length ≤ d.next.length := by
  obtain ⟨h1, h2⟩ := h.states hv hs
  have := nodup_bound (n := d.next.length) h1 fun x hx => by
    obtain ⟨q, hq, rfl⟩ := List.mem_map.1 hx
    exact h2 q hq
  simpa using this
def Ds (d : DFA) (s k : Nat) : Prop := (∃ u, Wd d u ∧ u.length = k ∧ finN d (runN d s u) = true) ∧ ∀ u, Wd d u → finN d (runN d s u) = true → k ≤ u.length
theorem Ds.unique {d : DFA} {s k m : Nat} (h : Ds d s k) (h2 : Ds d s m) : k = m := by
  obtain ⟨u, hu, e, hf⟩ := h.1
  obtain ⟨x, hx, e2, hf2⟩ := h2.1
  have a := h.2 x hx hf2
  have b := h2.2 u hu hf
  omega
theorem Ds.some {d : DFA} {s : Nat} : ∀ (m : Nat) (u : List Nat), Wd d u → finN d (runN d s u) = true → u.length ≤ m → ∃ k, k ≤ u.length ∧ Ds d s k
  | 0, u, hu, hf, h0 => ⟨0, by omega, ⟨u, hu, by omega, hf⟩, fun _ _ _ => Nat.zero_le _⟩
  | m + 1, u, hu, hf, hl => by
    by_cases h : ∃ x, Wd d x ∧ finN d (runN d s x) = true ∧ x.length < u.length
    · obtain ⟨x, hx, hxf, hxl⟩ := h
      obtain ⟨k, hk, hD⟩ := Ds.some m x hx hxf (by omega)
      exact ⟨k, by omega, hD⟩
    · exact ⟨u.length, Nat.le_refl _, ⟨u, hu, rfl, hf⟩, fun x hx hxf => by
        refine Classical.byContradiction fun hlt => h ⟨x, hx, hxf, by omega⟩⟩
theorem runN_cons (d : DFA) (s x : Nat) (u : List Nat) : runN d s (x :: u) = runN d (toN d s x) u := rfl
theorem Wd.cons {d : DFA} {x : Nat} {u : List Nat} : Wd d (x :: u) ↔ x < letN d ∧ Wd d u := by unfold Wd; simp
theorem Ds.down {d : DFA} {s k : Nat} (h : Ds d s (k + 1)) : ∃ x, x < letN d ∧ Ds d (toN d s x) k := by
  obtain ⟨u, hu, e, hf⟩ := h.1
  cases u with
  | nil => simp at e
  | cons x u =>
    obtain ⟨hx, hu⟩ := Wd.cons.1 hu
    refine ⟨x, hx, ⟨u, hu, by simpa using e, hf⟩, fun y hy hyf => ?_⟩
    have := h.2 (x :: y) (Wd.cons.2 ⟨hx, hy⟩) hyf
    simpa using this
theorem Ds.up {d : DFA} {s k x : Nat} (hx : x < letN d) (h : Ds d (toN d s x) k) (hn : ∀ m, m ≤ k → ¬ Ds d s m) : Ds d s (k + 1) := by
  obtain ⟨u, hu, e, hf⟩ := h.1
  refine ⟨⟨x :: u, Wd.cons.2 ⟨hx, hu⟩, by simp [e], hf⟩, fun y hy hyf => ?_⟩
  obtain ⟨m, hm, hD⟩ := Ds.some y.length y hy hyf (Nat.le_refl _)
  refine Classical.byContradiction fun hlt => hn m (by omega) hD
theorem Ds.lt {d : DFA} (hv : Val d) {s k : Nat} (hs : s < d.next.length) (h : Ds d s k) : k < d.next.length := by
  obtain ⟨u, hu, e, hf⟩ := h.1
  have htk : ∀ i, Wd d (u.take i) := fun i x hx => hu x (List.mem_of_mem_take hx)
  have hinj : ∀ i j, i < j → j ≤ k → runN d s (u.take i) ≠ runN d s (u.take j) := fun i j hij hjk hr => by
    have h1 : runN d s (u.take i ++ u.drop j) = runN d s u := by
      rw [runN_append, hr, ← runN_append, List.take_append_drop]
    have := h.2 (u.take i ++ u.drop j) (fun x hx => (List.mem_append.1 hx).elim (htk i x) fun h => hu x (List.mem_of_mem_drop h)) (by rw [h1]; exact hf)
    rw [List.length_append, List.length_take, List.length_drop] at this
    omega
  have hn : ((List.range (k + 1)).map fun i => runN d s (u.take i)).Nodup := map_nodup List.nodup_range fun a ha b hb e => by
    rw [List.mem_range] at ha hb
    rcases Nat.lt_trichotomy a b with h1 | h1 | h1
    · exact absurd e (hinj a b h1 (by omega))
    · exact h1
    · exact absurd e.symm (hinj b a h1 (by omega))
  have := nodup_bound (n := d.next.length) hn fun x hx => by
    obtain ⟨i, _, rfl⟩ := List.mem_map.1 hx
    exact runN_lt hv hs _ (htk i)
  simp at this; omega
structure GI (d : DFA) (K : Nat) (w : List Nat) (s : Nat) : Prop where
  wd : Wd d w
  run : runN d d.start.toNat w = s
  len : w.length ≤ K
  dist : Ds d s (K - w.length)
  le : ∀ u, Wd d u → acc d u = true → u.length = K → code w ≤ code (u.take w.length)
theorem GI.zero {d : DFA} {K : Nat} (h : Ds d d.start.toNat K) : GI d K [] d.start.toNat := ⟨fun x hx => (by cases hx), rfl, Nat.zero_le _, by simpa using h, fun u _ _ _ => by simp [code]⟩
theorem GI.step {d : DFA} (hv : Val d) {K : Nat} {w : List Nat} {s x : Nat} (h : GI d K w s) (hl : w.length < K) (hx : x < letN d) (hD : Ds d (toN d s x) (K - w.length - 1)) (hmin : ∀ y, y < x → ¬ Ds d (toN d s y) (K - w.length - 1)) : GI d K (w ++ [x]) (toN d s x) := by
  have hwx : Wd d (w ++ [x]) := fun y hy => (List.mem_append.1 hy).elim (h.wd y) fun hy => by rw [List.mem_singleton.1 hy]; exact hx
  refine ⟨hwx, by rw [runN_snoc, h.run], by simp; omega, by simpa [Nat.sub_sub] using hD, fun u hu ha hul => ?_⟩
  have hlu : w.length < u.length := by omega
  rw [List.length_append, List.length_singleton, List.take_succ_eq_append_getElem hlu, code_snoc, code_snoc]
  have h1 := h.le u hu ha hul
  have hy := hu _ (List.getElem_mem hlu)
  have hx64 : x < 64 := by have := hv.width; unfold letN at hx; omega
  by_cases e : code w = code (u.take w.length)
  · have htk : Wd d (u.take w.length) := fun x hx => hu x (List.mem_of_mem_take hx)
    have ew := code_inj w (u.take w.length) (hv.wd64 h.wd) (hv.wd64 htk) e
    have hge : x ≤ u[w.length] := by
      refine Classical.byContradiction fun hlt => hmin u[w.length] (by omega) ?_
      have hdr : u = (u.take w.length ++ [u[w.length]]) ++ u.drop (w.length + 1) := by
        rw [← List.take_succ_eq_append_getElem hlu, List.take_append_drop]
      have hrun : runN d d.start.toNat u = runN d (toN d s u[w.length]) (u.drop (w.length + 1)) := by
        conv => lhs; rw [hdr]
        rw [runN_append, runN_snoc, ← ew, h.run]
      have hwdr : Wd d (u.drop (w.length + 1)) := fun x hx => hu x (List.mem_of_mem_drop hx)
      have hf : finN d (runN d (toN d s u[w.length]) (u.drop (w.length + 1))) = true := by rw [← hrun]; exact ha
      refine ⟨⟨u.drop (w.length + 1), hwdr, by rw [List.length_drop]; omega, hf⟩, fun y' hy' hyf => ?_⟩
      have := h.dist.2 (u[w.length] :: y') (Wd.cons.2 ⟨hy, hy'⟩) hyf
      simp at this; omega
    omega
  · omega
theorem GI.least {d : DFA} (hv : Val d) {w : List Nat} {s : Nat} (h : GI d w.length w s) (hK : Ds d d.start.toNat w.length) : LeastA d (some w) := by
  have h0 := h.dist
  rw [Nat.sub_self] at h0
  obtain ⟨u, _, e, hf⟩ := h0.1
  have : u = [] := List.eq_nil_of_length_eq_zero e
  subst this
  have hacc : acc d w = true := by unfold acc; rw [h.run]; exact hf
  refine ⟨h.wd, hacc, fun u hu ha => ?_⟩
  have hl := hK.2 u hu ha
  by_cases e : u.length = w.length
  · have := h.le u hu ha e
    rwa [List.take_of_length_le (by omega)] at this
  · refine Classical.byContradiction fun hlt => ?_
    have := code_len u w (hv.wd64 hu) (hv.wd64 h.wd) (by omega)
    omega
theorem GI.next {d : DFA} {K : Nat} {w : List Nat} {s : Nat} (h : GI d K w s) (hl : w.length < K) : ∃ x, x < letN d ∧ Ds d (toN d s x) (K - w.length - 1) := by
  have := h.dist
  rw [show K - w.length = (K - w.length - 1) + 1 by omega] at this
  exact this.down
end Go.Lx


namespace Go.Lx
set_option linter.unusedVariables false
def Liv (d : DFA) (s : Nat) : Prop := ∃ u, Wd d u ∧ finN d (runN d s u) = true
def Cyc (d : DFA) (s : Nat) : Prop := ∃ v, v ≠ [] ∧ Wd d v ∧ runN d s v = s
def InfC (d : DFA) (s : Nat) : Prop := ∃ u t, Wd d u ∧ runN d s u = t ∧ Liv d t ∧ Cyc d t
theorem Wd.app {d : DFA} {u v : List Nat} (hu : Wd d u) (hv : Wd d v) : Wd d (u ++ v) := fun x hx => (List.mem_append.1 hx).elim (hu x) (hv x)
theorem Wd.tk {d : DFA} {u : List Nat} (h : Wd d u) (i : Nat) : Wd d (u.take i) := fun x hx => h x (List.mem_of_mem_take hx)
theorem Wd.dp {d : DFA} {u : List Nat} (h : Wd d u) (i : Nat) : Wd d (u.drop i) := fun x hx => h x (List.mem_of_mem_drop hx)
theorem Wd.nil {d : DFA} : Wd d [] := fun x hx => by cases hx
theorem pigeon {d : DFA} (hv : Val d) {s : Nat} (hs : s < d.next.length) {u : List Nat} (hu : Wd d u) (hl : d.next.length ≤ u.length) : ∃ i j, i < j ∧ j ≤ d.next.length ∧ runN d s (u.take i) = runN d s (u.take j) := by
  apply Classical.byContradiction
  intro hno
  have hn : ((List.range (d.next.length + 1)).map fun i => runN d s (u.take i)).Nodup := map_nodup List.nodup_range fun a ha b hb e => by
    rw [List.mem_range] at ha hb
    rcases Nat.lt_trichotomy a b with h1 | h1 | h1
    · exact absurd ⟨a, b, h1, by omega, e⟩ hno
    · exact h1
    · exact absurd ⟨b, a, h1, by omega, e.symm⟩ hno
  have := nodup_bound (n := d.next.length) hn fun x hx => by
    obtain ⟨i, _, rfl⟩ := List.mem_map.1 hx
    exact runN_lt hv hs _ (hu.tk i)
  simp at this; omega
theorem long_cyc {d : DFA} (hv : Val d) {s : Nat} (hs : s < d.next.length) {u : List Nat} (hu : Wd d u) (hf : finN d (runN d s u) = true) (hl : d.next.length ≤ u.length) : InfC d s := by
  obtain ⟨i, j, hij, hj, e⟩ := pigeon hv hs hu hl
  refine ⟨u.take i, _, hu.tk i, rfl, ⟨u.drop i, hu.dp i, ?_⟩, (u.take j).drop i, ?_, (hu.tk j).dp i, ?_⟩
  · rw [← runN_append, List.take_append_drop]; exact hf
  · intro h
    have := congrArg List.length h
    rw [List.length_drop, List.length_take] at this
    simp at this; omega
  · rw [← runN_append]
    have : u.take i ++ (u.take j).drop i = u.take j := by
      have h2 : u.take i = (u.take j).take i := by rw [List.take_take, Nat.min_eq_left (by omega)]
      rw [h2, List.take_append_drop]
    rw [this]; exact e.symm
theorem cyc_pow {d : DFA} {t : Nat} {v : List Nat} (hw : Wd d v) (hr : runN d t v = t) (hv : v ≠ []) : ∀ k, ∃ z, Wd d z ∧ runN d t z = t ∧ k ≤ z.length
  | 0 => ⟨[], Wd.nil, rfl, Nat.zero_le _⟩
  | k + 1 => by
    obtain ⟨z, h1, h2, h3⟩ := cyc_pow hw hr hv k
    refine ⟨v ++ z, hw.app h1, by rw [runN_append, hr, h2], ?_⟩
    have := List.length_pos_iff.2 hv
    rw [List.length_append]; omega
theorem cyc_long {d : DFA} {s : Nat} (h : InfC d s) (k : Nat) : ∃ u, Wd d u ∧ finN d (runN d s u) = true ∧ k ≤ u.length := by
  obtain ⟨u, t, h1, rfl, ⟨q, h2, h3⟩, v, h4, h5, h6⟩ := h
  obtain ⟨z, z1, z2, z3⟩ := cyc_pow h5 h6 h4 k
  refine ⟨u ++ (z ++ q), h1.app (z1.app h2), by rw [runN_append, runN_append, z2]; exact h3, ?_⟩
  rw [List.length_append, List.length_append]; omega
theorem cyc_mid {d : DFA} (hv : Val d) {s : Nat} (hs : s < d.next.length) : ∀ (m : Nat) (u : List Nat), u.length ≤ m → Wd d u → finN d (runN d s u) = true → d.next.length ≤ u.length → ∃ z, Wd d z ∧ finN d (runN d s z) = true ∧ d.next.length ≤ z.length ∧ z.length < 2 * d.next.length
  | 0, u, hm, hu, hf, hl => by omega
  | m + 1, u, hm, hu, hf, hl => by
    by_cases h2 : u.length < 2 * d.next.length
    · exact ⟨u, hu, hf, hl, h2⟩
    · obtain ⟨i, j, hij, hj, e⟩ := pigeon hv hs hu hl
      have hlen : (u.take i ++ u.drop j).length = i + (u.length - j) := by
        rw [List.length_append, List.length_take, List.length_drop]; omega
      refine cyc_mid hv hs m (u.take i ++ u.drop j) (by omega) ((hu.tk i).app (hu.dp j)) ?_ (by omega)
      rw [runN_append, e, ← runN_append, List.take_append_drop]; exact hf
theorem inf_iff {d : DFA} (hv : Val d) {s : Nat} (hs : s < d.next.length) : InfC d s ↔ ∃ z, Wd d z ∧ finN d (runN d s z) = true ∧ d.next.length ≤ z.length ∧ z.length < 2 * d.next.length := by
  constructor
  · intro h
    obtain ⟨u, h1, h2, h3⟩ := cyc_long h d.next.length
    exact cyc_mid hv hs u.length u (Nat.le_refl _) h1 h2 h3
  · rintro ⟨z, h1, h2, h3, _⟩
    exact long_cyc hv hs h1 h2 h3
theorem inf_of {a b : DFA} (ha : Val a) (hb : Val b) (hvr : a.vars = b.vars) (h : ∀ u, Wd a u → acc a u = acc b u) (hi : InfC a a.start.toNat) : InfC b b.start.toNat := by
  obtain ⟨u, h1, h2, h3⟩ := cyc_long hi b.next.length
  have hw : Wd b u := fun x hx => by have := h1 x hx; rw [letN] at *; rw [← hvr]; exact this
  have h4 : acc b u = true := by rw [← h u h1]; exact h2
  exact long_cyc hb (start_lt hb) hw h4 h3
theorem inf_renum {d : DFA} (hv : Val d) : InfC (renum d) (renum d).start.toNat ↔ InfC d d.start.toNat := by
  have e : (renum d).vars = d.vars := rfl
  constructor
  · exact inf_of (renum_val hv) hv e fun u hu => renum_acc hv (show Wd d u from hu)
  · exact inf_of hv (renum_val hv) e.symm fun u hu => (renum_acc hv hu).symm
def Topo (d : DFA) : List Nat → Prop
  | [] => True
  | s :: l => (∀ x, x < letN d → Liv d (toN d s x) → toN d s x ∈ l) ∧ Topo d l
theorem topo_run {d : DFA} : ∀ {l : List Nat}, Topo d l → ∀ {s : Nat}, s ∈ l → ∀ (v : List Nat), Wd d v → Liv d (runN d s v) → runN d s v ∈ l
  | [], _, s, hs, _, _, _ => by cases hs
  | a :: l, h, s, hs, [], _, _ => hs
  | a :: l, h, s, hs, x :: v, hw, hl => by
    have hw' := Wd.cons.1 hw
    have h1 : Liv d (toN d s x) := by
      obtain ⟨u, h2, h3⟩ := hl
      exact ⟨v ++ u, hw'.2.app h2, by rw [runN_append]; exact h3⟩
    rw [runN_cons] at hl ⊢
    rcases List.mem_cons.1 hs with rfl | hs
    · exact List.mem_cons_of_mem _ (topo_run h.2 (h.1 x hw'.1 h1) v hw'.2 hl)
    · have := topo_run h.2 hs (x :: v) hw (by rw [runN_cons]; exact hl)
      rw [runN_cons] at this
      exact List.mem_cons_of_mem _ this
theorem topo_strict {d : DFA} : ∀ {l : List Nat}, Topo d l → ∀ {s : Nat}, s ∈ l → Liv d s → Cyc d s → False
  | [], _, s, hs, _, _ => by cases hs
  | a :: l, h, s, hs, hl, hc => by
    rcases List.mem_cons.1 hs with rfl | hs
    · obtain ⟨v, h1, h2, h3⟩ := hc
      cases v with
      | nil => exact h1 rfl
      | cons x v =>
        have hw' := Wd.cons.1 h2
        rw [runN_cons] at h3
        have hx : Liv d (toN d s x) := by
          obtain ⟨u, g1, g2⟩ := hl
          exact ⟨v ++ u, hw'.2.app g1, by rw [runN_append, h3]; exact g2⟩
        have hin := topo_run h.2 (h.1 x hw'.1 hx) v hw'.2 (by rw [h3]; exact hl)
        rw [h3] at hin
        exact topo_strict h.2 hin hl ⟨x :: v, h1, h2, by rw [runN_cons]; exact h3⟩
    · exact topo_strict h.2 hs hl hc
theorem topo_fin {d : DFA} {l : List Nat} (h : Topo d l) {s : Nat} (hs : Liv d s → s ∈ l) : ¬ InfC d s := by
  rintro ⟨u, t, h1, rfl, h2, h3⟩
  have hl : Liv d s := by
    obtain ⟨q, g1, g2⟩ := h2
    exact ⟨u ++ q, h1.app g1, by rw [runN_append]; exact g2⟩
  exact topo_strict h (topo_run h (hs hl) u h1 h2) h2 h3
def mkF (d : DFA) (op fin : List Nat) : List Int := (List.range d.next.length).map fun t => if t ∈ op then 1 else if t ∈ fin then 2 else 0
theorem mkF_len (d : DFA) (op fin : List Nat) : (mkF d op fin).length = d.next.length := by simp [mkF]
theorem mkF_zero (d : DFA) : ints (mkF d [] []) = List.replicate d.next.length (.int .i64 0) := by
  apply List.ext_getElem (by simp [mkF])
  intro i h1 h2
  simp [mkF]
theorem mkF_at {d : DFA} {op fin : List Nat} {s : Nat} (hs : s < d.next.length) : (ints (mkF d op fin))[s]? = some (.int .i64 (if s ∈ op then 1 else if s ∈ fin then 2 else 0)) := by
  rw [List.getElem?_map, mkF, List.getElem?_map, List.getElem?_range hs]; rfl
theorem mkF_open {d : DFA} {op fin : List Nat} {s : Nat} (hs : s < d.next.length) : (mkF d op fin).set s 1 = mkF d (s :: op) fin := by
  apply List.ext_getElem (by simp [mkF])
  intro i h1 h2
  rw [List.getElem_set]
  simp only [mkF, List.getElem_map, List.getElem_range, List.mem_cons]
  by_cases e : s = i
  · subst e; simp
  · have e' : ¬ i = s := fun h => e h.symm
    simp [e, e']
theorem mkF_done {d : DFA} {op fin : List Nat} {s : Nat} (hs : s < d.next.length) (ho : s ∉ op) : (mkF d (s :: op) fin).set s 2 = mkF d op (s :: fin) := by
  apply List.ext_getElem (by simp [mkF])
  intro i h1 h2
  rw [List.getElem_set]
  simp only [mkF, List.getElem_map, List.getElem_range, List.mem_cons]
  by_cases e : s = i
  · subst e; simp [ho]
  · have e' : ¬ i = s := fun h => e h.symm
    simp [e, e']
theorem mkF_two {op fin : List Nat} {s : Nat} (h : ∀ o ∈ op, o ∉ fin) : (if s ∈ op then (1 : Int) else if s ∈ fin then 2 else 0) = 2 ↔ s ∈ fin := by
  by_cases h1 : s ∈ op
  · rw [if_pos h1]; exact ⟨fun h9 => absurd h9 (by decide), fun h2 => absurd h2 (h s h1)⟩
  · rw [if_neg h1]; split <;> simp_all
theorem mkF_one {op fin : List Nat} {s : Nat} : (if s ∈ op then (1 : Int) else if s ∈ fin then 2 else 0) = 1 ↔ s ∈ op := by
  by_cases h1 : s ∈ op
  · simp [h1]
  · rw [if_neg h1]; split <;> simp_all
structure DfsI (d : DFA) (op fin : List Nat) : Prop where
  topo : Topo d fin
  nd : op.Nodup
  lt : ∀ o ∈ op, o < d.next.length
  liv : ∀ o ∈ op, Liv d o
  dis : ∀ o ∈ op, o ∉ fin
theorem DfsI.zero (d : DFA) : DfsI d [] [] := ⟨trivial, List.nodup_nil, fun o h => (by cases h), fun o h => (by cases h), fun o h => (by cases h)⟩
def WayI (d : DFA) (op : List Nat) (s : Nat) : Prop := ∀ o ∈ op, ∃ v, v ≠ [] ∧ Wd d v ∧ runN d o v = s
theorem WayI.zero (d : DFA) (s : Nat) : WayI d [] s := fun o h => by cases h
theorem WayI.step {d : DFA} {op : List Nat} {s x : Nat} (h : WayI d op s) (hx : x < letN d) : WayI d (s :: op) (toN d s x) := fun o ho => by
  rcases List.mem_cons.1 ho with rfl | ho
  · exact ⟨[x], by simp, Wd.cons.2 ⟨hx, Wd.nil⟩, rfl⟩
  · obtain ⟨v, h1, h2, h3⟩ := h o ho
    exact ⟨v ++ [x], by simp, h2.app (Wd.cons.2 ⟨hx, Wd.nil⟩), by rw [runN_append, h3]; rfl⟩
theorem WayI.cyc {d : DFA} {op : List Nat} {s : Nat} (h : WayI d op s) (hs : s ∈ op) : Cyc d s := h s hs
theorem DfsI.open {d : DFA} {op fin : List Nat} {s : Nat} (h : DfsI d op fin) (hs : s < d.next.length) (hl : Liv d s) (ho : s ∉ op) (hf : s ∉ fin) : DfsI d (s :: op) fin where
  topo := h.topo
  nd := List.nodup_cons.2 ⟨ho, h.nd⟩
  lt o hm := (List.mem_cons.1 hm).elim (fun e => e ▸ hs) (h.lt o)
  liv o hm := (List.mem_cons.1 hm).elim (fun e => e ▸ hl) (h.liv o)
  dis o hm := (List.mem_cons.1 hm).elim (fun e => e ▸ hf) (h.dis o)
theorem DfsI.done {d : DFA} {op fin : List Nat} {s : Nat} (h : DfsI d (s :: op) fin) (hx : ∀ x, x < letN d → Liv d (toN d s x) → toN d s x ∈ fin) : DfsI d op (s :: fin) where
  topo := ⟨hx, h.topo⟩
  nd := (List.nodup_cons.1 h.nd).2
  lt o hm := h.lt o (List.mem_cons_of_mem _ hm)
  liv o hm := h.liv o (List.mem_cons_of_mem _ hm)
  dis o hm := fun h2 => (List.mem_cons.1 h2).elim (fun e => (List.nodup_cons.1 h.nd).1 (e ▸ hm)) (h.dis o (List.mem_cons_of_mem _ hm))
theorem DfsI.small {d : DFA} {op fin : List Nat} (h : DfsI d op fin) : op.length ≤ d.next.length := nodup_bound h.nd h.lt
theorem InfC.up {d : DFA} {s x : Nat} (hx : x < letN d) (h : InfC d (toN d s x)) : InfC d s := by
  obtain ⟨u, t, h1, h2, h3, h4⟩ := h
  exact ⟨x :: u, t, Wd.cons.2 ⟨hx, h1⟩, h2, h3, h4⟩
def LivB (d : DFA) (lv : List Bool) : Prop := lv.length = d.next.length ∧ ∀ s (h : s < lv.length), lv[s] = true ↔ Liv d s
structure Prod (d : DFA) (lv : List Bool) : Prop where
  len : lv.length = d.next.length
  fin : ∀ s, s < d.next.length → finN d s = true → lv.getD s false = true
  snd : ∀ s, s < d.next.length → lv.getD s false = true → Liv d s
theorem Prod.start {d : DFA} (h : d.final.length = d.next.length) : Prod d d.final where
  len := h
  fin s hs hf := hf
  snd s hs hf := ⟨[], Wd.nil, hf⟩
theorem Prod.put {d : DFA} {lv : List Bool} {s x : Nat} (h : Prod d lv) (hs : s < d.next.length) (hx : x < letN d) (ht : toN d s x < d.next.length) (hl : lv.getD (toN d s x) false = true) : Prod d (lv.set s true) where
  len := by rw [List.length_set]; exact h.len
  fin t ht' hf := by
    rw [List.getD_eq_getElem?_getD, List.getElem?_set]
    have := h.fin t ht' hf
    rw [List.getD_eq_getElem?_getD] at this
    split
    · rename_i e; rw [if_pos (by rw [h.len]; exact hs)]; rfl
    · exact this
  snd t ht' hf := by
    by_cases e : t = s
    · subst e
      obtain ⟨u, h1, h2⟩ := h.snd _ ht hl
      exact ⟨x :: u, Wd.cons.2 ⟨hx, h1⟩, h2⟩
    · rw [List.getD_eq_getElem?_getD, List.getElem?_set_ne (fun h => e h.symm), ← List.getD_eq_getElem?_getD] at hf
      exact h.snd t ht' hf
theorem Prod.end {d : DFA} (hv : Val d) {lv : List Bool} (h : Prod d lv) (hc : ∀ s, s < d.next.length → lv.getD s false = false → ∀ x, x < letN d → lv.getD (toN d s x) false = false) : LivB d lv := by
  have key : ∀ (u : List Nat) (s : Nat), s < d.next.length → Wd d u → finN d (runN d s u) = true → lv.getD s false = true := by
    intro u
    induction u with
    | nil => intro s hs _ hf; exact h.fin s hs hf
    | cons x u ih =>
      intro s hs hw hf
      have hw' := Wd.cons.1 hw
      have ht := (hv.toN_lt hs hw'.1).1
      have h1 := ih (toN d s x) ht hw'.2 hf
      by_cases e : lv.getD s false = true
      · exact e
      · have := hc s hs (by simpa using e) x hw'.1
        rw [this] at h1; cases h1
  refine ⟨h.len, fun s hs => ?_⟩
  have hs' : s < d.next.length := by rw [← h.len]; exact hs
  have e : lv.getD s false = lv[s] := by rw [List.getD_eq_getElem?_getD, List.getElem?_eq_getElem hs]; rfl
  constructor
  · intro h1; exact h.snd s hs' (by rw [e]; exact h1)
  · rintro ⟨u, h1, h2⟩
    rw [← e]; exact key u s hs' h1 h2
theorem LivB.at {d : DFA} {lv : List Bool} (h : LivB d lv) {s : Nat} (hs : s < d.next.length) : ∃ b, (bools lv)[s]? = some (.bool b) ∧ (b = true ↔ Liv d s) := by
  have hl : s < lv.length := by rw [h.1]; exact hs
  exact ⟨lv[s], bools_get hl, h.2 s hl⟩
theorem bools_at {l : List Bool} {i : Nat} (h : i < l.length) : (bools l)[i]? = some (.bool (l.getD i false)) := by
  rw [List.getElem?_map, List.getElem?_eq_getElem h, List.getD_eq_getElem?_getD, List.getElem?_eq_getElem h]; rfl
theorem count_set {l : List Bool} : ∀ {s : Nat}, s < l.length → l.getD s false = false → (l.set s true).count false + 1 = l.count false := by
  induction l with
  | nil => intro s h; simp at h
  | cons a l ih =>
    intro s h hf
    cases s with
    | zero => simp at hf; subst hf; simp
    | succ s =>
      have := ih (s := s) (by simpa using h) (by simpa using hf)
      rw [List.set_cons_succ, List.count_cons, List.count_cons]; omega
end Go.Lx


namespace Go.Proofs.YtnmfefmhfkhihaaDoor
open Go.Lx Go.RowKit
set_option linter.unusedVariables false
set_option linter.unusedSimpArgs false
end Go.Proofs.YtnmfefmhfkhihaaDoor


namespace Go.Proofs.YtnmfefmhfkhihaaDoor
open Go.Lx Go.RowKit
set_option linter.unusedVariables false
set_option linter.unusedSimpArgs false
set_option maxHeartbeats 1000000 in
set_option maxRecDepth 20000 in
theorem cloneNilB (w : World) [Tab Tryd.prog w] (c : Nat) :
    PureT Tryd.prog 53 [.slice none 0 c] w fun v N => ∃ b' c', v = .slice b' 0 c' ∧ N = [rowI b' c' 4 1 []] := by
  refine CallT.enter Tryd.func53 rfl Tryd.ntmps53 rfl ?_
  refine T.seq (T.region ?_)
  refine TO.quiet (q_assign rfl) ?_
  refine TO.nil (T.seq (T.seq (T.region ?_)))
  refine TO.quiet (q_move rfl) (TO.quiet (q_eqlNil Tryd.underlying23 rfl rfl) ?_)
  refine TO.nil ?_
  refine T.cond1 rfl ?_
  refine T.seq ?_
  refine T.nilRow 4 1 ?_
  refine T.region ?_
  refine TO.quiet (q_assign rfl) ?_
  refine TO.nil (T.ret ?_)
  refine Res.one (.slice none 0 0) Tryd.results53 rfl ?_
  exact ⟨_, _, rfl, rfl⟩
set_option maxHeartbeats 1000000 in
set_option maxRecDepth 20000 in
theorem cloneSomeB (w : World) [Tab Tryd.prog w] (a : Addr) (c : Nat) (xs : List Bool) (h1 : Sl w (some a) (bools xs)) (hb : xs.length * 1 ≤ 70368744177664) :
    PureT Tryd.prog 53 [.slice (some a) xs.length c] w fun v N => ∃ b' c', v = .slice b' xs.length c' ∧ N = [rowI b' c' 4 1 (bools xs)] := by
  refine CallT.enter Tryd.func53 rfl Tryd.ntmps53 rfl ?_
  refine T.seq (T.region ?_)
  refine TO.quiet (q_assign rfl) ?_
  refine TO.nil (T.seq (T.seq (T.region ?_)))
  refine TO.quiet (q_move rfl) (TO.quiet (q_eqlNil Tryd.underlying23 rfl rfl) ?_)
  refine TO.nil ?_
  refine T.cond0 rfl ?_
  refine T.skip (T.seq (T.region ?_))
  refine TO.loud rfl (l_buildSlice (m := 0) (parts := []) (cs := []) Tryd.underlying23 inf4 (by decide) (by simp [Instr.fill]) rfl (fun b1 => ?_))
  refine TO.quiet (q_move rfl) ?_
  refine TO.loud rfl (l_append 0 Tryd.underlying23 Tryd.underlying23 inf4 rfl rfl rfl rfl (by simp) (by decide) (Src.sl h1 (by simp)) (bools_one xs) (by omega) (by decide) (by decide) (fun b1 c2 => ?_))
  refine TO.quiet (q_assign rfl) ?_
  refine TO.nil (T.ret ?_)
  refine Res.one (.slice b1 (0 + xs.length) c2) Tryd.results53 rfl ?_
  exact ⟨_, _, by rw [Nat.zero_add], rfl⟩
theorem cloneB (w : World) [Tab Tryd.prog w] (b : Option Addr) (c : Nat) (xs : List Bool) (h1 : Sl w b (bools xs)) (hb : xs.length * 1 ≤ 70368744177664) :
    PureT Tryd.prog 53 [.slice b xs.length c] w fun v N => ∃ b' c', v = .slice b' xs.length c' ∧ N = [rowI b' c' 4 1 (bools xs)] := by
  cases b with
  | none =>
    have hx : xs = [] := by
      cases xs with
      | nil => rfl
      | cons x xs => obtain ⟨_, _, e⟩ := h1.addr (i := 0) (by simp); cases e
    subst hx
    exact cloneNilB w c
  | some a => exact cloneSomeB w a c xs h1 hb
set_option maxHeartbeats 1000000 in
set_option maxRecDepth 20000 in
theorem indexFuncI (base : World) [Tab Tryd.prog base] (b : Option Addr) (c : Nat) (xs : List Int) (hS : Sl base b (ints xs)) (hb : xs.length < 9223372036854775807) (fv : Value) (p : Int → Bool) (OO : List Lx.Item) (hy : ∀ x ∈ xs, CallV Tryd.prog base fv [.int .i64 x] OO (fun v O' => v = .bool (p x) ∧ O' = OO)) :
    CallT Tryd.prog base 78 [.slice b xs.length c, fv] OO (fun v O' => ∃ i : Int, v = .int .i64 i ∧ decide (i ≥ 0) = xs.any p ∧ O' = OO) := by
  refine CallT.enter Tryd.func78 rfl Tryd.ntmps78 rfl ?_
  refine T.seq (T.region ?_)
  refine TO.quiet (q_assign rfl) ?_
  refine TO.nil (T.seq (T.seq (T.region ?_)))
  refine TO.quiet (q_move rfl) (TO.quiet (q_len Tryd.underlying41 rfl) (TO.quiet (q_move rfl) ?_))
  refine TO.nil (T.block ?_)
  refine T.loop (fun (k : Nat) ρ O => O = OO ∧ k ≤ xs.length ∧ (xs.take k).any p = false ∧ Heads [(0, (.slice b xs.length c)), (1, fv), (7, .int .i64 (xs.length : Int)), (8, .int .i64 (k : Int))] ρ) (fun k => xs.length - k) 0 ?_ ?_
  · exact ⟨rfl, Nat.zero_le _, rfl, ⟨rfl, rfl, rfl, rfl, trivial⟩⟩
  rintro k ρ O ⟨rfl, hk, hany, hH⟩
  obtain ⟨ρ0, rfl⟩ := hH.elim
  clear hH
  refine T.seq (T.region ?_)
  refine TO.quiet (q_lss rfl rfl) ?_
  refine TO.nil (T.seq ?_)
  refine T.condP rfl (fun hc => ?_) (fun hc => ?_)
  · have hlt9 : k < xs.length := by omega
    refine T.skip (T.seq (T.block (T.seq (T.region ?_))))
    refine TO.quiet (q_move rfl) (TO.quiet (q_assign rfl) ?_)
    refine TO.nil (T.seq (T.region ?_))
    refine TO.quiet (q_move rfl) (TO.quiet (q_move rfl) (TO.quiet (q_move rfl) (TO.quiet (q_ix (i := k) Tryd.underlying41 inf3 rfl rfl (Sl.o hS) hlt9 (by rw [List.length_map]; exact hlt9)) ?_)))
    refine TO.quiet (q_ld Tryd.underlying3 rfl rfl (Sl.o hS) (ints_get hlt9)) ?_
    have hk16 := hy xs[k] (List.getElem_mem hlt9)
    refine TO.loud rfl (l_callG hk16 rfl rfl ?_)
    clear hk16
    rintro vr O' ⟨rfl, rfl⟩
    refine TO.nil ?_
    refine T.cond rfl (fun hc => ?_) (fun hc => ?_)
    · refine T.seq ?_
      refine T.region ?_
      refine TO.quiet (q_move rfl) (TO.quiet (q_assign rfl) ?_)
      refine TO.nil (T.ret (Res.drop ?_))
      refine Res.one (.int .i64 (k : Int)) Tryd.results78 rfl ?_
      exact ⟨_, Sub.of (List.Sublist.refl _), k, rfl, by rw [any_at hlt9 hc]; exact decide_eq_true (by omega), rfl⟩
    refine T.skip (T.region ?_)
    refine TO.quiet (q_addN (a := k) (b := 1) rfl rfl (by omega)) (TO.quiet (q_move rfl) ?_)
    refine TO.nil ?_
    exact ⟨k + 1, by omega, rfl, by omega, any_take hlt9 hany hc, ⟨rfl, rfl, rfl, rfl, trivial⟩⟩
  have hge9 : ¬ k < xs.length := by omega
  refine T.exit ?_
  refine T.seq (T.region ?_)
  refine TO.quiet (q_assign rfl) ?_
  refine TO.nil (T.ret (Res.drop ?_))
  refine Res.one (.int .i64 (-1)) Tryd.results78 rfl ?_
  exact ⟨_, Sub.of (List.Sublist.refl _), -1, rfl, by rw [List.take_of_length_le (by omega)] at hany; rw [hany]; decide, rfl⟩
set_option maxHeartbeats 1000000 in
set_option maxRecDepth 20000 in
theorem containsFuncI (base : World) [Tab Tryd.prog base] (b : Option Addr) (c : Nat) (xs : List Int) (hS : Sl base b (ints xs)) (hb : xs.length < 9223372036854775807) (fv : Value) (p : Int → Bool) (OO : List Lx.Item) (hy : ∀ x ∈ xs, CallV Tryd.prog base fv [.int .i64 x] OO (fun v O' => v = .bool (p x) ∧ O' = OO)) :
    CallT Tryd.prog base 67 [.slice b xs.length c, fv] OO (fun v O' => v = .bool (xs.any p) ∧ O' = OO) := by
  refine CallT.enter Tryd.func67 rfl Tryd.ntmps67 rfl ?_
  refine T.seq (T.region ?_)
  refine TO.quiet (q_assign rfl) ?_
  refine TO.nil (T.seq (T.region ?_))
  refine TO.quiet (q_move rfl) (TO.quiet (q_move rfl) ?_)
  have hk7 := indexFuncI base b c xs hS hb fv p OO hy
  refine TO.loud rfl (l_call ent78 hk7 rfl ?_)
  clear hk7
  rintro v O' ⟨i, rfl, hi, rfl⟩
  refine TO.quiet (q_geq rfl rfl) (TO.quiet (q_assign rfl) ?_)
  refine TO.nil (T.ret (Res.drop ?_))
  refine Res.one (.bool (decide (i ≥ 0))) Tryd.results67 rfl ?_
  exact ⟨_, Sub.of (List.Sublist.refl _), congrArg Value.bool hi, rfl⟩
set_option maxHeartbeats 1000000 in
set_option maxRecDepth 20000 in
theorem liveAt (base : World) [Tab Tryd.prog base] (lb : Nat) (rb : Option Addr) (rc : Nat) (lv : List Bool) (x : Int) (h0 : 0 ≤ x) (h1 : x < (lv.length : Int)) :
    CallT Tryd.prog base 68 [.int .i64 x, .pointer (some ⟨lb, 0, none⟩)] [oI lb 23 [(.slice rb lv.length rc)], rowI rb rc 4 1 (bools lv)] (fun v O' => v = .bool (lv.getD x.toNat false) ∧ O' = [oI lb 23 [(.slice rb lv.length rc)], rowI rb rc 4 1 (bools lv)]) := by
  refine CallT.enter Tryd.func68 rfl Tryd.ntmps68 rfl ?_
  refine T.seq (T.region ?_)
  refine TO.quiet (q_assign rfl) ?_
  refine TO.nil (T.seq (T.region ?_))
  refine TO.quiet (q_load_box 0 Tryd.underlying23 rfl rfl rfl rfl) (TO.quiet (q_move rfl) (TO.quiet (q_ixz (i := x) Tryd.underlying23 inf4 rfl rfl (rowO (List.mem_of_getElem? (i := 1) rfl)) h0 (by omega) (by rw [List.length_map]; omega)) (TO.quiet (q_ld Tryd.underlying4 rfl rfl (rowO (List.mem_of_getElem? (i := 1) rfl)) (bools_at (by omega))) ?_)))
  refine TO.quiet (q_assign rfl) ?_
  refine TO.nil (T.ret ?_)
  refine Res.one (.bool (lv.getD x.toNat false)) Tryd.results68 rfl ?_
  exact ⟨rfl, rfl⟩
set_option maxHeartbeats 8000000 in
set_option maxRecDepth 20000 in
theorem prodC (w : World) [Tab Tryd.prog w] (a : DFA) (k : DK) (ha : At w a k) (hv : Valid a) :
    PureT Tryd.prog 46 [dV a k] w fun v N => ∃ lv b c, LivB a lv ∧ v = .slice b a.next.length c ∧ N = [rowI b c 4 1 (bools lv)] := by
  refine CallT.enter Tryd.func46 rfl Tryd.ntmps46 rfl ?_
  have he := checkD_zero.2 hv
  have h4 := hv.n4
  have hww : letN a ≤ 64 := hv.width
  have hfin := hv.fin
  have hvl := ha.rows.1
  have hsl := start_lt hv.toVal
  have hs0 := hv.s0
  have hs1 := hv.s1
  refine T.seq (T.region ?_)
  refine TO.loud rfl (l_box (v := (dV a k)) (cs := (dC a k)) rfl rfl (fun z1 => ?_))
  refine TO.quiet (q_assign rfl) ?_
  refine TO.nil (T.seq (T.region ?_))
  refine TO.quiet (q_fieldAddr Tryd.underlying25 rfl inf23 rfl rfl) (TO.quiet (q_load_box 0 Tryd.underlying23 rfl rfl rfl rfl) ?_)
  have hk9 := fun (w1 : World) (hI : Inv w [oI z1 25 (dC a k)] w1) => (haveI := Inv.tab (P := Tryd.prog) hI; cloneB w1 k.fb k.fc a.final (hI.sl ha.final) (by omega))
  refine TO.loud rfl (l_call ent53 (CallT.of_pure hk9) rfl ?_)
  clear hk9
  rintro vr O' ⟨N, rfl, rb, rc, rfl, rfl⟩
  refine TO.loud rfl (l_alloc inf23 rfl (fun z2 => ?_))
  refine TO.loud rfl (l_store_box (v := (.slice rb a.final.length rc)) (vs := [(.slice rb a.final.length rc)]) 0 inf23 rfl rfl rfl rfl rfl rfl (by simp [putL]) ?_)
  refine TO.nil (T.seq (T.seq (T.region ?_)))
  refine TO.quiet (q_assign rfl) ?_
  refine TO.nil (T.block ?_)
  refine T.loop (fun (m : Nat) ρ O => ∃ (lv : List Bool) (more : Bool), O = [oI z2 23 [(.slice rb a.final.length rc)], rowI rb rc 4 1 (bools lv), oI z1 25 (dC a k)] ∧ lv.count false + (if more = true then 1 else 0) = m ∧ Prod a lv ∧ (more = false → ∀ s, s < a.next.length → lv.getD s false = false → ∀ x, x < letN a → lv.getD (toN a s x) false = false) ∧ Heads [(0, (dV a k)), (1, (.pointer (some ⟨z1, 0, none⟩))), (2, (.slice none 0 0)), (3, (.pointer (some ⟨z2, 0, none⟩))), (4, .bool more)] ρ) (fun m => m) (a.final.count false + 1) ?_ ?_
  · exact ⟨a.final, true, rfl, rfl, Prod.start hfin, fun h => (by cases h), ⟨rfl, rfl, rfl, rfl, rfl, trivial⟩⟩
  rintro m ρ O ⟨lv, more, rfl, hm, hp, hcl, hH⟩
  obtain ⟨ρ0, rfl⟩ := hH.elim
  clear hH
  have hlv := hp.len
  refine T.seq (T.seq (T.region ?_))
  refine TO.quiet (q_move rfl) ?_
  refine TO.nil ?_
  refine T.cond rfl (fun hc => ?_) (fun hc => ?_)
  · have hmt : more = true := hc
    refine T.skip (T.block (T.seq (T.region ?_)))
    refine TO.quiet (q_assign rfl) ?_
    refine TO.nil (T.seq (T.region ?_))
    refine TO.quiet (q_fieldAddr Tryd.underlying25 rfl inf22 rfl rfl) (TO.quiet (q_load_box 2 Tryd.underlying22 rfl rfl rfl rfl) (TO.quiet (q_len Tryd.underlying22 rfl) (TO.quiet (q_move rfl) ?_)))
    refine TO.nil (T.block ?_)
    refine T.loop (fun (s : Nat) ρ O => ∃ (lw : List Bool) (mo : Bool), O = [oI z2 23 [(.slice rb a.final.length rc)], rowI rb rc 4 1 (bools lw), oI z1 25 (dC a k)] ∧ s ≤ a.next.length ∧ Prod a lw ∧ lw.count false + (if mo = true then 1 else 0) < m ∧ (mo = false → lw = lv ∧ ∀ t, t < s → lw.getD t false = false → ∀ x, x < letN a → lw.getD (toN a t x) false = false) ∧ Heads [(0, (dV a k)), (1, (.pointer (some ⟨z1, 0, none⟩))), (2, (.slice none 0 0)), (3, (.pointer (some ⟨z2, 0, none⟩))), (4, .bool mo), (12, (.slice k.nb a.next.length k.nc)), (13, .int .i64 (a.next.length : Int)), (14, .int .i64 ((s : Nat) : Int))] ρ) (fun s => a.next.length - s) 0 ?_ ?_
    · exact ⟨lv, false, rfl, Nat.zero_le _, hp, (by rw [hmt] at hm; simp at hm ⊢; omega), fun _ => ⟨rfl, fun t ht => absurd ht (by omega)⟩, ⟨rfl, rfl, rfl, rfl, rfl, rfl, rfl, rfl, trivial⟩⟩
    rintro s ρ O ⟨lw, mo, rfl, hs, hp2, hdec, hno, hH⟩
    obtain ⟨ρ0, rfl⟩ := hH.elim
    clear hH
    have hlw := hp2.len
    have hlf : lw.length = a.final.length := by omega
    refine T.seq (T.region ?_)
    refine TO.quiet (q_lss rfl rfl) ?_
    refine TO.nil (T.seq ?_)
    refine T.condP rfl (fun hc => ?_) (fun hc => ?_)
    · have hlt15 : s < a.next.length := by omega
      obtain ⟨v1, c1, g1, s1⟩ := ha.rows.get hlt15
      have hl1 : a.next[s].length = letN a := hv.len _ (List.getElem_mem hlt15)
      refine T.skip (T.seq (T.block (T.seq (T.region ?_))))
      refine TO.quiet (q_move rfl) (TO.quiet (q_ix (i := s) Tryd.underlying22 inf41 rfl rfl (Sl.o ha.outer) hlt15 (hvl ▸ hlt15)) (TO.quiet (q_ld Tryd.underlying41 rfl rfl (Sl.o ha.outer) g1) (TO.quiet (q_assign rfl) ?_)))
      refine TO.quiet (q_assign rfl) ?_
      refine TO.nil (T.seq (T.region ?_))
      refine TO.quiet (q_load_box 0 Tryd.underlying23 rfl rfl rfl rfl) (TO.quiet (q_move rfl) (TO.quiet (q_ix (i := s) Tryd.underlying23 inf4 rfl rfl (rowO (List.mem_of_getElem? (i := 1) rfl)) (by omega) (by rw [List.length_map]; omega)) (TO.quiet (q_ld Tryd.underlying4 rfl rfl (rowO (List.mem_of_getElem? (i := 1) rfl)) (bools_at (by omega))) ?_)))
      by_cases hdead : lw.getD s false = false
      · refine TO.quiet (QT.toB (QT.cast (q_not rfl) (v' := .bool (decide (lw.getD s false = false))) (by cases lw.getD s false <;> rfl)) (decide_eq_true hdead)) ?_
        refine TO.quiet (q_move rfl) ?_
        refine TO.guarded rfl rfl rfl (LT.of_quiet rfl rfl (q_move rfl) ?_)
        refine TO.guarded rfl rfl rfl (LT.of_quiet rfl rfl (q_makeFunc) ?_)
        have hk27 := CallT.under (A := [oI z2 23 [(.slice rb a.final.length rc)], rowI rb rc 4 1 (bools lw)]) (B := [oI z1 25 (dC a k)]) (O := [oI z2 23 [(.slice rb a.final.length rc)], rowI rb rc 4 1 (bools lw), oI z1 25 (dC a k)]) (containsFuncI w v1 c1 a.next[s] s1 (by omega) (.func (.func 68) #[] #[.pointer (some ⟨z2, 0, none⟩)]) (fun x => lw.getD x.toNat false) [oI z2 23 [(.slice rb a.final.length rc)], rowI rb rc 4 1 (bools lw)] (fun x hx => CallV.of_fn (first := []) (args := [.int .i64 x]) (caps := [.pointer (some ⟨z2, 0, none⟩)]) ent68 (by
          have h7 := hv.ok _ (List.getElem_mem hlt15) x hx
          have h9 := liveAt w z2 rb rc lw x h7.1 (by omega)
          rw [hlf] at h9; exact h9))) (by exact Sub.rf)
        refine TO.guarded rfl rfl rfl (l_call ent67 hk27 rfl ?_)
        clear hk27
        rintro vr O' ⟨A1, rfl, rfl, rfl⟩
        refine TO.quiet (q_pick1 rfl rfl) ?_
        refine TO.nil ?_
        refine T.cond rfl (fun hc => ?_) (fun hc => ?_)
        · obtain ⟨y, hy1, hy2⟩ := List.any_eq_true.1 hc
          obtain ⟨x, hxk, rfl⟩ := List.mem_iff_getElem.1 hy1
          have hxl : x < letN a := by omega
          obtain ⟨hto, _, hxk1, hx1⟩ := hv.toN_lt hlt15 hxl
          have hput := hp2.put hlt15 hxl hto (by rw [hx1] at hy2; simpa using hy2)
          refine T.region ?_
          refine TO.quiet (q_load_box 0 Tryd.underlying23 rfl rfl rfl rfl) (TO.quiet (q_move rfl) (TO.quiet (q_ix (i := s) Tryd.underlying23 inf4 rfl rfl (rowO (List.mem_of_getElem? (i := 1) rfl)) (by omega) (by rw [List.length_map]; omega)) ?_))
          refine TO.loud rfl (l_st (j := s) (v := .bool true) (vs := [(.bool true)]) (cs := bools lw) 1 inf4 rfl rfl rfl rfl rfl (by simp) rfl (by rw [List.length_map]; simp; omega) ?_)
          refine TO.sub (O' := [oI z2 23 [(.slice rb a.final.length rc)], rowI rb rc 4 1 (bools (lw.set s true)), oI z1 25 (dC a k)]) (by rw [show putL (bools lw) s [(.bool true)] = bools (lw.set s true) from by simp [putL]]; exact Sub.of (List.Sublist.refl _)) ?_
          refine TO.quiet (q_assign rfl) ?_
          refine TO.nil (T.region ?_)
          refine TO.quiet (q_addN (a := s) (b := 1) rfl rfl (by omega)) (TO.quiet (q_move rfl) ?_)
          refine TO.nil ?_
          have hcs := count_set (l := lw) (s := s) (by omega) hdead
          exact ⟨s + 1, by omega, lw.set s true, true, rfl, by omega, hput, (by simp; omega), fun h9 => (by cases h9), ⟨rfl, rfl, rfl, rfl, rfl, rfl, rfl, rfl, trivial⟩⟩
        have hnone : ∀ x, x < letN a → lw.getD (toN a s x) false = false := fun x hx => by
          obtain ⟨_, _, hxk1, hx1⟩ := hv.toN_lt hlt15 hx
          have h8 := List.any_eq_false.1 hc _ (List.getElem_mem hxk1)
          rw [hx1] at h8; simpa using h8
        refine T.skip (T.region ?_)
        refine TO.quiet (q_addN (a := s) (b := 1) rfl rfl (by omega)) (TO.quiet (q_move rfl) ?_)
        refine TO.nil ?_
        exact ⟨s + 1, by omega, lw, mo, rfl, by omega, hp2, hdec, fun h9 => ⟨(hno h9).1, fun t ht hd x hx => (by
          by_cases e9 : t = s
          · subst e9; exact hnone x hx
          · exact (hno h9).2 t (by omega) hd x hx)⟩, ⟨rfl, rfl, rfl, rfl, rfl, rfl, rfl, rfl, trivial⟩⟩
      refine TO.quiet (QT.toB (QT.cast (q_not rfl) (v' := .bool (decide (lw.getD s false = false))) (by cases lw.getD s false <;> rfl)) (decide_eq_false hdead)) (TO.quiet (q_move rfl) ?_)
      refine TO.passed rfl rfl ?_
      refine TO.passed rfl rfl ?_
      refine TO.passed rfl rfl ?_
      refine TO.quiet (q_pick0 rfl rfl) ?_
      refine TO.nil ?_
      refine T.cond0 rfl ?_
      refine T.skip (T.region ?_)
      refine TO.quiet (q_addN (a := s) (b := 1) rfl rfl (by omega)) (TO.quiet (q_move rfl) ?_)
      refine TO.nil ?_
      exact ⟨s + 1, by omega, lw, mo, rfl, by omega, hp2, hdec, fun h9 => ⟨(hno h9).1, fun t ht hd x hx => (by
        by_cases e9 : t = s
        · subst e9; exact absurd hd hdead
        · exact (hno h9).2 t (by omega) hd x hx)⟩, ⟨rfl, rfl, rfl, rfl, rfl, rfl, rfl, rfl, trivial⟩⟩
    have hge15 : ¬ s < a.next.length := by omega
    refine T.exit ?_
    have hse : s = a.next.length := by omega
    exact ⟨lw.count false + (if mo = true then 1 else 0), hdec, lw, mo, rfl, rfl, hp2, fun h9 t ht => (hno h9).2 t (by omega), ⟨rfl, rfl, rfl, rfl, rfl, trivial⟩⟩
  have hmf : more = false := hc
  refine T.exit ?_
  refine T.seq (T.region ?_)
  refine TO.quiet (q_load_box 0 Tryd.underlying23 rfl rfl rfl rfl) (TO.quiet (q_assign rfl) ?_)
  refine TO.nil (T.ret (Res.drop ?_))
  refine Res.one (.slice rb a.final.length rc) Tryd.results46 rfl ?_
  exact ⟨[rowI rb rc 4 1 (bools lv)], (by exact Sub.d (.k .z)), lv, rb, rc, Prod.end hv.toVal hp (hcl hmf), by rw [hfin], rfl⟩
set_option maxHeartbeats 8000000 in
set_option maxRecDepth 20000 in
theorem dfsF (base : World) [Tab Tryd.prog base] (a : DFA) (k : DK) (hv : Valid a) (hqs : nums k.qs = a.next) (lv : List Bool) (hlv : LivB a lv) (lb mb db fb : Nat) (rl rm : Option Addr) (lc mc : Nat) :
    ∀ (m : Nat) (op fin : List Nat) (s : Nat) (hm : a.next.length - op.length = m) (hd : DfsI a op fin) (hs : s < a.next.length) (hw : WayI a op s),
    CallT Tryd.prog base 47 [.int .i64 ((s : Nat) : Int), (.pointer (some ⟨lb, 0, none⟩)), (.pointer (some ⟨mb, 0, none⟩)), (.pointer (some ⟨db, 0, none⟩)), (.pointer (some ⟨fb, 0, none⟩))] [oI lb 23 [(.slice rl a.next.length lc)], rowI rl lc 4 1 (bools lv), oI mb 41 [(.slice rm a.next.length mc)], rowI rm mc 3 1 (ints (mkF a op fin)), oI db 25 (dC a k), oI fb 74 [(.func (.func 47) #[] #[(.pointer (some ⟨lb, 0, none⟩)), (.pointer (some ⟨mb, 0, none⟩)), (.pointer (some ⟨db, 0, none⟩)), (.pointer (some ⟨fb, 0, none⟩))])], dI 41 4 3 a k] (fun v O' => ∃ (b : Bool) (mk : List Int), v = .bool b ∧ O' = [oI lb 23 [(.slice rl a.next.length lc)], rowI rl lc 4 1 (bools lv), oI mb 41 [(.slice rm a.next.length mc)], rowI rm mc 3 1 (ints mk), oI db 25 (dC a k), oI fb 74 [(.func (.func 47) #[] #[(.pointer (some ⟨lb, 0, none⟩)), (.pointer (some ⟨mb, 0, none⟩)), (.pointer (some ⟨db, 0, none⟩)), (.pointer (some ⟨fb, 0, none⟩))])], dI 41 4 3 a k] ∧ (b = true → ∃ fin', mk = mkF a op fin' ∧ DfsI a op fin' ∧ (∀ t ∈ fin, t ∈ fin') ∧ (Liv a s → s ∈ fin')) ∧ (b = false → InfC a s)) := by
  intro m
  induction m using Nat.strongRecOn with
  | _ m ih => ?_
  intro op fin s hm hd hs hw
  refine CallT.enter Tryd.func47 rfl Tryd.ntmps47 rfl ?_
  have hww : letN a ≤ 64 := hv.width
  have hvl : (vals k.qs).length = a.next.length := by rw [← hqs]; simp
  obtain ⟨b0, hb0, hbl⟩ := hlv.at hs
  obtain ⟨q0, hq0, hz0⟩ := dk_row hqs hs
  have hl1 : a.next[s].length = letN a := hv.len _ (List.getElem_mem hs)
  have hlvl := hlv.1
  refine T.seq (T.region ?_)
  refine TO.quiet (q_assign rfl) ?_
  refine TO.nil (T.seq (T.block (T.seq (T.region ?_))))
  refine TO.quiet (q_load_box 0 Tryd.underlying23 rfl rfl rfl rfl) (TO.quiet (q_move rfl) (TO.quiet (q_ix (i := s) Tryd.underlying23 inf4 rfl rfl (rowO (List.mem_of_getElem? (i := 1) rfl)) hs (by rw [List.length_map]; omega)) (TO.quiet (q_ld Tryd.underlying4 rfl rfl (rowO (List.mem_of_getElem? (i := 1) rfl)) hb0) ?_)))
  by_cases hdead : b0 = false
  · refine TO.quiet (QT.toB (QT.cast (q_not rfl) (v' := .bool (decide (b0 = false))) (by cases b0 <;> rfl)) (decide_eq_true hdead)) ?_
    refine TO.quiet (q_move rfl) ?_
    refine TO.passed rfl rfl ?_
    refine TO.passed rfl rfl ?_
    refine TO.passed rfl rfl ?_
    refine TO.passed rfl rfl ?_
    refine TO.passed rfl rfl ?_
    refine TO.quiet (q_pick1 rfl rfl) (TO.quiet (q_assign rfl) ?_)
    refine TO.nil ?_
    refine T.cond1 rfl ?_
    refine T.seq (T.region ?_)
    refine TO.quiet (q_assign rfl) ?_
    refine TO.nil (T.ret ?_)
    refine Res.one (.bool true) Tryd.results47 rfl ?_
    exact ⟨true, mkF a op fin, rfl, rfl, fun _ => ⟨fin, rfl, hd, fun t h => h, fun hl9 => absurd (hbl.2 hl9) (by simp [hdead])⟩, fun h => (by cases h)⟩
  refine TO.quiet (QT.toB (QT.cast (q_not rfl) (v' := .bool (decide (b0 = false))) (by cases b0 <;> rfl)) (decide_eq_false hdead)) (TO.quiet (q_move rfl) ?_)
  refine TO.guarded rfl rfl rfl (LT.of_quiet rfl rfl (q_load_box 2 Tryd.underlying41 rfl rfl rfl rfl) ?_)
  refine TO.guarded rfl rfl rfl (LT.of_quiet rfl rfl (q_move rfl) ?_)
  refine TO.guarded rfl rfl rfl (LT.of_quiet rfl rfl (q_ix (i := s) Tryd.underlying41 inf3 rfl rfl (rowO (List.mem_of_getElem? (i := 3) rfl)) hs (by rw [List.length_map, mkF_len]; omega)) ?_)
  refine TO.guarded rfl rfl rfl (LT.of_quiet rfl rfl (q_ld Tryd.underlying3 rfl rfl (rowO (List.mem_of_getElem? (i := 3) rfl)) (mkF_at hs)) ?_)
  by_cases hinf : s ∈ fin
  · refine TO.guarded rfl rfl rfl (LT.of_quiet rfl rfl (QT.toB (QT.cast (q_eql rfl rfl) (v' := .bool (decide (s ∈ fin))) (congrArg Value.bool (decide_eq_decide.2 (mkF_two hd.dis)))) (decide_eq_true hinf)) ?_)
    refine TO.quiet (q_pick0 rfl rfl) (TO.quiet (q_assign rfl) ?_)
    refine TO.nil ?_
    refine T.cond1 rfl ?_
    refine T.seq (T.region ?_)
    refine TO.quiet (q_assign rfl) ?_
    refine TO.nil (T.ret ?_)
    refine Res.one (.bool true) Tryd.results47 rfl ?_
    exact ⟨true, mkF a op fin, rfl, rfl, fun _ => ⟨fin, rfl, hd, fun t h => h, fun _ => hinf⟩, fun h => (by cases h)⟩
  refine TO.guarded rfl rfl rfl (LT.of_quiet rfl rfl (QT.toB (QT.cast (q_eql rfl rfl) (v' := .bool (decide (s ∈ fin))) (congrArg Value.bool (decide_eq_decide.2 (mkF_two hd.dis)))) (decide_eq_false hinf)) ?_)
  refine TO.quiet (q_pick0 rfl rfl) (TO.quiet (q_assign rfl) ?_)
  refine TO.nil ?_
  refine T.cond0 rfl ?_
  refine T.seq (T.region ?_)
  refine TO.quiet (q_load_box 2 Tryd.underlying41 rfl rfl rfl rfl) (TO.quiet (q_move rfl) (TO.quiet (q_ix (i := s) Tryd.underlying41 inf3 rfl rfl (rowO (List.mem_of_getElem? (i := 3) rfl)) hs (by rw [List.length_map, mkF_len]; omega)) (TO.quiet (q_ld Tryd.underlying3 rfl rfl (rowO (List.mem_of_getElem? (i := 3) rfl)) (mkF_at hs)) ?_)))
  by_cases hop : s ∈ op
  · refine TO.quiet (QT.toB (QT.cast (q_eql rfl rfl) (v' := .bool (decide (s ∈ op))) (congrArg Value.bool (decide_eq_decide.2 mkF_one))) (decide_eq_true hop)) ?_
    refine TO.quiet (q_assign rfl) ?_
    refine TO.nil ?_
    refine T.cond1 rfl ?_
    refine T.seq (T.region ?_)
    refine TO.quiet (q_assign rfl) ?_
    refine TO.nil (T.ret ?_)
    refine Res.one (.bool false) Tryd.results47 rfl ?_
    exact ⟨false, mkF a op fin, rfl, rfl, fun h => (by cases h), fun _ => ⟨[], s, Wd.nil, rfl, hbl.1 (by simpa using hdead), hw.cyc hop⟩⟩
  refine TO.quiet (QT.toB (QT.cast (q_eql rfl rfl) (v' := .bool (decide (s ∈ op))) (congrArg Value.bool (decide_eq_decide.2 mkF_one))) (decide_eq_false hop)) (TO.quiet (q_assign rfl) ?_)
  refine TO.nil ?_
  refine T.cond0 rfl ?_
  refine T.skip (T.seq ?_)
  have hlive : Liv a s := hbl.1 (by simpa using hdead)
  have hnf : s ∉ fin := hinf
  have hno : s ∉ op := hop
  refine T.region ?_
  refine TO.quiet (q_load_box 2 Tryd.underlying41 rfl rfl rfl rfl) (TO.quiet (q_move rfl) (TO.quiet (q_ix (i := s) Tryd.underlying41 inf3 rfl rfl (rowO (List.mem_of_getElem? (i := 3) rfl)) hs (by rw [List.length_map, mkF_len]; omega)) ?_))
  refine TO.loud rfl (l_st (j := s) (v := .int .i64 1) (vs := [(.int .i64 1)]) (cs := ints (mkF a op fin)) 3 inf3 rfl rfl rfl rfl rfl (by simp) rfl (by rw [List.length_map, mkF_len]; simp; omega) ?_)
  refine TO.sub (O' := [oI lb 23 [(.slice rl a.next.length lc)], rowI rl lc 4 1 (bools lv), oI mb 41 [(.slice rm a.next.length mc)], rowI rm mc 3 1 (ints (mkF a (s :: op) fin)), oI db 25 (dC a k), oI fb 74 [(.func (.func 47) #[] #[(.pointer (some ⟨lb, 0, none⟩)), (.pointer (some ⟨mb, 0, none⟩)), (.pointer (some ⟨db, 0, none⟩)), (.pointer (some ⟨fb, 0, none⟩))])], dI 41 4 3 a k]) (by rw [show putL (ints (mkF a op fin)) s [(.int .i64 1)] = ints (mkF a (s :: op) fin) from by rw [← mkF_open hs]; simp [putL]]; exact Sub.of (List.Sublist.refl _)) ?_
  refine TO.nil (T.seq (T.seq (T.region ?_)))
  refine TO.quiet (q_fieldAddr Tryd.underlying25 rfl inf22 rfl rfl) (TO.quiet (q_load_box 4 Tryd.underlying22 rfl rfl rfl rfl) (TO.quiet (q_move rfl) (TO.quiet (q_ix (i := s) Tryd.underlying22 inf41 rfl rfl (dI_outer (List.mem_of_getElem? (i := 6) rfl)) hs (hvl ▸ hs)) ?_)))
  refine TO.quiet (q_ld Tryd.underlying41 rfl rfl (dI_outer (List.mem_of_getElem? (i := 6) rfl)) (rvals_at hq0)) (TO.quiet (QT.cast (q_len Tryd.underlying41 rfl) (v' := .int .i64 ((letN a : Nat) : Int)) (by rw [hz0, hl1])) (TO.quiet (q_move rfl) ?_))
  refine TO.nil (T.block ?_)
  refine T.loop (fun (x : Nat) ρ O => ∃ (fx : List Nat), O = [oI lb 23 [(.slice rl a.next.length lc)], rowI rl lc 4 1 (bools lv), oI mb 41 [(.slice rm a.next.length mc)], rowI rm mc 3 1 (ints (mkF a (s :: op) fx)), oI db 25 (dC a k), oI fb 74 [(.func (.func 47) #[] #[(.pointer (some ⟨lb, 0, none⟩)), (.pointer (some ⟨mb, 0, none⟩)), (.pointer (some ⟨db, 0, none⟩)), (.pointer (some ⟨fb, 0, none⟩))])], dI 41 4 3 a k] ∧ x ≤ letN a ∧ DfsI a (s :: op) fx ∧ (∀ t ∈ fin, t ∈ fx) ∧ (∀ y, y < x → Liv a (toN a s y) → toN a s y ∈ fx) ∧ Heads [(0, .int .i64 ((s : Nat) : Int)), (1, (.pointer (some ⟨lb, 0, none⟩))), (2, (.pointer (some ⟨mb, 0, none⟩))), (3, (.pointer (some ⟨db, 0, none⟩))), (4, (.pointer (some ⟨fb, 0, none⟩))), (9, .bool false), (22, .bool false), (35, (.slice q0.b q0.xs.length q0.c)), (36, .int .i64 ((letN a : Nat) : Int)), (37, .int .i64 ((x : Nat) : Int))] ρ) (fun x => letN a - x) 0 ?_ ?_
  · exact ⟨fin, rfl, Nat.zero_le _, hd.open hs hlive hno hnf, fun t h => h, fun y hy => absurd hy (by omega), ⟨rfl, rfl, rfl, rfl, rfl, rfl, rfl, rfl, rfl, rfl, trivial⟩⟩
  rintro x ρ O ⟨fx, rfl, hx, hdx, hsub, hyy, hH⟩
  obtain ⟨ρ0, rfl⟩ := hH.elim
  clear hH
  refine T.seq (T.region ?_)
  refine TO.quiet (q_lss rfl rfl) ?_
  refine TO.nil (T.seq ?_)
  refine T.condP rfl (fun hc => ?_) (fun hc => ?_)
  · have hlt38 : x < letN a := by omega
    have hxl : x < letN a := by omega
    obtain ⟨hto, _, hxk1, hx1⟩ := hv.toN_lt hs hxl
    have hx1 : (ints a.next[s])[x]? = some (.int .i64 ((toN a s x : Nat) : Int)) := by rw [ints_get hxk1, hx1]
    refine T.skip (T.seq (T.block (T.seq (T.region ?_))))
    refine TO.quiet (q_ix (i := x) Tryd.underlying41 inf3 rfl rfl (dI_row (List.mem_of_getElem? (i := 6) rfl) hq0 hz0) (by rw [hz0]; exact hxk1) (by rw [List.length_map]; exact hxk1)) (TO.quiet (q_ld Tryd.underlying3 rfl rfl (dI_row (List.mem_of_getElem? (i := 6) rfl) hq0 hz0) hx1) (TO.quiet (q_assign rfl) ?_))
    refine TO.nil (T.seq (T.region ?_))
    refine TO.quiet (q_load_box 5 Tryd.underlying74 rfl rfl rfl rfl) (TO.quiet (q_move rfl) ?_)
    have hk43 := CallV.of_fn (first := []) (args := [.int .i64 ((toN a s x : Nat) : Int)]) (caps := [(.pointer (some ⟨lb, 0, none⟩)), (.pointer (some ⟨mb, 0, none⟩)), (.pointer (some ⟨db, 0, none⟩)), (.pointer (some ⟨fb, 0, none⟩))]) ent47 (ih _ (by have := hdx.small; simp only [List.length_cons] at *; omega) (s :: op) fx (toN a s x) rfl hdx hto (hw.step hxl))
    refine TO.loud rfl (l_callG hk43 rfl rfl ?_)
    clear hk43
    rintro vr O' ⟨b1, mk1, rfl, rfl, ht1, hf1⟩
    refine TO.quiet (q_not rfl) ?_
    refine TO.nil ?_
    refine T.cond rfl (fun hc => ?_) (fun hc => ?_)
    · have hb1 : b1 = false := by simpa using hc
      refine T.seq (T.region ?_)
      refine TO.quiet (q_assign rfl) ?_
      refine TO.nil (T.ret ?_)
      refine Res.one (.bool false) Tryd.results47 rfl ?_
      exact ⟨false, mk1, rfl, rfl, fun h => (by cases h), fun _ => (hf1 hb1).up hxl⟩
    have hb1 : b1 = true := by simpa using hc
    refine T.skip (T.region ?_)
    refine TO.quiet (q_addN (a := x) (b := 1) rfl rfl (by omega)) (TO.quiet (q_move rfl) ?_)
    refine TO.nil ?_
    obtain ⟨fx2, hmk, hdx2, hsub2, hin2⟩ := ht1 hb1
    exact ⟨x + 1, by omega, fx2, by rw [hmk], by omega, hdx2, fun t h => hsub2 t (hsub t h), fun y hy hl9 => (by
      by_cases e9 : y = x
      · subst e9; exact hin2 hl9
      · exact hsub2 _ (hyy y (by omega) hl9)), ⟨rfl, rfl, rfl, rfl, rfl, rfl, rfl, rfl, rfl, rfl, trivial⟩⟩
  have hge38 : ¬ x < letN a := by omega
  refine T.exit ?_
  refine T.seq (T.region ?_)
  refine TO.quiet (q_load_box 2 Tryd.underlying41 rfl rfl rfl rfl) (TO.quiet (q_move rfl) (TO.quiet (q_ix (i := s) Tryd.underlying41 inf3 rfl rfl (rowO (List.mem_of_getElem? (i := 3) rfl)) hs (by rw [List.length_map, mkF_len]; omega)) ?_))
  refine TO.loud rfl (l_st (j := s) (v := .int .i64 2) (vs := [(.int .i64 2)]) (cs := ints (mkF a (s :: op) fx)) 3 inf3 rfl rfl rfl rfl rfl (by simp) rfl (by rw [List.length_map, mkF_len]; simp; omega) ?_)
  refine TO.sub (O' := [oI lb 23 [(.slice rl a.next.length lc)], rowI rl lc 4 1 (bools lv), oI mb 41 [(.slice rm a.next.length mc)], rowI rm mc 3 1 (ints (mkF a op (s :: fx))), oI db 25 (dC a k), oI fb 74 [(.func (.func 47) #[] #[(.pointer (some ⟨lb, 0, none⟩)), (.pointer (some ⟨mb, 0, none⟩)), (.pointer (some ⟨db, 0, none⟩)), (.pointer (some ⟨fb, 0, none⟩))])], dI 41 4 3 a k]) (by rw [show putL (ints (mkF a (s :: op) fx)) s [(.int .i64 2)] = ints (mkF a op (s :: fx)) from by rw [← mkF_done hs hno]; simp [putL]]; exact Sub.of (List.Sublist.refl _)) ?_
  refine TO.nil (T.seq (T.region ?_))
  refine TO.quiet (q_assign rfl) ?_
  refine TO.nil (T.ret ?_)
  refine Res.one (.bool true) Tryd.results47 rfl ?_
  have hxe : x = letN a := by omega
  subst hxe
  exact ⟨true, _, rfl, rfl, fun _ => ⟨s :: fx, rfl, hdx.done hyy, fun t h => List.mem_cons_of_mem _ (hsub t h), fun _ => List.mem_cons_self⟩, fun h => (by cases h)⟩
theorem renumK (w : World) [Tab Tryd.prog w] (a : DFA) (k : DK) (ha : At w a k) (hv : Valid a) :
    PureT Tryd.prog 45 [dV a k] w fun v N => ∃ k' : DK, v = .tuple #[dV (renum a) k', .int .i64 0] ∧ N = [dI 41 4 3 (renum a) k'] :=
  CallT.dk (g := fun v => .tuple #[v, .int .i64 0]) (renumOk w a k.nb k.fb k.nc k.fc (vals k.qs) ha hv (by have := hv.n4; omega))
set_option maxHeartbeats 1000000 in
set_option maxRecDepth 20000 in
theorem finBad (w : World) [Tab Tryd.prog w] (a : DFA) (k : DK) (ha : At w a k) (haa : a.next.length < 9223372036854775807) (haar : ∀ r ∈ a.next, r.length < 9223372036854775807) (haaf : a.final.length < 9223372036854775807) (he : checkD a ≠ 0) :
    PureT Tryd.prog 21 [dV a k] w fun v N => ∃ b, v = .tuple #[.bool b, .int .i64 (checkD a : Int)] ∧ N = [] ∧ (checkD a = 0 → (b = true ↔ ¬ InfC a a.start.toNat)) ∧ (checkD a ≠ 0 → b = false) := by
  refine CallT.enter Tryd.func21 rfl Tryd.ntmps21 rfl ?_
  refine T.seq (T.region ?_)
  refine TO.loud rfl (l_box (v := (dV a k)) (cs := (dC a k)) rfl rfl (fun bx1 => ?_))
  refine TO.quiet (q_assign rfl) (TO.quiet (q_assign rfl) ?_)
  refine TO.nil (T.seq (T.region ?_))
  refine TO.quiet (q_load_boxAgg 0 Tryd.underlying25 rfl inf25 rfl rfl rfl) ?_
  have hk11 := fun (w1 : World) (hI : Inv w [oI bx1 25 (dC a k)] w1) => (haveI := Inv.tab (P := Tryd.prog) hI; renumBad w1 a k.nb k.fb k.nc k.fc (vals k.qs) (hI.dfa ha) haa haar haaf he)
  refine TO.loud rfl (l_call ent45 (CallT.of_pure hk11) rfl ?_)
  clear hk11
  rintro vr O' ⟨N, rfl, rfl, rfl⟩
  refine TO.quiet (q_move rfl) (TO.quiet (q_extract (vs := _) rfl rfl) (TO.quiet (q_extract (vs := _) rfl rfl) ?_))
  refine TO.loud rfl (l_alloc inf25 rfl (fun bx2 => ?_))
  refine TO.loud rfl (l_store_box (v := (.agg #[(.int .i64 0), (.int .i64 0), (.slice none 0 0), (.slice none 0 0)])) (vs := [(.int .i64 0), (.int .i64 0), (.slice none 0 0), (.slice none 0 0)]) 0 inf25 rfl rfl rfl rfl rfl rfl (by simp [putL]) ?_)
  refine TO.quiet (q_assign rfl) ?_
  refine TO.nil (T.seq (T.seq (T.region ?_)))
  refine TO.quiet (q_move rfl) (TO.quiet (QT.toB (q_neq rfl rfl) (decide_eq_true (by omega))) ?_)
  refine TO.nil ?_
  refine T.cond1 rfl ?_
  refine T.seq (T.region ?_)
  refine TO.quiet (q_move rfl) (TO.quiet (q_assign rfl) (TO.quiet (q_assign rfl) ?_))
  refine TO.nil (T.ret (Res.drop ?_))
  refine Res.two (.bool false) (.int .i64 (checkD a : Int)) Tryd.results21 rfl rfl ?_
  exact ⟨[], Sub.z, false, rfl, rfl, fun h => absurd h he, fun _ => rfl⟩
set_option maxHeartbeats 8000000 in
set_option maxRecDepth 20000 in
theorem finOk (w : World) [Tab Tryd.prog w] (a : DFA) (k : DK) (ha : At w a k) (hv : Valid a) :
    PureT Tryd.prog 21 [dV a k] w fun v N => ∃ b, v = .tuple #[.bool b, .int .i64 (checkD a : Int)] ∧ N = [] ∧ (checkD a = 0 → (b = true ↔ ¬ InfC a a.start.toNat)) ∧ (checkD a ≠ 0 → b = false) := by
  refine CallT.enter Tryd.func21 rfl Tryd.ntmps21 rfl ?_
  have he := checkD_zero.2 hv
  refine T.seq (T.region ?_)
  refine TO.loud rfl (l_box (v := (dV a k)) (cs := (dC a k)) rfl rfl (fun z1 => ?_))
  refine TO.quiet (q_assign rfl) (TO.quiet (q_assign rfl) ?_)
  refine TO.nil (T.seq (T.region ?_))
  refine TO.quiet (q_load_boxAgg 0 Tryd.underlying25 rfl inf25 rfl rfl rfl) ?_
  have hk11 := fun (w1 : World) (hI : Inv w [oI z1 25 (dC a k)] w1) => (haveI := Inv.tab (P := Tryd.prog) hI; renumK w1 a k (hI.atB ha) hv)
  refine TO.loud rfl (l_call ent45 (CallT.of_pure hk11) rfl ?_)
  clear hk11
  rintro vr O' ⟨N, rfl, y, rfl, rfl⟩
  obtain ⟨M, hM⟩ : ∃ M, M = renum a := ⟨_, rfl⟩
  have hvM : Valid M := hM ▸ renum_valid hv
  rw [← hM]
  refine TO.quiet (q_move rfl) (TO.quiet (q_extract (vs := _) rfl rfl) (TO.quiet (q_extract (vs := _) rfl rfl) ?_))
  refine TO.loud rfl (l_alloc inf25 rfl (fun z2 => ?_))
  refine TO.loud rfl (l_store_box (v := (dV M y)) (vs := (dC M y)) 0 inf25 rfl rfl rfl rfl rfl rfl (by simp [putL]) ?_)
  refine TO.quiet (q_assign rfl) ?_
  refine TO.nil (T.seq (T.seq (T.region ?_)))
  refine TO.quiet (q_move rfl) (TO.quiet (q_neq rfl rfl) ?_)
  refine TO.nil ?_
  refine T.cond0 rfl ?_
  refine T.skip (T.seq (T.region ?_))
  refine TO.quiet (q_load_boxAgg 0 Tryd.underlying25 rfl inf25 rfl rfl rfl) ?_
  have hk18 := fun (w1 : World) (hI : Inv w [oI z2 25 (dC M y), dI 41 4 3 M y, oI z1 25 (dC a k)] w1) => (haveI := Inv.tab (P := Tryd.prog) hI; prodC w1 M y (hI.at (k := y) (List.mem_of_getElem? (i := 1) rfl)) hvM)
  refine TO.loud rfl (l_call ent46 (CallT.of_pure hk18) rfl ?_)
  clear hk18
  rintro vr O' ⟨N, rfl, lv, rb, rc, hlv, rfl, rfl⟩
  refine TO.loud rfl (l_alloc inf23 rfl (fun z3 => ?_))
  refine TO.loud rfl (l_store_box (v := (.slice rb M.next.length rc)) (vs := [(.slice rb M.next.length rc)]) 0 inf23 rfl rfl rfl rfl rfl rfl (by simp [putL]) ?_)
  refine TO.nil (T.seq (T.region ?_))
  refine TO.quiet (q_fieldAddr Tryd.underlying25 rfl inf22 rfl rfl) (TO.quiet (q_load_box 2 Tryd.underlying22 rfl rfl rfl rfl) (TO.quiet (q_len Tryd.underlying22 rfl) ?_))
  refine TO.loud rfl (l_makeSlice (m := M.next.length) Tryd.underlying41 inf3 rfl rfl (by have := hvM.n4; omega) (by have := hvM.n4; omega) (fun z4 => ?_))
  refine TO.loud rfl (l_alloc inf41 rfl (fun z5 => ?_))
  refine TO.loud rfl (l_store_box (v := (.slice (some ⟨z4, 0, none⟩) M.next.length M.next.length)) (vs := [(.slice (some ⟨z4, 0, none⟩) M.next.length M.next.length)]) 0 inf41 rfl rfl rfl rfl rfl rfl (by simp [putL]) ?_)
  refine TO.nil (T.seq (T.region ?_))
  refine TO.loud rfl (l_alloc inf74 rfl (fun z6 => ?_))
  refine TO.nil (T.seq (T.region ?_))
  refine TO.quiet (q_makeFunc) ?_
  refine TO.loud rfl (l_store_box (v := (.func (.func 47) #[] #[(.pointer (some ⟨z3, 0, none⟩)), (.pointer (some ⟨z5, 0, none⟩)), (.pointer (some ⟨z2, 0, none⟩)), (.pointer (some ⟨z6, 0, none⟩))])) (vs := [(.func (.func 47) #[] #[(.pointer (some ⟨z3, 0, none⟩)), (.pointer (some ⟨z5, 0, none⟩)), (.pointer (some ⟨z2, 0, none⟩)), (.pointer (some ⟨z6, 0, none⟩))])]) 0 inf74 rfl rfl rfl rfl rfl rfl (by simp [putL]) ?_)
  refine TO.nil (T.seq ?_)
  refine T.have (φ := nums y.qs = M.next) (fun w9 hI => dI_nums hI (List.mem_of_getElem? (i := 6) rfl)) (fun hqs => ?_)
  refine T.region ?_
  refine TO.quiet (q_load_box 0 Tryd.underlying74 rfl rfl rfl rfl) (TO.quiet (q_fieldAddr Tryd.underlying25 rfl inf3 rfl rfl) (TO.quiet (QT.cast (q_load_box 5 Tryd.underlying3 rfl rfl rfl rfl) (v' := .int .i64 ((M.start.toNat : Nat) : Int)) (congrArg (Value.int .i64) (Int.toNat_of_nonneg hvM.s0).symm)) ?_))
  have hk27 := CallV.under (A := [oI z3 23 [(.slice rb M.next.length rc)], rowI rb rc 4 1 (bools lv), oI z5 41 [(.slice (some ⟨z4, 0, none⟩) M.next.length M.next.length)], rowI (some ⟨z4, 0, none⟩) M.next.length 3 1 (ints (mkF M [] [])), oI z2 25 (dC M y), oI z6 74 [(.func (.func 47) #[] #[(.pointer (some ⟨z3, 0, none⟩)), (.pointer (some ⟨z5, 0, none⟩)), (.pointer (some ⟨z2, 0, none⟩)), (.pointer (some ⟨z6, 0, none⟩))])], dI 41 4 3 M y]) (B := [oI z1 25 (dC a k)]) (O := [oI z6 74 [(.func (.func 47) #[] #[(.pointer (some ⟨z3, 0, none⟩)), (.pointer (some ⟨z5, 0, none⟩)), (.pointer (some ⟨z2, 0, none⟩)), (.pointer (some ⟨z6, 0, none⟩))])], oI z5 41 [(.slice (some ⟨z4, 0, none⟩) M.next.length M.next.length)], rowI (some ⟨z4, 0, none⟩) M.next.length 3 1 (List.replicate M.next.length (.int .i64 0)), oI z3 23 [(.slice rb M.next.length rc)], rowI rb rc 4 1 (bools lv), oI z2 25 (dC M y), dI 41 4 3 M y, oI z1 25 (dC a k)]) (CallV.of_fn (first := []) (args := [.int .i64 ((M.start.toNat : Nat) : Int)]) (caps := [(.pointer (some ⟨z3, 0, none⟩)), (.pointer (some ⟨z5, 0, none⟩)), (.pointer (some ⟨z2, 0, none⟩)), (.pointer (some ⟨z6, 0, none⟩))]) ent47 (dfsF w M y hvM hqs lv hlv z3 z5 z2 z6 rb (some ⟨z4, 0, none⟩) rc M.next.length _ [] [] M.start.toNat rfl (DfsI.zero M) (start_lt hvM.toVal) (WayI.zero M _))) (by rw [mkF_zero]; exact Sub.pull [oI z6 74 [(.func (.func 47) #[] #[(.pointer (some ⟨z3, 0, none⟩)), (.pointer (some ⟨z5, 0, none⟩)), (.pointer (some ⟨z2, 0, none⟩)), (.pointer (some ⟨z6, 0, none⟩))])], oI z5 41 [(.slice (some ⟨z4, 0, none⟩) M.next.length M.next.length)], rowI (some ⟨z4, 0, none⟩) M.next.length 3 1 (List.replicate M.next.length (.int .i64 0))] _ (.pull [oI z6 74 [(.func (.func 47) #[] #[(.pointer (some ⟨z3, 0, none⟩)), (.pointer (some ⟨z5, 0, none⟩)), (.pointer (some ⟨z2, 0, none⟩)), (.pointer (some ⟨z6, 0, none⟩))])], oI z5 41 [(.slice (some ⟨z4, 0, none⟩) M.next.length M.next.length)], rowI (some ⟨z4, 0, none⟩) M.next.length 3 1 (List.replicate M.next.length (.int .i64 0))] _ (.pull [oI z6 74 [(.func (.func 47) #[] #[(.pointer (some ⟨z3, 0, none⟩)), (.pointer (some ⟨z5, 0, none⟩)), (.pointer (some ⟨z2, 0, none⟩)), (.pointer (some ⟨z6, 0, none⟩))])]] _ (.pull [oI z6 74 [(.func (.func 47) #[] #[(.pointer (some ⟨z3, 0, none⟩)), (.pointer (some ⟨z5, 0, none⟩)), (.pointer (some ⟨z2, 0, none⟩)), (.pointer (some ⟨z6, 0, none⟩))])]] _ (.pull [oI z6 74 [(.func (.func 47) #[] #[(.pointer (some ⟨z3, 0, none⟩)), (.pointer (some ⟨z5, 0, none⟩)), (.pointer (some ⟨z2, 0, none⟩)), (.pointer (some ⟨z6, 0, none⟩))])]] _ (.k (.k (.k .z))))))))
  refine TO.loud rfl (l_callG hk27 rfl rfl ?_)
  clear hk27
  rintro vr O' ⟨A1, rfl, b, mk, rfl, rfl, ht, hf⟩
  refine TO.quiet (q_assign rfl) (TO.quiet (q_assign rfl) ?_)
  refine TO.nil (T.ret (Res.drop ?_))
  refine Res.two (.bool b) (.int .i64 0) Tryd.results21 rfl rfl ?_
  have hfi : b = true ↔ ¬ InfC a a.start.toNat := by
    have hren : InfC M M.start.toNat ↔ InfC a a.start.toNat := by subst hM; exact inf_renum hv.toVal
    cases b with
    | true =>
      obtain ⟨fx, _, hdx, _, hin⟩ := ht rfl
      exact ⟨fun _ h9 => topo_fin hdx.topo hin (hren.2 h9), fun _ => rfl⟩
    | false => exact ⟨fun h => (by cases h), fun h9 => absurd (hren.1 (hf rfl)) h9⟩
  exact ⟨[], Sub.z, b, by rw [he]; rfl, rfl, fun _ => hfi, fun h => absurd he h⟩
theorem finC (w : World) [Tab Tryd.prog w] (a : DFA) (k : DK) (ha : At w a k) (haa : a.next.length < 9223372036854775807) (haar : ∀ r ∈ a.next, r.length < 9223372036854775807) (haaf : a.final.length < 9223372036854775807) :
    PureT Tryd.prog 21 [dV a k] w fun v N => ∃ b, v = .tuple #[.bool b, .int .i64 (checkD a : Int)] ∧ N = [] ∧ (checkD a = 0 → (b = true ↔ ¬ InfC a a.start.toNat)) ∧ (checkD a ≠ 0 → b = false) := by
  by_cases he : checkD a ≠ 0
  · exact finBad w a k ha haa haar haaf he
  · exact finOk w a k ha (checkD_zero.1 (by omega))
end Go.Proofs.YtnmfefmhfkhihaaDoor


namespace Go.Lx
open Go.RowKit
set_option linter.unusedVariables false
def QRec.cel (q : QRec) : List Value := [.int .i64 ((q.p.1 : Nat) : Int), .slice q.b q.xs.length q.c]
abbrev rcells (rs : List QRec) : List Value := rs.flatMap QRec.cel
theorem rcells_len : ∀ rs : List QRec, (rcells rs).length = rs.length * 2
  | [] => rfl
  | q :: rs => by
    have := rcells_len rs
    simp only [rcells] at this
    simp only [rcells, List.flatMap_cons, List.length_append, this, List.length_cons, QRec.cel, List.length_nil]
    omega
def seenB (d : DFA) (A : List Stp) : List Bool := (List.range d.next.length).map fun t => decide ((t, t) ∈ A.map Prod.fst)
theorem seenB_len (d : DFA) (A : List Stp) : (seenB d A).length = d.next.length := by simp [seenB]
theorem seenB_at {d : DFA} {A : List Stp} {t : Nat} (h : t < d.next.length) : (bools (seenB d A))[t]? = some (.bool (decide ((t, t) ∈ A.map Prod.fst))) := by
  rw [List.getElem?_map, seenB, List.getElem?_map, List.getElem?_range h]; rfl
theorem seenB_set {d : DFA} {A : List Stp} {t : Nat} (w : List Nat) : (seenB d A).set t true = seenB d (A ++ [((t, t), w)]) := by
  apply List.ext_getElem?
  intro i
  by_cases hi : i < d.next.length
  · by_cases e : t = i
    · subst e
      rw [List.getElem?_set_self (by rw [seenB_len]; exact hi), seenB, List.getElem?_map, List.getElem?_range hi]
      simp
    · rw [List.getElem?_set_ne e, seenB, seenB, List.getElem?_map, List.getElem?_map, List.getElem?_range hi]
      have e' : ¬ i = t := fun h => e h.symm
      simp [e']
  · rw [List.getElem?_eq_none (by rw [List.length_set, seenB_len]; omega), List.getElem?_eq_none (by rw [seenB_len]; omega)]
theorem seenB_put {d : DFA} {A : List Stp} {t : Nat} (w : List Nat) (h : t < d.next.length) : putL (bools (seenB d A)) t [.bool true] = bools (seenB d (A ++ [((t, t), w)])) := by
  rw [← seenB_set]; simp [putL]
theorem seenB_zero (d : DFA) : bools (seenB d []) = List.replicate d.next.length (.bool false) := by
  apply List.ext_getElem?
  intro i
  by_cases hi : i < d.next.length
  · rw [seenB_at hi, List.getElem?_replicate, if_pos hi]; simp
  · rw [List.getElem?_eq_none (by rw [List.length_map, seenB_len]; omega), List.getElem?_replicate, if_neg hi]
theorem sho_mid {d : DFA} (hv : Val d) {i : Nat} {q : Stp} (h : ∀ j, j < i → ∃ q, (shq d j)[j]? = some q ∧ finN d q.1.1 = false) (hq : (shq d i)[i]? = some q) {x : Nat} (hx : x ≤ letN d) :
    (pushN d q (shq d i) x).length ≤ d.next.length ∧ q.1 = (q.1.1, q.1.1) ∧ q.1.1 < d.next.length ∧ q.2.length ≤ i ∧ i < d.next.length ∧ i < (pushN d q (shq d i) x).length := by
  have hI := shq_inv hv h
  have hs := start_lt hv
  have hm := hI.mid hq x hx
  have hd : ∀ r ∈ pushN d q (shq d i) x, r.1 = (r.1.1, r.1.1) ∧ r.1.1 < d.next.length := fun r hr => by
    obtain ⟨h1, h2⟩ := hm.run r hr
    exact ⟨by rw [h2], by rw [h2]; exact runN_lt hv hs _ h1⟩
  have hnd : ((pushN d q (shq d i) x).map (·.1.1)).Nodup := by
    have hn := hm.nd
    rw [List.nodup_iff_pairwise_ne, List.pairwise_map] at hn ⊢
    exact hn.imp_of_mem fun ha hb hne e => hne (by rw [(hd _ ha).1, (hd _ hb).1, e])
  have hl := nodup_bound (n := d.next.length) hnd fun y hy => by
    obtain ⟨r, hr, rfl⟩ := List.mem_map.1 hy
    exact (hd r hr).2
  rw [List.length_map] at hl
  have hil := (List.getElem?_eq_some_iff.1 hm.at_).1
  have := hd q (List.mem_of_getElem? hm.at_)
  exact ⟨hl, this.1, this.2, bq_wlen d _ _ i q (List.mem_of_getElem? hq), by omega, hil⟩
def ShoV (E : TypeId) (e : Nat) (v : Value) (N : List Item) : Option (List Nat) → Prop
  | some u => ∃ b c, v = .tuple #[.slice b u.length c, .bool true, .int .i64 (e : Int)] ∧ N = [rowI b c E 1 (byts u)]
  | none => v = .tuple #[.slice none 0 0, .bool false, .int .i64 (e : Int)] ∧ N = []
end Go.Lx


namespace Go.Lx
open Go.RowKit
set_option linter.unusedVariables false
theorem HasL.opW {f : Bool → Bool → Bool} {v : Int} {n m N : Nat} {a b : DFA} {p q : List Nat → Bool} (ha : HasL v n a p) (hb : HasL v m b q) (h : (order (prodD f a b)).length ≤ N) (hN : N ≤ 4096) : MinL v N (opD f a b) (fun w => f (p w) (q w)) := by
  have hv : a.vars = b.vars := by rw [ha.vars, hb.vars]
  have vD : Val (prodD f a b) := prod_val ha.valid.toVal hb.valid.toVal hv
  have vR : Valid (renum (prodD f a b)) := renum_fit vD (Nat.le_trans h hN)
  have e : opD f a b = minD (renum (prodD f a b)) := (minD_renum vD).symm
  have hl : (minD (renum (prodD f a b))).next.length ≤ (renum (prodD f a b)).next.length := minD_len vR.toVal
  have hr : (renum (prodD f a b)).next.length = (order (prodD f a b)).length := by simp [renum]
  refine ⟨⟨?_, ?_, ha.vars, fun w hw => ?_⟩, opD_minW ha.valid.toVal hb.valid.toVal hv⟩
  · rw [e]; exact minD_valid vR
  · rw [e]; omega
  · rw [opD_accW ha.valid.toVal hb.valid.toVal hv (ha.wd.2 hw), ha.acc w hw, hb.acc w hw]
end Go.Lx


namespace Go.Lx
open Go.RowKit
set_option linter.unusedVariables false
structure InL (z d : DFA) (p : List Nat → Bool) : Prop where
  has : HasL z.vars z.next.length d p
  det : Det z d
theorem InL.fac {z d : DFA} {p : List Nat → Bool} (h : InL z d p) : Fac z p := h.det.fac h.has
theorem InL.order {z a b : DFA} {p q : List Nat → Bool} {f : Bool → Bool → Bool} (hz : Valid z) (ha : InL z a p) (hb : InL z b q) : (order (prodD f a b)).length ≤ z.next.length :=
  pr_order_factW ha.has.valid.toVal hb.has.valid.toVal (by rw [ha.has.vars, hb.has.vars]) hz.toVal ha.has.vars.symm ha.det hb.det
theorem InL.op {z a b : DFA} {p q : List Nat → Bool} {f : Bool → Bool → Bool} (hz : Valid z) (ha : InL z a p) (hb : InL z b q) : MinL z.vars z.next.length (opD f a b) (fun w => f (p w) (q w)) ∧ InL z (opD f a b) (fun w => f (p w) (q w)) := by
  have hm := ha.has.opW hb.has (InL.order (f := f) hz ha hb) hz.n4
  exact ⟨hm, hm.toHasL, (ha.fac.op f hb.fac).det hm⟩
theorem InL.min {z d : DFA} {p : List Nat → Bool} (hz : Valid z) (h : InL z d p) : MinL z.vars z.next.length (minD d) p ∧ InL z (minD d) p :=
  ⟨h.has.minim, h.has.minim.toHasL, h.fac.det h.has.minim⟩
theorem InL.of {z d : DFA} (hz : Valid z) (hd : Valid d) (hv : z.vars = d.vars) (hl : d.next.length ≤ z.next.length) (h : Det z d) : InL z d (acc d) := ⟨⟨hd, hl, hv.symm, fun _ _ => rfl⟩, h⟩
end Go.Lx


namespace Go.Lx
open Go.RowKit
set_option linter.unusedVariables false
abbrev cC (a g : DFA) (j k : DK) : List Value := [.int .i64 a.vars, .int .i64 a.start, .slice j.nb a.next.length j.nc, .slice j.fb a.final.length j.fc, .int .i64 g.vars, .int .i64 g.start, .slice k.nb g.next.length k.nc, .slice k.fb g.final.length k.fc]
abbrev bC (e : Value) (a g : DFA) (j k : DK) : List Value := e :: cC a g j k
theorem InL.not {z a : DFA} {p : List Nat → Bool} (hz : Valid z) (ha : InL z a p) : MinL z.vars z.next.length (notD a) (fun w => !p w) ∧ InL z (notD a) (fun w => !p w) := InL.op (f := notB) hz ha ha
end Go.Lx
namespace Go.Lx
end Go.Lx


namespace Go.Lx
open Go.RowKit
set_option linter.unusedVariables false
end Go.Lx


namespace Go.Lx
open Go.RowKit
set_option linter.unusedVariables false
def Imp (v : Int) (p q r : List Nat → Bool) : Prop := ∀ w, WdV v w → p w = true → q w = true → r w = true
def Ref (v : Int) (p q p2 q2 : List Nat → Bool) : Prop := ∀ w, WdV v w → (p2 w = true → p w = true) ∧ ((q w || !p w) = true → (q2 w || !p2 w) = true)
section
variable {v : Int} {px py p q p1 q1 p2 q2 p3 q3 : List Nat → Bool}
theorem Ref.rfl' : Ref v p q p q := fun w hw => ⟨id, id⟩
theorem Ref.trans' (h : Ref v p q p1 q1) (h2 : Ref v p1 q1 p2 q2) : Ref v p q p2 q2 := fun w hw => ⟨fun e => (h w hw).1 ((h2 w hw).1 e), fun e => (h2 w hw).2 ((h w hw).2 e)⟩
theorem Ref.imp (h : Ref v p q p1 q1) (h2 : Imp v px p q) : Imp v px p1 q1 := fun w hw e1 e2 => by
  have a1 := h w hw
  have a2 := h2 w hw e1
  cases h1 : p w <;> cases h2 : q w <;> cases h3 : q1 w <;> simp_all
end
section
variable {z x a b c d : DFA} {px p q p2 q2 : List Nat → Bool}
end
section
variable {v : Int} {px py p q p1 q1 p2 q2 p3 q3 : List Nat → Bool}
theorem fc {P Q R : List Nat → Prop} (h : ∀ w, P w ↔ Q w ∧ R w) : (∀ w, WdV v w → P w) ↔ (∀ w, WdV v w → Q w) ∧ ∀ w, WdV v w → R w :=
  ⟨fun a => ⟨fun w hw => ((h w).1 (a w hw)).1, fun w hw => ((h w).1 (a w hw)).2⟩, fun a w hw => (h w).2 ⟨a.1 w hw, a.2 w hw⟩⟩
end
end Go.Lx


namespace Go.Lx
open Go.RowKit
set_option linter.unusedVariables false
theorem least_ex (d : DFA) : ∃ r, LeastA d r := by
  by_cases h : ∃ u, Wd d u ∧ acc d u = true
  · have key : ∀ n, (∃ u, Wd d u ∧ acc d u = true ∧ code u ≤ n) → ∃ r, LeastA d r := by
      intro n
      induction n with
      | zero => rintro ⟨u, h1, h2, h3⟩; exact ⟨some u, h1, h2, fun v _ _ => by omega⟩
      | succ n ih =>
        rintro ⟨u, h1, h2, h3⟩
        by_cases h4 : ∃ v, Wd d v ∧ acc d v = true ∧ code v ≤ n
        · exact ih h4
        · refine ⟨some u, h1, h2, fun v hv hv2 => ?_⟩
          have : ¬ code v ≤ n := fun h5 => h4 ⟨v, hv, hv2, h5⟩
          omega
    obtain ⟨u, h1, h2⟩ := h
    exact key _ ⟨u, h1, h2, Nat.le_refl _⟩
  · refine ⟨none, fun u hu => ?_⟩
    cases e : acc d u with
    | false => rfl
    | true => exact absurd ⟨u, hu, e⟩ h
theorem pickR (e : Nat) (d : DFA) : ∃ (r : Option (List Nat)) (b : Bool), (e = 0 → LeastA d r) ∧ (e ≠ 0 → r = none) ∧ b = (decide (e = 0) && !r.isSome) := by
  by_cases h : e = 0
  · obtain ⟨r, hr⟩ := least_ex d
    exact ⟨r, _, fun _ => hr, fun h9 => absurd h h9, rfl⟩
  · exact ⟨none, _, fun h9 => absurd h9 h, fun _ => rfl, rfl⟩
theorem Sl.pre {w : World} {b : Option Addr} {cs : List Value} (h : Sl w b cs) (m : Nat) : Sl w b (cs.take m) := fun i hi => by
  have hi' : i < cs.length := by rw [List.length_take] at hi; omega
  obtain ⟨a, h1, h2, h3⟩ := h i hi'
  exact ⟨a, h1, h2, by rw [h3]; simp⟩
structure FewR (w : World) (d : DFA) (s : Nat) (rs : List Rec) : Prop where
  xs : nums rs = (d.next.take s).map (·.take 65)
  sl : ∀ r ∈ rs, Sl w r.b (ints r.xs)
theorem FewR.zero (w : World) (d : DFA) : FewR w d 0 [] := ⟨rfl, fun r hr => by cases hr⟩
theorem FewR.step {w : World} {d : DFA} {s : Nat} {rs : List Rec} (h : FewR w d s rs) (hs : s < d.next.length) {v : Option Addr} {c : Nat} (hv : Sl w v (ints d.next[s])) : FewR w d (s + 1) (rs ++ [⟨v, c, d.next[s].take 65⟩]) := by
  refine ⟨?_, fun r hr => ?_⟩
  · rw [List.take_succ_eq_append_getElem hs, List.map_append, ← h.xs]; exact List.map_append
  · rcases List.mem_append.1 hr with hr | hr
    · exact h.sl r hr
    · obtain rfl := List.mem_singleton.1 hr
      have := hv.pre 65
      rw [← List.map_take] at this
      exact this
theorem FewR.len {w : World} {d : DFA} {s : Nat} {rs : List Rec} (h : FewR w d s rs) (hs : s ≤ d.next.length) : rs.length = s := by
  have := congrArg List.length h.xs
  simpa [Nat.min_eq_left hs] using this
theorem FewR.rows {w w' : World} {d : DFA} {s : Nat} {rs : List Rec} (h : FewR w d s rs) (hk : ∀ k, k < w.heap.size → w'.heap[k]? = w.heap[k]?) {R : List (List Int)} (hR : nums rs = R) : RowsR w' (vals rs) R := by
  subst hR
  refine ⟨by simp, fun i r hr => ?_⟩
  rw [List.getElem?_map] at hr
  cases hq : rs[i]? with
  | none => rw [hq] at hr; cases hr
  | some q =>
    rw [hq] at hr
    obtain rfl : q.xs = r := by simpa using hr
    refine ⟨q.b, q.c, ?_, (h.sl q (List.mem_of_getElem? hq)).keep hk⟩
    rw [List.getElem?_map, hq]; rfl
end Go.Lx
namespace Go.Lx
set_option linter.unusedVariables false
abbrev Bd9 (a : DFA) : Prop := a.next.length < 9223372036854775807 ∧ (∀ r ∈ a.next, r.length < 9223372036854775807) ∧ a.final.length < 9223372036854775807
end Go.Lx


namespace Go.Lx
open Go.RowKit
set_option linter.unusedVariables false
def RchK (d : DFA) (k t : Nat) : Prop := ∃ u, Wd d u ∧ u.length = k ∧ runN d d.start.toNat u = t
theorem RchK.zero {d : DFA} {t : Nat} : RchK d 0 t ↔ t = d.start.toNat := by
  constructor
  · rintro ⟨u, _, h2, h3⟩
    obtain rfl := List.length_eq_zero_iff.1 h2
    exact h3.symm
  · rintro rfl; exact ⟨[], Wd.nil, rfl, rfl⟩
theorem RchK.succ {d : DFA} {k t : Nat} : RchK d (k + 1) t ↔ ∃ s x, RchK d k s ∧ x < letN d ∧ toN d s x = t := by
  constructor
  · rintro ⟨u, h1, h2, h3⟩
    obtain ⟨v, x, rfl⟩ : ∃ v x, u = v ++ [x] := by
      rcases List.eq_nil_or_concat u with h | ⟨v, x, h⟩
      · rw [h] at h2; cases h2
      · exact ⟨v, x, h.trans (List.concat_eq_append ..)⟩
    have hv : Wd d v := fun y hy => h1 y (List.mem_append_left _ hy)
    refine ⟨_, x, ⟨v, hv, by simpa using h2, rfl⟩, h1 x (by simp), ?_⟩
    rw [runN_append] at h3; exact h3
  · rintro ⟨s, x, ⟨v, h1, h2, h3⟩, hx, h4⟩
    exact ⟨v ++ [x], h1.app (Wd.cons.2 ⟨hx, Wd.nil⟩), by simp [h2], by rw [runN_append, h3]; exact h4⟩
theorem RchK.lt {d : DFA} (hv : Val d) {k t : Nat} (h : RchK d k t) : t < d.next.length := by
  obtain ⟨u, h1, _, rfl⟩ := h
  exact runN_lt hv (start_lt hv) u h1
structure InK (d : DFA) (k : Nat) (l : List Bool) : Prop where
  len : l.length = d.next.length
  ok : ∀ t, t < d.next.length → (l.getD t false = true ↔ RchK d k t)
structure NxK (d : DFA) (k s x : Nat) (l : List Bool) : Prop where
  len : l.length = d.next.length
  ok : ∀ t, t < d.next.length → (l.getD t false = true ↔ ∃ s' x', (s' < s ∧ x' < letN d ∨ s' = s ∧ x' < x) ∧ RchK d k s' ∧ toN d s' x' = t)
theorem getD_set {l : List Bool} {s t : Nat} {v : Bool} (hs : s < l.length) : (l.set s v).getD t false = if t = s then v else l.getD t false := by
  rw [List.getD_eq_getElem?_getD, List.getElem?_set, List.getD_eq_getElem?_getD]
  by_cases e : t = s
  · subst e; simp [hs]
  · rw [if_neg (fun h => e h.symm), if_neg e]
theorem getD_rep {n t : Nat} : (List.replicate n false).getD t false = false := by
  rw [List.getD_eq_getElem?_getD, List.getElem?_replicate]; split <;> rfl
theorem InK.zero {d : DFA} (hs : d.start.toNat < d.next.length) : InK d 0 ((List.replicate d.next.length false).set d.start.toNat true) where
  len := by simp
  ok t ht := by
    rw [getD_set (by simpa using hs), RchK.zero, getD_rep]
    split <;> simp_all
theorem NxK.zero (d : DFA) (k : Nat) : NxK d k 0 0 (List.replicate d.next.length false) where
  len := by simp
  ok t ht := by
    rw [getD_rep]
    constructor
    · intro h; cases h
    · rintro ⟨s', x', h | h, _⟩ <;> omega
theorem NxK.hit {d : DFA} {k s x : Nat} {l : List Bool} (h : NxK d k s x l) (hr : RchK d k s) (ht : toN d s x < d.next.length) : NxK d k s (x + 1) (l.set (toN d s x) true) where
  len := by rw [List.length_set]; exact h.len
  ok t ht' := by
    rw [getD_set (by rw [h.len]; exact ht)]
    constructor
    · intro h1
      split at h1
      · rename_i e; exact ⟨s, x, .inr ⟨rfl, by omega⟩, hr, e.symm⟩
      · obtain ⟨s', x', h2, h3⟩ := (h.ok t ht').1 h1
        exact ⟨s', x', by omega, h3⟩
    · rintro ⟨s', x', h2, h3, h4⟩
      split
      · rfl
      · rename_i e
        refine (h.ok t ht').2 ⟨s', x', ?_, h3, h4⟩
        rcases h2 with h2 | ⟨rfl, h2⟩
        · exact .inl h2
        · have : x' ≠ x := fun e2 => e (by rw [← h4, e2])
          exact .inr ⟨rfl, by omega⟩
theorem NxK.row {d : DFA} {k s x : Nat} {l : List Bool} (h : NxK d k s x l) (hx : x = letN d) : NxK d k (s + 1) 0 l where
  len := h.len
  ok t ht' := by
    rw [h.ok t ht']
    subst hx
    constructor
    · rintro ⟨s', x', h2, h3⟩; exact ⟨s', x', by omega, h3⟩
    · rintro ⟨s', x', h2, h3⟩
      refine ⟨s', x', ?_, h3⟩
      rcases h2 with ⟨h2, h5⟩ | ⟨_, h2⟩
      · by_cases e : s' = s
        · exact .inr ⟨e, h5⟩
        · exact .inl ⟨by omega, h5⟩
      · omega
theorem NxK.end {d : DFA} (hv : Val d) {k s : Nat} {l : List Bool} (h : NxK d k s 0 l) (hs : s = d.next.length) : InK d (k + 1) l where
  len := h.len
  ok t ht' := by
    rw [h.ok t ht', RchK.succ]
    constructor
    · rintro ⟨s', x', h2, h3, h4⟩
      rcases h2 with ⟨_, h5⟩ | ⟨_, h2⟩
      · exact ⟨s', x', h3, h5, h4⟩
      · omega
    · rintro ⟨s', x', h3, h5, h4⟩
      exact ⟨s', x', .inl ⟨by have := h3.lt hv; omega, h5⟩, h3, h4⟩
end Go.Lx


namespace Go.Proofs.YtnmfefmhfkhihaaDoor
open Go.Lx Go.RowKit
set_option linter.unusedVariables false
set_option linter.unusedSimpArgs false
set_option maxHeartbeats 1000000 in
set_option maxRecDepth 20000 in
theorem shoBad (w : World) [Tab Tryd.prog w] (a : DFA) (k : DK) (ha : At w a k) (haa : a.next.length < 9223372036854775807) (haar : ∀ r ∈ a.next, r.length < 9223372036854775807) (haaf : a.final.length < 9223372036854775807) (he : checkD a ≠ 0) :
    PureT Tryd.prog 20 [dV a k] w fun v N => v = .tuple #[.slice none 0 0, .bool false, .int .i64 (checkD a : Int)] ∧ N = [] := by
  refine CallT.enter Tryd.func20 rfl Tryd.ntmps20 rfl ?_
  refine T.seq (T.region ?_)
  refine TO.loud rfl (l_box (v := (dV a k)) (cs := (dC a k)) rfl rfl (fun bx1 => ?_))
  refine TO.quiet (q_assign rfl) (TO.quiet (q_assign rfl) (TO.quiet (q_assign rfl) ?_))
  refine TO.nil (T.seq (T.seq (T.region ?_)))
  refine TO.quiet (q_load_boxAgg 0 Tryd.underlying25 rfl inf25 rfl rfl rfl) ?_
  have hk12 := fun (w1 : World) (hI : Inv w [oI bx1 25 (dC a k)] w1) => (haveI := Inv.tab (P := Tryd.prog) hI; subsetCheck w1 a k.nb k.fb k.nc k.fc (vals k.qs) (hI.dfa ha) haa haar haaf)
  refine TO.loud rfl (l_call ent33 (CallT.of_pure hk12) rfl ?_)
  clear hk12
  rintro vr O' ⟨N, rfl, rfl, rfl⟩
  refine TO.quiet (q_assign rfl) ?_
  refine TO.nil (T.seq (T.region ?_))
  refine TO.quiet (q_move rfl) (TO.quiet (QT.toB (q_neq rfl rfl) (decide_eq_true (by omega))) ?_)
  refine TO.nil ?_
  refine T.cond1 rfl ?_
  refine T.seq (T.region ?_)
  refine TO.quiet (q_move rfl) (TO.quiet (q_assign rfl) (TO.quiet (q_assign rfl) (TO.quiet (q_assign rfl) ?_)))
  refine TO.nil (T.ret (Res.drop ?_))
  refine Res.three (.slice none 0 0) (.bool false) (.int .i64 (checkD a : Int)) Tryd.results20 rfl rfl rfl ?_
  exact ⟨[], Sub.z, rfl, rfl⟩
set_option maxHeartbeats 8000000 in
set_option maxRecDepth 20000 in
theorem shoOk (w : World) [Tab Tryd.prog w] (a : DFA) (k : DK) (ha : At w a k) (hv : Valid a) :
    PureT Tryd.prog 20 [dV a k] w fun v N => ∃ res, LeastA a res ∧ ShoV 5 0 v N res := by
  refine CallT.enter Tryd.func20 rfl Tryd.ntmps20 rfl ?_
  have he := checkD_zero.2 hv
  have haa : a.next.length < 9223372036854775807 := by have := hv.n4; omega
  have haar : ∀ r ∈ a.next, r.length < 9223372036854775807 := hv.bound
  have haaf : a.final.length < 9223372036854775807 := by have := hv.fin; omega
  have h4 := hv.n4
  have hww := hv.width
  have hsl := start_lt hv.toVal
  have hs0 := hv.s0
  have hs1 := hv.s1
  have hvl := ha.rows.1
  have hfin := hv.fin
  refine T.seq (T.region ?_)
  refine TO.loud rfl (l_box (v := (dV a k)) (cs := (dC a k)) rfl rfl (fun z1 => ?_))
  refine TO.quiet (q_assign rfl) (TO.quiet (q_assign rfl) (TO.quiet (q_assign rfl) ?_))
  refine TO.nil (T.seq (T.seq (T.region ?_)))
  refine TO.quiet (q_load_boxAgg 0 Tryd.underlying25 rfl inf25 rfl rfl rfl) ?_
  have hk12 := fun (w1 : World) (hI : Inv w [oI z1 25 (dC a k)] w1) => (haveI := Inv.tab (P := Tryd.prog) hI; subsetCheck w1 a k.nb k.fb k.nc k.fc (vals k.qs) (hI.dfa ha) haa haar haaf)
  refine TO.loud rfl (l_call ent33 (CallT.of_pure hk12) rfl ?_)
  clear hk12
  rintro vr O' ⟨N, rfl, rfl, rfl⟩
  rw [he]
  refine TO.quiet (q_assign rfl) ?_
  refine TO.nil (T.seq (T.region ?_))
  refine TO.quiet (q_move rfl) (TO.quiet (q_neq rfl rfl) ?_)
  refine TO.nil ?_
  refine T.cond0 rfl ?_
  refine T.skip (T.seq (T.region ?_))
  refine TO.quiet (q_fieldAddr Tryd.underlying25 rfl inf22 rfl rfl) (TO.quiet (q_load_box 0 Tryd.underlying22 rfl rfl rfl rfl) (TO.quiet (q_len Tryd.underlying22 rfl) ?_))
  refine TO.loud rfl (l_makeSlice (m := a.next.length) Tryd.underlying23 inf4 rfl rfl (by omega) (by omega) (fun z2 => ?_))
  refine TO.quiet (q_assign rfl) ?_
  refine TO.nil (T.seq (T.region ?_))
  refine TO.quiet (q_move rfl) (TO.quiet (q_fieldAddr Tryd.underlying25 rfl inf3 rfl rfl) (TO.quiet (q_load_box 1 Tryd.underlying3 rfl rfl rfl rfl) (TO.quiet (q_ixz (i := a.start) Tryd.underlying23 inf4 rfl rfl (rowO (List.mem_of_getElem? (i := 0) rfl)) (by first | assumption | omega) (by omega) (by rw [List.length_replicate]; omega)) ?_)))
  refine TO.loud rfl (l_st (j := a.start.toNat) (v := .bool true) (vs := [(.bool true)]) (cs := List.replicate a.next.length (.bool false)) 0 inf4 rfl rfl rfl rfl rfl (by simp) rfl (by rw [List.length_replicate]; simp; omega) ?_)
  refine TO.sub (O' := [rowI (some ⟨z2, 0, none⟩) a.next.length 4 1 (bools (seenB a (shq a 0))), oI z1 25 (dC a k)]) (by rw [show putL (List.replicate a.next.length (.bool false)) a.start.toNat [(.bool true)] = bools (seenB a (shq a 0)) from (by rw [← seenB_zero]; exact seenB_put [] hsl)]; exact Sub.of (List.Sublist.refl _)) ?_
  refine TO.nil (T.seq (T.seq (T.region ?_)))
  refine TO.quiet (q_fieldAddr Tryd.underlying25 rfl inf3 rfl rfl) (TO.quiet (q_load_box 1 Tryd.underlying3 rfl rfl rfl rfl) (TO.quiet (q_build (cs := [(.int .i64 a.start), (.slice none 0 0)]) plan70 inf70 (by kernel_rfl)) ?_))
  refine TO.loud rfl (l_buildSlice (m := 1) (parts := [(0, _)]) (cs := [(.int .i64 a.start), (.slice none 0 0)]) Tryd.underlying71 inf70 (by decide) (by kernel_rfl) rfl (fun z3 => ?_))
  refine TO.quiet (q_assign rfl) ?_
  refine TO.nil ?_
  refine T.nilRow 5 1 ?_
  refine T.sub (O' := [rowI (some ⟨z3, 0, none⟩) 1 70 2 [(.int .i64 a.start), (.slice none 0 0)], rowI (some ⟨z2, 0, none⟩) a.next.length 4 1 (bools (seenB a (shq a 0))), oI z1 25 (dC a k), rowI none 0 5 1 []]) (by exact Sub.pull [rowI none 0 5 1 []] _ (.pull [rowI none 0 5 1 []] _ (.pull [rowI none 0 5 1 []] _ (.k .z)))) ?_
  refine T.sub (O' := ([rowI (some ⟨z3, 0, none⟩) 1 70 2 (rcells [⟨(a.start.toNat, a.start.toNat), none, 0, []⟩]), rowI (some ⟨z2, 0, none⟩) a.next.length 4 1 (bools (seenB a (shq a 0))), oI z1 25 (dC a k)] ++ qitms 5 [⟨(a.start.toNat, a.start.toNat), none, 0, []⟩])) (by rw [show rcells [⟨(a.start.toNat, a.start.toNat), none, 0, []⟩] = [.int .i64 ((a.start.toNat : Nat) : Int), .slice none 0 0] from rfl, show ((a.start.toNat : Nat) : Int) = a.start from Int.toNat_of_nonneg hs0]; exact Sub.rf) ?_
  refine T.block ?_
  refine T.loop (fun (i : Nat) ρ O => ∃ (qb : Option Addr) (qc m : Nat) (rs : List QRec), O = ([rowI qb qc 70 2 (rcells rs), rowI (some ⟨z2, 0, none⟩) a.next.length 4 1 (bools (seenB a (shq a i))), oI z1 25 (dC a k)] ++ (qitms 5 rs)) ∧ m = rs.length ∧ rs.map QRec.stp = (shq a i).drop i ∧ (∀ j, j < i → ∃ q, (shq a j)[j]? = some q ∧ finN a q.1.1 = false) ∧ Heads [(0, (dV a k)), (1, (.pointer (some ⟨z1, 0, none⟩))), (5, .int .i64 0), (6, (.slice (some ⟨z2, 0, none⟩) a.next.length a.next.length)), (7, (.slice qb m qc))] ρ) (fun i => a.next.length - i) 0 ?_ ?_
  · exact ⟨_, _, 1, [⟨(a.start.toNat, a.start.toNat), none, 0, []⟩], rfl, rfl, rfl, fun j hj => absurd hj (by omega), ⟨rfl, rfl, rfl, rfl, rfl, trivial⟩⟩
  rintro i ρ O ⟨qb, qc, m, rs, rfl, hm, hrs, hj, hH⟩
  obtain ⟨ρ0, rfl⟩ := hH.elim
  clear hH
  refine T.seq (T.seq (T.region ?_))
  refine TO.quiet (q_move rfl) (TO.quiet (q_len Tryd.underlying71 rfl) (TO.quiet (q_gtr rfl rfl) ?_))
  refine TO.nil ?_
  refine T.condP rfl (fun hc => ?_) (fun hc => ?_)
  · have hlt30 : m > 0 := by omega
    refine T.skip (T.seq (T.block (T.seq ?_)))
    obtain ⟨q0, rest, rfl⟩ : ∃ q0 rest, rs = q0 :: rest := by
      cases rs with
      | nil => subst hm; exact absurd hc (by simp)
      | cons a l => exact ⟨a, l, rfl⟩
    obtain ⟨m, rfl⟩ : ∃ k, m = k + 1 := ⟨rest.length, hm⟩
    have hm : m = rest.length := by simpa using hm
    have hq0 : (shq a i)[i]? = some q0.stp := by
      have := congrArg List.head? hrs
      rw [List.head?_drop] at this
      simpa using this.symm
    have hmid := fun x (hx : x ≤ letN a) => sho_mid hv.toVal hj hq0 hx
    have hpd : q0.p = (q0.p.1, q0.p.1) := (hmid 0 (Nat.zero_le _)).2.1
    have hp1 : q0.p.1 < a.next.length := (hmid 0 (Nat.zero_le _)).2.2.1
    have hwl : q0.xs.length ≤ i := (hmid 0 (Nat.zero_le _)).2.2.2.1
    have hi9 := (hmid 0 (Nat.zero_le _)).2.2.2.2.1
    have hf1 : q0.p.1 < a.final.length := by omega
    obtain ⟨vb1, vc1, g1, s1⟩ := ha.rows.get hp1
    have hl1 : a.next[q0.p.1].length = 2 ^ a.vars.toNat := hv.len _ (List.getElem_mem hp1)
    refine T.region ?_
    refine TO.quiet (q_move rfl) (TO.quiet (q_ixK (i := 0) Tryd.underlying71 inf70 rfl rfl (rowO (List.mem_of_getElem? (i := 0) rfl)) (by omega) (by rw [rcells_len]; simp)) (TO.quiet (q_ldK (vs := [(.int .i64 ((q0.p.1 : Nat) : Int)), (.slice q0.b q0.xs.length q0.c)]) Tryd.underlying70 rfl inf70 rfl rfl (Nat.succ_pos _) (rowO (List.mem_of_getElem? (i := 0) rfl)) (by intro j hj; match j, hj with | 0, _ => rfl | 1, _ => rfl)) ?_))
    refine TO.loud rfl (l_alloc inf70 rfl (fun z4 => ?_))
    refine TO.loud rfl (l_store_box (v := (.agg #[(.int .i64 ((q0.p.1 : Nat) : Int)), (.slice q0.b q0.xs.length q0.c)])) (vs := [(.int .i64 ((q0.p.1 : Nat) : Int)), (.slice q0.b q0.xs.length q0.c)]) 0 inf70 rfl rfl rfl rfl rfl rfl (by simp [putL]) ?_)
    refine TO.nil (T.seq (T.seq (T.region ?_)))
    refine TO.quiet (q_fieldAddr Tryd.underlying25 rfl inf23 rfl rfl) (TO.quiet (q_load_box 3 Tryd.underlying23 rfl rfl rfl rfl) (TO.quiet (q_fieldAddr Tryd.underlying70 rfl inf3 rfl rfl) (TO.quiet (q_load_box 0 Tryd.underlying3 rfl rfl rfl rfl) ?_)))
    refine TO.quiet (q_ix (i := q0.p.1) Tryd.underlying23 inf4 rfl rfl (Sl.o ha.final) hf1 (by rw [List.length_map]; exact hf1)) (TO.quiet (q_ld Tryd.underlying4 rfl rfl (Sl.o ha.final) (bools_get hf1)) ?_)
    refine TO.nil ?_
    refine T.cond rfl (fun hc => ?_) (fun hc => ?_)
    · have hne : finN a q0.p.1 = true := by simpa [finN, hf1] using hc
      refine T.seq (T.region ?_)
      refine TO.quiet (q_fieldAddr Tryd.underlying70 rfl inf29 rfl rfl) (TO.quiet (q_load_box 0 Tryd.underlying29 rfl rfl rfl rfl) (TO.quiet (q_assign rfl) (TO.quiet (q_assign rfl) ?_)))
      refine TO.quiet (q_assign rfl) ?_
      refine TO.nil (T.ret (Res.drop ?_))
      refine Res.three (.slice q0.b q0.xs.length q0.c) (.bool true) (.int .i64 0) Tryd.results20 rfl rfl rfl ?_
      exact ⟨[QRec.itm 5 q0], (by show Sub _ ([oI z4 70 [(.int .i64 ((q0.p.1 : Nat) : Int)), (.slice q0.b q0.xs.length q0.c)], rowI qb qc 70 2 (rcells (q0 :: rest)), rowI (some ⟨z2, 0, none⟩) a.next.length 4 1 (bools (seenB a (shq a i))), oI z1 25 (dC a k)] ++ qitms 5 (q0 :: rest)); exact Sub.appL [oI z4 70 [(.int .i64 ((q0.p.1 : Nat) : Int)), (.slice q0.b q0.xs.length q0.c)], rowI qb qc 70 2 (rcells (q0 :: rest)), rowI (some ⟨z2, 0, none⟩) a.next.length 4 1 (bools (seenB a (shq a i))), oI z1 25 (dC a k)] (Sub.k Sub.z)), some q0.xs, ShR.least hv.toVal ⟨i, hj, q0.stp, hq0, hne, rfl⟩, q0.b, q0.c, rfl, rfl⟩
    have heq : finN a q0.p.1 = false := by simpa [finN, hf1] using hc
    refine T.skip (T.seq (T.region ?_))
    refine TO.quiet (q_fieldAddr Tryd.underlying25 rfl inf22 rfl rfl) (TO.quiet (q_load_box 3 Tryd.underlying22 rfl rfl rfl rfl) (TO.quiet (q_fieldAddr Tryd.underlying70 rfl inf3 rfl rfl) (TO.quiet (q_load_box 0 Tryd.underlying3 rfl rfl rfl rfl) ?_)))
    refine TO.quiet (q_ix (i := q0.p.1) Tryd.underlying22 inf41 rfl rfl (Sl.o ha.outer) hp1 (hvl ▸ hp1)) (TO.quiet (q_ld Tryd.underlying41 rfl rfl (Sl.o ha.outer) g1) (TO.quiet (q_len Tryd.underlying41 rfl) (TO.quiet (q_move rfl) ?_)))
    refine TO.nil (T.block ?_)
    refine T.sub (O' := ([rowI qb qc 70 2 (rcells (q0 :: rest)), rowI (some ⟨z2, 0, none⟩) a.next.length 4 1 (bools (seenB a (shq a i))), oI z4 70 [(.int .i64 ((q0.p.1 : Nat) : Int)), (.slice q0.b q0.xs.length q0.c)], oI z1 25 (dC a k)] ++ qitms 5 (q0 :: rest))) (Sub.pickR [1, 1, 0, 0] [oI z4 70 [(.int .i64 ((q0.p.1 : Nat) : Int)), (.slice q0.b q0.xs.length q0.c)], rowI qb qc 70 2 (rcells (q0 :: rest)), rowI (some ⟨z2, 0, none⟩) a.next.length 4 1 (bools (seenB a (shq a i))), oI z1 25 (dC a k)] (qitms 5 (q0 :: rest)) rfl rfl) ?_
    refine T.loop (fun (x : Nat) ρ O => ∃ (qb : Option Addr) (qc m : Nat) (rest : List QRec), O = ([rowI qb qc 70 2 (rcells (q0 :: rest)), rowI (some ⟨z2, 0, none⟩) a.next.length 4 1 (bools (seenB a (pushN a q0.stp (shq a i) x))), oI z4 70 [(.int .i64 ((q0.p.1 : Nat) : Int)), (.slice q0.b q0.xs.length q0.c)], oI z1 25 (dC a k)] ++ (qitms 5 (q0 :: rest))) ∧ x ≤ letN a ∧ m = rest.length ∧ (q0 :: rest).map QRec.stp = (pushN a q0.stp (shq a i) x).drop i ∧ Heads [(0, (dV a k)), (1, (.pointer (some ⟨z1, 0, none⟩))), (5, .int .i64 0), (6, (.slice (some ⟨z2, 0, none⟩) a.next.length a.next.length)), (7, (.slice qb (m + 1) qc)), (8, (.pointer (some ⟨z4, 0, none⟩))), (49, (.slice vb1 a.next[q0.p.1].length vc1)), (50, .int .i64 (a.next[q0.p.1].length : Int)), (51, .int .i64 ((x : Nat) : Int))] ρ) (fun x => letN a - x) 0 ?_ ?_
    · exact ⟨qb, qc, m, rest, rfl, Nat.zero_le _, hm, hrs, ⟨rfl, rfl, rfl, rfl, rfl, rfl, rfl, rfl, rfl, trivial⟩⟩
    rintro x ρ O ⟨qb, qc, m, rest, rfl, hx9, hm, hrs2, hH⟩
    obtain ⟨ρ0, rfl⟩ := hH.elim
    clear hH
    refine T.seq (T.region ?_)
    refine TO.quiet (q_lss rfl rfl) ?_
    refine TO.nil (T.seq ?_)
    refine T.condP rfl (fun hc => ?_) (fun hc => ?_)
    · have hlt52 : x < a.next[q0.p.1].length := by omega
      have hlx : x < letN a := by rw [hl1] at hlt52; exact hlt52
      refine T.skip (T.seq (T.block (T.seq ?_)))
      obtain ⟨hto, _, hxk1, hx1⟩ := hv.toN_lt hp1 hlx
      have hx1 : (ints a.next[q0.p.1])[x]? = some (.int .i64 ((toN a q0.p.1 x : Nat) : Int)) := by rw [ints_get hxk1, hx1]
      have hsd : suc2 a q0.p x = (toN a q0.p.1 x, toN a q0.p.1 x) := by rw [hpd]; rfl
      refine T.region ?_
      refine TO.quiet (q_move rfl) (TO.quiet (q_ix (i := x) Tryd.underlying41 inf3 rfl rfl (Sl.o s1) hlt52 (by rw [List.length_map]; exact hlt52)) (TO.quiet (q_ld Tryd.underlying3 rfl rfl (Sl.o s1) hx1) (TO.quiet (q_assign rfl) ?_)))
      refine TO.quiet (q_assign rfl) ?_
      refine TO.nil (T.seq (T.region ?_))
      refine TO.quiet (q_move rfl) (TO.quiet (q_move rfl) (TO.quiet (q_ix (i := (toN a q0.p.1 x)) Tryd.underlying23 inf4 rfl rfl (rowO (List.mem_of_getElem? (i := 1) rfl)) hto (by rw [List.length_map, seenB_len]; exact hto)) (TO.quiet (q_ld Tryd.underlying4 rfl rfl (rowO (List.mem_of_getElem? (i := 1) rfl)) (seenB_at hto)) ?_)))
      refine TO.quiet (QT.cast (q_not rfl) (v' := .bool (decide (¬ suc2 a q0.p x ∈ (pushN a q0.stp (shq a i) x).map Prod.fst))) (by rw [hsd]; simp)) ?_
      refine TO.nil ?_
      refine T.condP rfl (fun hc => ?_) (fun hc => ?_)
      · have hin : ¬ suc2 a q0.p x ∈ (pushN a q0.stp (shq a i) x).map Prod.fst := hc
        have hsc := fun w => show bools (seenB a ((pushN a q0.stp (shq a i) x) ++ [(suc2 a q0.p x, w)])) = bools (seenB a ((pushN a q0.stp (shq a i) x) ++ [(suc2 a q0.p x, w)])) from rfl
        have hrl : rest.length + 1 ≤ a.next.length := by
          have := congrArg List.length hrs2
          simp at this
          have := (hmid x hx9).1
          omega
        have hil := (hmid x hx9).2.2.2.2.2
        refine T.seq (T.region ?_)
        refine TO.quiet (q_move rfl) (TO.quiet (q_move rfl) (TO.quiet (q_ix (i := (toN a q0.p.1 x)) Tryd.underlying23 inf4 rfl rfl (rowO (List.mem_of_getElem? (i := 1) rfl)) hto (by rw [List.length_map, seenB_len]; exact hto)) ?_))
        refine TO.loud rfl (l_st (j := (toN a q0.p.1 x)) (v := .bool true) (vs := [(.bool true)]) (cs := bools (seenB a (pushN a q0.stp (shq a i) x))) 1 inf4 rfl rfl rfl rfl rfl (by simp) rfl (by rw [List.length_map, seenB_len]; simp; omega) ?_)
        refine TO.sub (O' := ([rowI qb qc 70 2 (rcells (q0 :: rest)), rowI (some ⟨z2, 0, none⟩) a.next.length 4 1 (bools (seenB a ((pushN a q0.stp (shq a i) x) ++ [(suc2 a q0.p x, q0.xs ++ [x])]))), oI z4 70 [(.int .i64 ((q0.p.1 : Nat) : Int)), (.slice q0.b q0.xs.length q0.c)], oI z1 25 (dC a k)] ++ (qitms 5 (q0 :: rest)))) (by rw [show putL (bools (seenB a (pushN a q0.stp (shq a i) x))) (toN a q0.p.1 x) [(.bool true)] = bools (seenB a ((pushN a q0.stp (shq a i) x) ++ [(suc2 a q0.p x, q0.xs ++ [x])])) from (by rw [hsd]; exact seenB_put _ hto)]; exact Sub.of (List.Sublist.refl _)) ?_
        refine TO.nil (T.region ?_)
        refine TO.quiet (q_move rfl) (TO.quiet (q_move rfl) (TO.quiet (q_fieldAddr Tryd.underlying70 rfl inf29 rfl rfl) (TO.quiet (q_load_box 2 Tryd.underlying29 rfl rfl rfl rfl) ?_)))
        have hk68 := fun (w1 : World) (hI : Inv w ([rowI qb qc 70 2 (rcells (q0 :: rest)), rowI (some ⟨z2, 0, none⟩) a.next.length 4 1 (bools (seenB a ((pushN a q0.stp (shq a i) x) ++ [(suc2 a q0.p x, q0.xs ++ [x])]))), oI z4 70 [(.int .i64 ((q0.p.1 : Nat) : Int)), (.slice q0.b q0.xs.length q0.c)], oI z1 25 (dC a k)] ++ (qitms 5 (q0 :: rest))) w1) => (haveI := Inv.tab (P := Tryd.prog) hI; cloneC w1 q0.b q0.c q0.xs (hI.slOf (T := 5) (k := 1) (List.mem_append_right _ List.mem_cons_self)) (by omega))
        refine TO.loud rfl (l_call ent44 (CallT.of_pure hk68) rfl ?_)
        clear hk68
        rintro vr O' ⟨N, rfl, wb, wc, rfl, rfl⟩
        refine TO.quiet (q_move rfl) (TO.quiet (q_conv_id Tryd.underlying3 Tryd.underlying5 rfl (wrap8 (by omega))) ?_)
        refine TO.loud rfl (l_build1 (v := .int .u8 ((x : Nat) : Int)) Tryd.underlying29 inf5 rfl rfl rfl (fun z5 => ?_))
        refine TO.loud rfl (l_append 1 Tryd.underlying29 Tryd.underlying29 inf5 rfl rfl rfl rfl (by rw [List.length_map, Nat.mul_one]) (by decide) (Src.row (j := 0) rfl (by simp)) (by simp [oneB]) (by omega) (by decide) (by decide) (fun z6 zc7 => ?_))
        refine TO.quiet (q_build (cs := [.int .i64 ((toN a q0.p.1 x : Nat) : Int), (.slice z6 (q0.xs.length + 1) zc7)]) plan70 inf70 (by kernel_rfl)) ?_
        refine TO.loud rfl (l_buildSlice (m := 1) (parts := [(0, _)]) (cs := [.int .i64 ((toN a q0.p.1 x : Nat) : Int), (.slice z6 (q0.xs.length + 1) zc7)]) Tryd.underlying71 inf70 (by decide) (by kernel_rfl) rfl (fun z8 => ?_))
        refine TO.loud rfl (l_append 3 Tryd.underlying71 Tryd.underlying71 inf70 rfl rfl rfl rfl (by rw [rcells_len, hm]; rfl) (by decide) (Src.row (j := 0) rfl (by simp)) (by simp [oneB]) (by omega) (by decide) (by decide) (fun z9 zc10 => ?_))
        refine TO.quiet (q_assign rfl) ?_
        refine TO.nil ?_
        obtain ⟨wb2, hwb2⟩ : ∃ z, z = z6 := ⟨_, rfl⟩
        obtain ⟨wc2, hwc2⟩ : ∃ z, z = zc7 := ⟨_, rfl⟩
        refine T.sub (O' := ([rowI z9 zc10 70 2 ((rcells (q0 :: rest)) ++ [.int .i64 ((toN a q0.p.1 x : Nat) : Int), (.slice z6 (q0.xs.length + 1) zc7)]), rowI (some ⟨z2, 0, none⟩) a.next.length 4 1 (bools (seenB a ((pushN a q0.stp (shq a i) x) ++ [(suc2 a q0.p x, q0.xs ++ [x])]))), oI z4 70 [(.int .i64 ((q0.p.1 : Nat) : Int)), (.slice q0.b q0.xs.length q0.c)], oI z1 25 (dC a k), rowI z6 zc7 5 1 ((byts q0.xs) ++ [.int .u8 ((x : Nat) : Int)])] ++ qitms 5 (q0 :: rest))) (Sub.pickR [3, 3, 3, 3, 2] [rowI (some ⟨z8, 0, none⟩) 1 70 2 [.int .i64 ((toN a q0.p.1 x : Nat) : Int), (.slice z6 (q0.xs.length + 1) zc7)], rowI (some ⟨z5, 0, none⟩) 1 5 1 [.int .u8 ((x : Nat) : Int)], rowI z6 zc7 5 1 ((byts q0.xs) ++ [.int .u8 ((x : Nat) : Int)]), rowI z9 zc10 70 2 ((rcells (q0 :: rest)) ++ [.int .i64 ((toN a q0.p.1 x : Nat) : Int), (.slice z6 (q0.xs.length + 1) zc7)]), rowI (some ⟨z2, 0, none⟩) a.next.length 4 1 (bools (seenB a ((pushN a q0.stp (shq a i) x) ++ [(suc2 a q0.p x, q0.xs ++ [x])]))), oI z4 70 [(.int .i64 ((q0.p.1 : Nat) : Int)), (.slice q0.b q0.xs.length q0.c)], oI z1 25 (dC a k)] (qitms 5 (q0 :: rest)) rfl rfl) ?_
        refine T.sub (O' := ([rowI z9 zc10 70 2 ((rcells (q0 :: rest)) ++ [.int .i64 ((toN a q0.p.1 x : Nat) : Int), (.slice z6 (q0.xs.length + 1) zc7)]), rowI (some ⟨z2, 0, none⟩) a.next.length 4 1 (bools (seenB a ((pushN a q0.stp (shq a i) x) ++ [(suc2 a q0.p x, q0.xs ++ [x])]))), oI z4 70 [(.int .i64 ((q0.p.1 : Nat) : Int)), (.slice q0.b q0.xs.length q0.c)], oI z1 25 (dC a k)] ++ qitms 5 (q0 :: (rest ++ [⟨suc2 a q0.p x, wb2, wc2, q0.xs ++ [x]⟩])))) (by rw [show qitms 5 (q0 :: (rest ++ [⟨suc2 a q0.p x, wb2, wc2, q0.xs ++ [x]⟩])) = qitms 5 (q0 :: rest) ++ [rowI z6 zc7 5 1 ((byts q0.xs) ++ [.int .u8 ((x : Nat) : Int)])] by subst hwb2; subst hwc2; simp [QRec.itm]]; exact Sub.foldN [rowI z9 zc10 70 2 ((rcells (q0 :: rest)) ++ [.int .i64 ((toN a q0.p.1 x : Nat) : Int), (.slice z6 (q0.xs.length + 1) zc7)]), rowI (some ⟨z2, 0, none⟩) a.next.length 4 1 (bools (seenB a ((pushN a q0.stp (shq a i) x) ++ [(suc2 a q0.p x, q0.xs ++ [x])]))), oI z4 70 [(.int .i64 ((q0.p.1 : Nat) : Int)), (.slice q0.b q0.xs.length q0.c)], oI z1 25 (dC a k)] (rowI z6 zc7 5 1 ((byts q0.xs) ++ [.int .u8 ((x : Nat) : Int)])) (qitms 5 (q0 :: rest)) _ rfl) ?_
        refine T.region ?_
        refine TO.quiet (q_addN (a := x) (b := 1) rfl rfl (by omega)) (TO.quiet (q_move rfl) ?_)
        refine TO.nil ?_
        have hA : pushN a q0.stp (shq a i) (x + 1) = (pushN a q0.stp (shq a i) x) ++ [(suc2 a q0.p x, q0.xs ++ [x])] := by
          show pushS a q0.stp _ x = _
          unfold pushS
          exact if_neg hin
        refine ⟨x + 1, by omega, z9, zc10, m + 1, rest ++ [⟨suc2 a q0.p x, wb2, wc2, q0.xs ++ [x]⟩], ?_, by omega, by simp [hm], ?_, ⟨rfl, rfl, rfl, rfl, rfl, rfl, rfl, rfl, rfl, trivial⟩⟩
        · rw [hA, hsc, show rcells (q0 :: (rest ++ [⟨suc2 a q0.p x, wb2, wc2, q0.xs ++ [x]⟩])) = rcells (q0 :: rest) ++ [(.int .i64 ((toN a q0.p.1 x : Nat) : Int)), (.slice wb2 (q0.xs.length + 1) wc2)] by simp [QRec.cel, suc2]]; subst hwb2; subst hwc2; rfl
        · rw [hA, List.drop_append_of_le_length (by omega), ← hrs2]; simp [QRec.stp]
      have hin : suc2 a q0.p x ∈ (pushN a q0.stp (shq a i) x).map Prod.fst := Classical.not_not.1 hc
      have hil := (hmid x hx9).2.2.2.2.2
      refine T.skip (T.region ?_)
      refine TO.quiet (q_addN (a := x) (b := 1) rfl rfl (by omega)) (TO.quiet (q_move rfl) ?_)
      refine TO.nil ?_
      have hA : pushN a q0.stp (shq a i) (x + 1) = (pushN a q0.stp (shq a i) x) := by
        show pushS a q0.stp _ x = _
        unfold pushS
        exact if_pos hin
      refine ⟨x + 1, by omega, qb, qc, m, rest, by rw [hA], by omega, hm, by rw [hA]; exact hrs2, ⟨rfl, rfl, rfl, rfl, rfl, rfl, rfl, rfl, rfl, trivial⟩⟩
    have hge52 : ¬ x < a.next[q0.p.1].length := by omega
    refine T.exit ?_
    refine T.region ?_
    refine TO.quiet (q_move rfl) ?_
    refine TO.loud rfl (l_tail 0 Tryd.underlying71 inf70 (by decide) rfl rfl rfl (by rw [rcells_len, hm]; rfl) (by omega) (fun z11 => ?_))
    refine TO.quiet (q_assign rfl) ?_
    refine TO.sub (O' := ([rowI z11 (qc - 1) 70 2 (rcells rest), rowI (some ⟨z2, 0, none⟩) a.next.length 4 1 (bools (seenB a (pushN a q0.stp (shq a i) x))), oI z1 25 (dC a k)] ++ qitms 5 (q0 :: rest))) (Sub.pickR [0, 0, 1] [rowI z11 (qc - 1) 70 2 (rcells rest), rowI (some ⟨z2, 0, none⟩) a.next.length 4 1 (bools (seenB a (pushN a q0.stp (shq a i) x))), oI z4 70 [(.int .i64 ((q0.p.1 : Nat) : Int)), (.slice q0.b q0.xs.length q0.c)], oI z1 25 (dC a k)] (qitms 5 (q0 :: rest)) rfl rfl) ?_
    refine TO.sub (O' := ([rowI z11 (qc - 1) 70 2 (rcells rest), rowI (some ⟨z2, 0, none⟩) a.next.length 4 1 (bools (seenB a (pushN a q0.stp (shq a i) x))), oI z1 25 (dC a k)] ++ qitms 5 rest)) (by exact Sub.k (Sub.k (Sub.k (Sub.d Sub.rf)))) ?_
    refine TO.nil ?_
    have hxe : x = letN a := Nat.le_antisymm hx9 (by rw [hl1] at hge52; exact Nat.le_of_not_lt hge52)
    have hbq : pushN a q0.stp (shq a i) x = shq a (i + 1) := by rw [hxe]; exact (bq_succ hq0).symm
    refine ⟨i + 1, by omega, z11, qc - 1, m, rest, by rw [hbq], hm, ?_, ?_, ⟨rfl, rfl, rfl, rfl, rfl, trivial⟩⟩
    · rw [← hbq]; have := congrArg List.tail hrs2; simpa [List.tail_drop] using this
    · intro j hj9
      by_cases e : j = i
      · subst e; exact ⟨q0.stp, hq0, heq⟩
      · exact hj j (by omega)
  have hge30 : ¬ m > 0 := by omega
  refine T.exit ?_
  refine T.seq (T.region ?_)
  refine TO.quiet (q_assign rfl) (TO.quiet (q_assign rfl) (TO.quiet (q_assign rfl) ?_))
  refine TO.nil (T.ret (Res.drop ?_))
  refine Res.three (.slice none 0 0) (.bool false) (.int .i64 0) Tryd.results20 rfl rfl rfl ?_
  have hend : (shq a i).length ≤ i := by
    have := congrArg List.length hrs
    simp at this
    omega
  exact ⟨[], Sub.z, none, ShR.least hv.toVal (res := none) ⟨i, hj, hend⟩, rfl, rfl⟩
end Go.Proofs.YtnmfefmhfkhihaaDoor


namespace Go.Proofs.YtnmfefmhfkhihaaDoor
open Go.Lx Go.RowKit
set_option linter.unusedVariables false
set_option linter.unusedSimpArgs false
theorem shoC (w : World) [Tab Tryd.prog w] (a : DFA) (k : DK) (ha : At w a k) (haa : a.next.length < 9223372036854775807) (haar : ∀ r ∈ a.next, r.length < 9223372036854775807) (haaf : a.final.length < 9223372036854775807) :
    PureT Tryd.prog 20 [dV a k] w fun v N => ∃ res wb wc, (checkD a = 0 → LeastA a res) ∧ (checkD a ≠ 0 → res = none) ∧ v = .tuple #[.slice wb (res.getD []).length wc, .bool res.isSome, .int .i64 (checkD a : Int)] ∧ N = [rowI wb wc 5 1 (byts (res.getD []))] := by
  by_cases he : checkD a ≠ 0
  · refine (CallT.nilOr 5 1 (shoBad w a k ha haa haar haaf he)).mono ?_
    rintro v N ⟨O2, hN, h1, h2⟩
    exact ⟨none, none, 0, fun h => absurd h he, fun _ => rfl, h1, hN.2 h2⟩
  · have h0 : checkD a = 0 := by omega
    refine (CallT.nilOr 5 1 (shoOk w a k ha (checkD_zero.1 h0))).mono ?_
    rintro v N ⟨O2, hN, res, hL, hV⟩
    rw [h0]
    cases res with
    | none => exact ⟨none, none, 0, fun _ => hL, fun _ => rfl, hV.1, hN.2 hV.2⟩
    | some u =>
      obtain ⟨b, c, h1, h2⟩ := hV
      exact ⟨some u, b, c, fun _ => hL, fun h => absurd rfl h, h1, (hN.1 (by rw [h2]; simp)).trans h2⟩
end Go.Proofs.YtnmfefmhfkhihaaDoor


namespace Go.Proofs.YtnmfefmhfkhihaaDoor
open Go.Lx Go.RowKit
set_option linter.unusedVariables false
set_option linter.unusedSimpArgs false
end Go.Proofs.YtnmfefmhfkhihaaDoor


namespace Go.Proofs.YtnmfefmhfkhihaaDoor
open Go.Lx Go.RowKit
set_option linter.unusedVariables false
set_option linter.unusedSimpArgs false
end Go.Proofs.YtnmfefmhfkhihaaDoor

