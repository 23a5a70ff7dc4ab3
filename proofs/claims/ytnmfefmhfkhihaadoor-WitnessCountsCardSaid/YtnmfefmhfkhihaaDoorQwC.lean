/- Contracts of functions of the program (QwC): what each call answers and that it leaves memory as it was. Conditions: those each theorem names. -/
import Derived.Test.YtnmfefmhfkhihaaDoorCoreK
import Derived.Test.YtnmfefmhfkhihaaDoorEnd
import Derived.Test.YtnmfefmhfkhihaaDoorWtQ
import Derived.Test.YtnmfefmhfkhihaaDoorW2
set_option linter.unusedSectionVars false
set_option linter.unusedSimpArgs false
set_option linter.unusedVariables false
set_option linter.unnecessarySimpa false
namespace Go.Proofs.YtnmfefmhfkhihaaDoor
open Go.Lx Go.RowKit
set_option linter.unusedVariables false
set_option linter.unusedSimpArgs false
set_option maxHeartbeats 8000000 in
set_option maxRecDepth 20000 in
theorem countsW (w : World) [Tab Tryd.prog w] (a : DFA) (k : DK) (ha : At w a k) (haa : a.next.length < 9223372036854775807) (haar : ∀ r ∈ a.next, r.length < 9223372036854775807) (haaf : a.final.length < 9223372036854775807) (n : Int) :
    PureT Tryd.prog 8 [dV a k, .int .i64 n] w fun v N => v = .bool true ∧ N = [] := by
  refine CallT.enter Tryd.func8 rfl Tryd.ntmps8 rfl ?_
  refine T.seq (T.region ?_)
  refine TO.loud rfl (l_box (v := (dV a k)) (cs := (dC a k)) rfl rfl (fun z1 => ?_))
  refine TO.quiet (q_assign rfl) ?_
  refine TO.nil (T.seq (T.seq (T.region ?_)))
  refine TO.quiet (q_load_boxAgg 0 Tryd.underlying25 rfl inf25 rfl rfl rfl) ?_
  have hk24 := fun (w1 : World) (hI : Inv w [oI z1 25 (dC a k)] w1) => (haveI := Inv.tab (P := Tryd.prog) hI; longK w1 a k (hI.atB ha) haa)
  refine TO.loud rfl (l_call ent10 (CallT.of_pure hk24) rfl ?_)
  clear hk24
  rintro vr O' ⟨N, rfl, rfl, rfl⟩
  by_cases hs25 : longD a = true ∨ 12 < a.next.length
  · refine TO.quiet (QT.toB (q_move rfl) (decide_eq_true hs25)) ?_
    refine TO.passed rfl rfl ?_
    refine TO.passed rfl rfl ?_
    refine TO.quiet (q_pick1 rfl rfl) (TO.quiet (q_move rfl) ?_)
    refine TO.passed rfl rfl ?_
    refine TO.passed rfl rfl ?_
    refine TO.passed rfl rfl ?_
    refine TO.quiet (q_pick1 rfl rfl) (TO.quiet (q_move rfl) ?_)
    refine TO.passed rfl rfl ?_
    refine TO.passed rfl rfl ?_
    refine TO.quiet (q_pick1 rfl rfl) (TO.quiet (q_move rfl) ?_)
    refine TO.passed rfl rfl ?_
    refine TO.passed rfl rfl ?_
    refine TO.quiet (q_pick1 rfl rfl) ?_
    refine TO.nil ?_
    refine T.cond1 rfl ?_
    refine T.seq (T.region ?_)
    have hk42 := fun (w1 : World) (hI : Inv w [oI z1 25 (dC a k)] w1) => (haveI := Inv.tab (P := Tryd.prog) hI; awakeC w1)
    refine TO.loud rfl (l_call ent11 (CallT.of_pure hk42) rfl ?_)
    clear hk42
    rintro vr O' ⟨N, rfl, rfl, rfl⟩
    refine TO.quiet (q_assign rfl) ?_
    refine TO.nil (T.ret (Res.drop ?_))
    refine Res.one (.bool true) Tryd.results8 rfl ?_
    exact ⟨[], Sub.z, rfl, rfl⟩
  refine TO.quiet (QT.toB (q_move rfl) (decide_eq_false hs25)) ?_
  have hk26 := fun (w1 : World) (hI : Inv w [oI z1 25 (dC a k)] w1) => (haveI := Inv.tab (P := Tryd.prog) hI; awakeC w1)
  refine TO.guarded rfl rfl rfl (l_call ent11 (CallT.of_pure hk26) rfl ?_)
  clear hk26
  rintro vr O' ⟨N, rfl, rfl, rfl⟩
  refine TO.guarded rfl rfl rfl (LT.of_quiet rfl rfl (q_not rfl) ?_)
  refine TO.quiet (q_pick0 rfl rfl) (TO.quiet (q_move rfl) ?_)
  refine TO.guarded rfl rfl rfl (LT.of_quiet rfl rfl (q_load_boxAgg 0 Tryd.underlying25 rfl inf25 rfl rfl rfl) ?_)
  have hk31 := fun (w1 : World) (hI : Inv w [oI z1 25 (dC a k)] w1) => (haveI := Inv.tab (P := Tryd.prog) hI; subsetCheck w1 a k.nb k.fb k.nc k.fc (vals k.qs) (hI.dfa ha) haa haar haaf)
  refine TO.guarded rfl rfl rfl (l_call ent33 (CallT.of_pure hk31) rfl ?_)
  clear hk31
  rintro vr O' ⟨N, rfl, rfl, rfl⟩
  refine TO.guarded rfl rfl rfl (LT.of_quiet rfl rfl (q_neq rfl rfl) ?_)
  refine TO.quiet (q_pick0 rfl rfl) ?_
  by_cases hs34 : (checkD a : Int) ≠ 0
  · refine TO.quiet (QT.toB (q_move rfl) (decide_eq_true hs34)) ?_
    refine TO.passed rfl rfl ?_
    refine TO.passed rfl rfl ?_
    refine TO.quiet (q_pick1 rfl rfl) (TO.quiet (q_move rfl) ?_)
    refine TO.passed rfl rfl ?_
    refine TO.passed rfl rfl ?_
    refine TO.quiet (q_pick1 rfl rfl) ?_
    refine TO.nil ?_
    refine T.cond1 rfl ?_
    refine T.seq (T.region ?_)
    have hk42 := fun (w1 : World) (hI : Inv w [oI z1 25 (dC a k)] w1) => (haveI := Inv.tab (P := Tryd.prog) hI; awakeC w1)
    refine TO.loud rfl (l_call ent11 (CallT.of_pure hk42) rfl ?_)
    clear hk42
    rintro vr O' ⟨N, rfl, rfl, rfl⟩
    refine TO.quiet (q_assign rfl) ?_
    refine TO.nil (T.ret (Res.drop ?_))
    refine Res.one (.bool true) Tryd.results8 rfl ?_
    exact ⟨[], Sub.z, rfl, rfl⟩
  refine TO.quiet (QT.toB (q_move rfl) (decide_eq_false hs34)) ?_
  refine TO.guarded rfl rfl rfl (LT.of_quiet rfl rfl (q_move rfl) ?_)
  refine TO.guarded rfl rfl rfl (LT.of_quiet rfl rfl (q_lss rfl rfl) ?_)
  refine TO.quiet (q_pick0 rfl rfl) ?_
  by_cases hs38 : n < 0
  · refine TO.quiet (QT.toB (q_move rfl) (decide_eq_true hs38)) ?_
    refine TO.passed rfl rfl ?_
    refine TO.passed rfl rfl ?_
    refine TO.quiet (q_pick1 rfl rfl) ?_
    refine TO.nil ?_
    refine T.cond1 rfl ?_
    refine T.seq (T.region ?_)
    have hk42 := fun (w1 : World) (hI : Inv w [oI z1 25 (dC a k)] w1) => (haveI := Inv.tab (P := Tryd.prog) hI; awakeC w1)
    refine TO.loud rfl (l_call ent11 (CallT.of_pure hk42) rfl ?_)
    clear hk42
    rintro vr O' ⟨N, rfl, rfl, rfl⟩
    refine TO.quiet (q_assign rfl) ?_
    refine TO.nil (T.ret (Res.drop ?_))
    refine Res.one (.bool true) Tryd.results8 rfl ?_
    exact ⟨[], Sub.z, rfl, rfl⟩
  refine TO.quiet (QT.toB (q_move rfl) (decide_eq_false hs38)) ?_
  refine TO.guarded rfl rfl rfl (LT.of_quiet rfl rfl (q_move rfl) ?_)
  refine TO.guarded rfl rfl rfl (LT.of_quiet rfl rfl (q_gtr rfl rfl) ?_)
  refine TO.quiet (q_pick0 rfl rfl) ?_
  refine TO.nil ?_
  refine T.condP rfl (fun hc => ?_) (fun hc => ?_)
  · refine T.seq ?_
    refine T.region ?_
    have hk42 := fun (w1 : World) (hI : Inv w [oI z1 25 (dC a k)] w1) => (haveI := Inv.tab (P := Tryd.prog) hI; awakeC w1)
    refine TO.loud rfl (l_call ent11 (CallT.of_pure hk42) rfl ?_)
    clear hk42
    rintro vr O' ⟨N, rfl, rfl, rfl⟩
    refine TO.quiet (q_assign rfl) ?_
    refine TO.nil (T.ret (Res.drop ?_))
    refine Res.one (.bool true) Tryd.results8 rfl ?_
    exact ⟨[], Sub.z, rfl, rfl⟩
  refine T.skip (T.seq ?_)
  have sm : Sm a := Sm.of (fun h => hs25 (.inl h)) (by have := fun h => hs25 (.inr h); omega)
  have hn12 := sm.n12
  have hf40 := sm.f40
  have he0 : checkD a = 0 := by omega
  obtain ⟨m, hm⟩ : ∃ m : Nat, n = (m : Int) := ⟨n.toNat, by omega⟩
  have hm64 : m ≤ 64 := by omega
  have hv9 : Valid a := checkD_zero.1 he0
  have hv0 := hv9.v0
  have hv6 := hv9.v6
  obtain ⟨M, eM⟩ : ∃ M, M = opV notB a a := ⟨_, rfl⟩
  have hM : NotOf a M := eM ▸ not_of hv9 hn12
  have hM0 : checkD M = 0 := checkD_zero.2 hM.valid
  have bM := bd_valid hM.valid
  refine T.region ?_
  refine TO.quiet (q_load_boxAgg 0 Tryd.underlying25 rfl inf25 rfl rfl rfl) ?_
  have hk45 := fun (w1 : World) (hI : Inv w [oI z1 25 (dC a k)] w1) => (haveI := Inv.tab (P := Tryd.prog) hI; (show PureT _ _ _ _ _ from by
      have h9 := notC w1 a k (hI.atB ha) haa haar haaf
      rw [← eM, he0] at h9
      exact h9))
  refine TO.loud rfl (l_call ent36 (CallT.of_pure hk45) rfl ?_)
  clear hk45
  rintro vr O' ⟨N, rfl, k2, rfl, rfl⟩
  refine TO.quiet (q_move rfl) (TO.quiet (q_extract (vs := _) rfl rfl) (TO.quiet (q_extract (vs := _) rfl rfl) ?_))
  refine TO.loud rfl (l_alloc inf25 rfl (fun z2 => ?_))
  refine TO.loud rfl (l_store_box (v := (dV M k2)) (vs := (dC M k2)) 0 inf25 rfl rfl rfl rfl rfl rfl (by simp [putL]) ?_)
  refine TO.quiet (q_assign rfl) ?_
  refine TO.nil (T.seq (T.region ?_))
  refine TO.quiet (q_load_boxAgg 2 Tryd.underlying25 rfl inf25 rfl rfl rfl) (TO.quiet (q_move rfl) ?_)
  have hk51 := fun (w1 : World) (hI : Inv w [oI z2 25 (dC M k2), dI 41 4 3 M k2, oI z1 25 (dC a k)] w1) => (haveI := Inv.tab (P := Tryd.prog) hI; (show PureT _ _ _ _ _ from by
      have h9 := countC w1 a k (hI.atB ha) haa haar haaf n
      rw [cntV_ok he0 hm (by omega), cntE_ok he0 hm (by omega)] at h9
      exact h9))
  refine TO.loud rfl (l_call ent22 (CallT.of_pure hk51) rfl ?_)
  clear hk51
  rintro vr O' ⟨N, rfl, rfl, rfl⟩
  refine TO.quiet (q_move rfl) (TO.quiet (q_extract (vs := _) rfl rfl) (TO.quiet (q_extract (vs := _) rfl rfl) (TO.quiet (q_assign rfl) ?_)))
  refine TO.quiet (q_assign rfl) ?_
  refine TO.nil (T.seq (T.region ?_))
  refine TO.quiet (q_load_boxAgg 0 Tryd.underlying25 rfl inf25 rfl rfl rfl) (TO.quiet (q_move rfl) ?_)
  have hk57 := fun (w1 : World) (hI : Inv w [oI z2 25 (dC M k2), dI 41 4 3 M k2, oI z1 25 (dC a k)] w1) => (haveI := Inv.tab (P := Tryd.prog) hI; (show PureT _ _ _ _ _ from by
      have h9 := countC w1 M k2 (hI.at (k := k2) (List.mem_of_getElem? (i := 1) rfl)) bM.1 bM.2.1 bM.2.2 n
      rw [cntV_ok hM0 hm (by omega), cntE_ok hM0 hm (by omega)] at h9
      exact h9))
  refine TO.loud rfl (l_call ent22 (CallT.of_pure hk57) rfl ?_)
  clear hk57
  rintro vr O' ⟨N, rfl, rfl, rfl⟩
  refine TO.quiet (q_move rfl) (TO.quiet (q_extract (vs := _) rfl rfl) (TO.quiet (q_extract (vs := _) rfl rfl) (TO.quiet (q_assign rfl) ?_)))
  refine TO.quiet (q_assign rfl) ?_
  refine TO.nil (T.seq (T.region ?_))
  refine TO.quiet (q_assign rfl) ?_
  refine TO.nil (T.seq (T.seq (T.region ?_)))
  refine TO.quiet (q_assign rfl) ?_
  refine TO.nil (T.block ?_)
  refine T.loop (fun (i : Nat) ρ O => O = [oI z2 25 (dC M k2), dI 41 4 3 M k2, oI z1 25 (dC a k)] ∧ i ≤ m ∧ Heads [(0, (dV a k)), (1, .int .i64 n), (2, (.pointer (some ⟨z1, 0, none⟩))), (4, .bool false), (5, (.pointer (some ⟨z2, 0, none⟩))), (6, .int .i64 0), (7, .int .u64 ((cntN a m a.start.toNat % 18446744073709551616 : Nat) : Int)), (8, .int .i64 0), (9, .int .u64 ((cntN M m M.start.toNat % 18446744073709551616 : Nat) : Int)), (10, .int .i64 0), (11, .int .u64 ((letN a ^ i % 18446744073709551616 : Nat) : Int)), (12, .int .i64 ((i : Nat) : Int))] ρ) (fun i => m - i) 0 ?_ ?_
  · exact ⟨rfl, Nat.zero_le _, ⟨rfl, rfl, rfl, rfl, rfl, rfl, rfl, rfl, rfl, rfl, rfl, rfl, trivial⟩⟩
  rintro i ρ O ⟨rfl, hi, hH⟩
  obtain ⟨ρ0, rfl⟩ := hH.elim
  clear hH
  refine T.seq (T.seq (T.region ?_))
  refine TO.quiet (q_move rfl) (TO.quiet (q_move rfl) (TO.quiet (q_lss rfl rfl) ?_))
  refine TO.nil ?_
  refine T.condP rfl (fun hc => ?_) (fun hc => ?_)
  · refine T.skip ?_
    refine T.seq (T.block (T.region ?_))
    refine TO.quiet (q_move rfl) (TO.quiet (q_fieldAddr Tryd.underlying25 rfl inf3 rfl rfl) (TO.quiet (q_load_box 2 Tryd.underlying3 rfl rfl rfl rfl) (TO.quiet (q_conv_id Tryd.underlying3 Tryd.underlying58 rfl (show IntKind.u64.wrap a.vars = a.vars by unfold IntKind.wrap; simp [IntKind.bits, IntKind.signed]; omega)) ?_)))
    refine TO.quiet (q_shlM (b := a.vars.toNat) rfl (by show Value.int _ a.vars = _; rw [Int.toNat_of_nonneg hv0]) (by omega)) (TO.quiet (q_assign rfl) ?_)
    refine TO.nil (T.region ?_)
    refine TO.quiet (q_move rfl) (TO.quiet (q_addN (a := i) (b := 1) rfl rfl (by omega)) (TO.quiet (q_assign rfl) ?_))
    refine TO.nil ?_
    exact ⟨i + 1, by omega, rfl, by omega, ⟨rfl, rfl, rfl, rfl, rfl, rfl, rfl, rfl, rfl, rfl, (congrArg (fun n : Nat => Value.int .u64 (n : Int)) (pow_mod rfl)), rfl, trivial⟩⟩
  refine T.exit ?_
  refine T.seq (T.seq ?_)
  have him : i = m := by omega
  refine T.region ?_
  refine TO.quiet (q_move rfl) (TO.quiet (QT.toB (q_neq rfl rfl) (decide_eq_false (fun h => h rfl))) (TO.quiet (q_move rfl) ?_))
  refine TO.guarded rfl rfl rfl (LT.of_quiet rfl rfl (q_move rfl) ?_)
  refine TO.guarded rfl rfl rfl (LT.of_quiet rfl rfl (QT.toB (q_neq rfl rfl) (decide_eq_false (fun h => h rfl))) ?_)
  refine TO.quiet (q_pick0 rfl rfl) (TO.quiet (q_move rfl) ?_)
  refine TO.guarded rfl rfl rfl (LT.of_quiet rfl rfl (q_move rfl) ?_)
  refine TO.guarded rfl rfl rfl (LT.of_quiet rfl rfl (QT.toB (q_neq rfl rfl) (decide_eq_false (fun h => h rfl))) ?_)
  refine TO.quiet (q_pick0 rfl rfl) (TO.quiet (q_move rfl) ?_)
  refine TO.guarded rfl rfl rfl (LT.of_quiet rfl rfl (q_move rfl) ?_)
  refine TO.guarded rfl rfl rfl (LT.of_quiet rfl rfl (q_move rfl) ?_)
  refine TO.guarded rfl rfl rfl (LT.of_quiet rfl rfl (q_addM rfl rfl) ?_)
  refine TO.guarded rfl rfl rfl (LT.of_quiet rfl rfl (q_move rfl) ?_)
  refine TO.guarded rfl rfl rfl (LT.of_quiet rfl rfl (QT.toB (q_neq rfl rfl) (decide_eq_false (fun h9 => h9 (congrArg (fun n : Nat => (n : Int)) ((sum_mod (not_count (checkD_zero.1 he0) hM m)).trans (by rw [him])))))) ?_)
  refine TO.quiet (q_pick0 rfl rfl) ?_
  refine TO.nil ?_
  refine T.cond0 rfl ?_
  refine T.skip (T.seq (T.region ?_))
  refine TO.quiet (q_assign rfl) ?_
  refine TO.nil (T.seq (T.seq (T.region ?_)))
  refine TO.quiet (q_assign rfl) ?_
  refine TO.nil (T.block ?_)
  refine T.sub (O' := [oI z2 25 (dC M k2), oI z1 25 (dC a k)]) (by exact Sub.k (.d (.k .z))) ?_
  have hv : Valid a := checkD_zero.1 he0
  refine T.loop (fun (j : Nat) ρ O => O = [oI z2 25 (dC M k2), oI z1 25 (dC a k)] ∧ j ≤ 7 ∧ Heads [(0, (dV a k)), (1, .int .i64 n), (2, (.pointer (some ⟨z1, 0, none⟩))), (5, (.pointer (some ⟨z2, 0, none⟩))), (6, .int .i64 0), (7, .int .u64 ((cntN a m a.start.toNat % 18446744073709551616 : Nat) : Int)), (8, .int .i64 0), (9, .int .u64 ((cntN M m M.start.toNat % 18446744073709551616 : Nat) : Int)), (10, .int .i64 0), (11, .int .u64 ((letN a ^ i % 18446744073709551616 : Nat) : Int)), (12, .int .i64 ((i : Nat) : Int)), (13, .int .u64 (((allW a j).length : Nat) : Int)), (14, .int .i64 ((j : Nat) : Int))] ρ) (fun j => 7 - j) 0 ?_ ?_
  · exact ⟨rfl, Nat.zero_le _, ⟨rfl, rfl, rfl, rfl, rfl, rfl, rfl, rfl, rfl, rfl, rfl, (congrArg (fun n : Nat => Value.int .u64 (n : Int)) (show 0 = (allW a 0).length from rfl)), rfl, trivial⟩⟩
  rintro j ρ O ⟨rfl, hi, hH⟩
  obtain ⟨ρ0, rfl⟩ := hH.elim
  clear hH
  have hsm := allW_small hv.toVal hi
  refine T.seq (T.seq (T.region ?_))
  refine TO.quiet (q_move rfl) (TO.quiet (q_leq rfl rfl) ?_)
  refine TO.nil ?_
  refine T.condP rfl (fun hc => ?_) (fun hc => ?_)
  · have hlt88 : j ≤ 6 := by omega
    refine T.skip (T.seq (T.block (T.seq (T.region ?_))))
    refine TO.quiet (q_load_boxAgg 1 Tryd.underlying25 rfl inf25 rfl rfl rfl) (TO.quiet (q_move rfl) ?_)
    have hk94 := fun (w1 : World) (hI : Inv w [oI z2 25 (dC M k2), oI z1 25 (dC a k)] w1) => (haveI := Inv.tab (P := Tryd.prog) hI; (show PureT _ _ _ _ _ from by
        have h9 := countC w1 a k (hI.atB ha) haa haar haaf ((j : Nat) : Int)
        rw [cntV_ok he0 rfl (by omega), cntE_ok he0 rfl (by omega), Nat.mod_eq_of_lt (by have := cnt_small hv.toVal (i := j) (by omega) a.start.toNat; omega)] at h9
        exact h9))
    refine TO.loud rfl (l_call ent22 (CallT.of_pure hk94) rfl ?_)
    clear hk94
    rintro vr O' ⟨N, rfl, rfl, rfl⟩
    refine TO.quiet (q_move rfl) (TO.quiet (q_extract (vs := _) rfl rfl) (TO.quiet (q_extract (vs := _) rfl rfl) (TO.quiet (q_assign rfl) ?_)))
    refine TO.quiet (q_assign rfl) ?_
    refine TO.nil (T.seq (T.seq (T.region ?_)))
    refine TO.quiet (q_move rfl) (TO.quiet (QT.toB (q_neq rfl rfl) (decide_eq_false (fun h => h rfl))) ?_)
    refine TO.nil ?_
    refine T.cond0 rfl ?_
    refine T.skip (T.region ?_)
    refine TO.quiet (q_move rfl) (TO.quiet (q_move rfl) (TO.quiet (q_addU (a := (allW a j).length) (b := cntN a j a.start.toNat) .u64 rfl rfl (by show _ < 18446744073709551616; have := cnt_small hv.toVal (i := j) (by omega) a.start.toNat; omega)) (TO.quiet (q_assign rfl) ?_)))
    refine TO.nil (T.region ?_)
    refine TO.quiet (q_move rfl) (TO.quiet (q_addN (a := j) (b := 1) rfl rfl (by omega)) (TO.quiet (q_assign rfl) ?_))
    refine TO.nil ?_
    exact ⟨j + 1, by omega, rfl, by omega, ⟨rfl, rfl, rfl, rfl, rfl, rfl, rfl, rfl, rfl, rfl, rfl, (congrArg (fun n : Nat => Value.int .u64 (n : Int)) (by rw [allW_snoc, List.length_append]; rfl)), rfl, trivial⟩⟩
  have hge88 : ¬ j ≤ 6 := by omega
  refine T.exit ?_
  refine T.seq ?_
  have hi7 : j = 7 := by omega
  have hsm7 := allW_small hv.toVal (i := 7) (by decide)
  refine T.region ?_
  refine TO.quiet (q_load_boxAgg 1 Tryd.underlying25 rfl inf25 rfl rfl rfl) (TO.quiet (QT.cast (q_move rfl) (v' := .int .u64 (((allW a 7).length : Nat) : Int)) (by show Value.int _ _ = _; rw [hi7])) ?_)
  have hk105 := fun (w1 : World) (hI : Inv w [oI z2 25 (dC M k2), oI z1 25 (dC a k)] w1) => (haveI := Inv.tab (P := Tryd.prog) hI; (show PureT _ _ _ _ _ from by
      have h9 := nthC w1 a k (hI.atB ha) haa haar haaf (allW a 7).length
      rw [nthE_small he0 (by omega)] at h9
      exact h9))
  refine TO.loud rfl (l_call ent14 (CallT.of_pure hk105) rfl ?_)
  clear hk105
  rintro vr O' ⟨N, rfl, wb1, wc1, rfl, rfl⟩
  refine TO.quiet (q_move rfl) (TO.quiet (q_extract (vs := _) rfl rfl) (TO.quiet (q_extract (vs := _) rfl rfl) (TO.quiet (q_extract (vs := _) rfl rfl) ?_)))
  refine TO.quiet (q_assign rfl) (TO.quiet (q_assign rfl) (TO.quiet (q_assign rfl) ?_))
  refine TO.nil (T.seq (T.seq (T.region ?_)))
  refine TO.quiet (q_move rfl) (TO.quiet (QT.toB (q_neq rfl rfl) (decide_eq_false (fun h => h rfl))) (TO.quiet (q_move rfl) ?_))
  refine TO.guarded rfl rfl rfl (LT.of_quiet rfl rfl (q_move rfl) ?_)
  by_cases hs113 : ((nthV a (allW a 7).length).isSome) = true
  · refine TO.guarded rfl rfl rfl (LT.of_quiet rfl rfl (QT.toB (q_move rfl) (hs113)) ?_)
    refine TO.guarded rfl rfl rfl (LT.of_quiet rfl rfl (q_move rfl) ?_)
    refine TO.guarded rfl rfl rfl (LT.of_quiet rfl rfl (q_len Tryd.underlying29 rfl) ?_)
    refine TO.guarded rfl rfl rfl (LT.of_quiet rfl rfl (QT.toB (q_leq rfl rfl) (decide_eq_false (by
        obtain ⟨u9, h9⟩ : ∃ u, nthV a (allW a 7).length = some u := by
          cases h8 : nthV a (allW a 7).length with
          | none => rw [h8] at hs113; cases hs113
          | some u => exact ⟨u, rfl⟩
        have h7 := nth_after he0 h9
        rw [h9]
        show ¬ ((u9.length : Int) ≤ 6)
        omega))) ?_)
    refine TO.guarded rfl rfl rfl (LT.of_quiet rfl rfl (q_pick1 rfl rfl) ?_)
    refine TO.quiet (q_pick0 rfl rfl) (TO.quiet (q_move rfl) ?_)
    refine TO.guarded rfl rfl rfl (LT.of_quiet rfl rfl (QT.cast (q_move rfl) (v' := .int .u64 (((allW a 7).length : Nat) : Int)) (by show Value.int _ _ = _; rw [hi7])) ?_)
    refine TO.guarded rfl rfl rfl (LT.of_quiet rfl rfl (QT.toB (q_gtr rfl rfl) (decide_eq_false (by omega))) ?_)
    refine TO.quiet (q_pick0 rfl rfl) ?_
    refine TO.nil ?_
    refine T.cond0 rfl ?_
    refine T.skip (T.seq (T.seq (T.region ?_)))
    refine TO.quiet (QT.cast (q_move rfl) (v' := .int .u64 (((allW a 7).length : Nat) : Int)) (by show Value.int _ _ = _; rw [hi7])) (TO.quiet (q_eql rfl rfl) ?_)
    refine TO.nil ?_
    refine T.condP rfl (fun hc => ?_) (fun hc => ?_)
    · have hlt124 : (allW a 7).length = 0 := by omega
      refine T.seq (T.region ?_)
      refine TO.quiet (q_assign rfl) ?_
      refine TO.nil (T.ret (Res.drop ?_))
      refine Res.one (.bool true) Tryd.results8 rfl ?_
      exact ⟨[], Sub.z, rfl, rfl⟩
    have hge124 : ¬ (allW a 7).length = 0 := by omega
    refine T.skip (T.seq ?_)
    obtain ⟨u, hu, hul⟩ := nth_before he0 (by omega)
    refine T.region ?_
    refine TO.quiet (q_load_boxAgg 2 Tryd.underlying25 rfl inf25 rfl rfl rfl) (TO.quiet (QT.cast (q_move rfl) (v' := .int .u64 (((allW a 7).length : Nat) : Int)) (by show Value.int _ _ = _; rw [hi7])) (TO.quiet (q_subU (a := (allW a 7).length) (b := 1) .u64 rfl rfl (by show _ < 18446744073709551616; omega) (by omega)) ?_))
    have hk129 := fun (w1 : World) (hI : Inv w [rowI wb1 wc1 5 1 (byts ((nthV a (allW a 7).length).getD [])), oI z2 25 (dC M k2), oI z1 25 (dC a k)] w1) => (haveI := Inv.tab (P := Tryd.prog) hI; (show PureT _ _ _ _ _ from by
        have h9 := nthC w1 a k (hI.atB ha) haa haar haaf ((allW a 7).length - 1)
        rw [hu, nthE_small he0 (by omega)] at h9
        exact h9))
    refine TO.loud rfl (l_call ent14 (CallT.of_pure hk129) rfl ?_)
    clear hk129
    rintro vr O' ⟨N, rfl, wb2, wc2, rfl, rfl⟩
    refine TO.quiet (q_move rfl) (TO.quiet (q_extract (vs := _) rfl rfl) (TO.quiet (q_extract (vs := _) rfl rfl) (TO.quiet (q_extract (vs := _) rfl rfl) ?_)))
    refine TO.quiet (q_assign rfl) (TO.quiet (q_assign rfl) (TO.quiet (q_assign rfl) ?_))
    refine TO.nil (T.seq (T.region ?_))
    refine TO.quiet (q_move rfl) (TO.quiet (QT.toB (q_eql rfl rfl) (decide_eq_true rfl)) (TO.quiet (q_move rfl) ?_))
    refine TO.guarded rfl rfl rfl (LT.of_quiet rfl rfl (q_move rfl) ?_)
    refine TO.quiet (q_pick1 rfl rfl) (TO.quiet (q_move rfl) ?_)
    refine TO.guarded rfl rfl rfl (LT.of_quiet rfl rfl (q_move rfl) ?_)
    refine TO.guarded rfl rfl rfl (LT.of_quiet rfl rfl (q_len Tryd.underlying29 rfl) ?_)
    refine TO.guarded rfl rfl rfl (LT.of_quiet rfl rfl (QT.toB (q_leq rfl rfl) (decide_eq_true (by show (u.length : Int) ≤ 6; omega))) ?_)
    refine TO.quiet (q_pick1 rfl rfl) (TO.quiet (q_assign rfl) ?_)
    refine TO.nil (T.ret (Res.drop ?_))
    refine Res.one (.bool true) Tryd.results8 rfl ?_
    exact ⟨[], Sub.z, rfl, rfl⟩
  refine TO.guarded rfl rfl rfl (LT.of_quiet rfl rfl (QT.toB (q_move rfl) (Bool.eq_false_iff.2 hs113)) ?_)
  refine TO.passed rfl rfl ?_
  refine TO.passed rfl rfl ?_
  refine TO.passed rfl rfl ?_
  refine TO.guarded rfl rfl rfl (LT.of_quiet rfl rfl (q_pick0 rfl rfl) ?_)
  refine TO.quiet (q_pick0 rfl rfl) (TO.quiet (q_move rfl) ?_)
  refine TO.guarded rfl rfl rfl (LT.of_quiet rfl rfl (QT.cast (q_move rfl) (v' := .int .u64 (((allW a 7).length : Nat) : Int)) (by show Value.int _ _ = _; rw [hi7])) ?_)
  refine TO.guarded rfl rfl rfl (LT.of_quiet rfl rfl (QT.toB (q_gtr rfl rfl) (decide_eq_false (by omega))) ?_)
  refine TO.quiet (q_pick0 rfl rfl) ?_
  refine TO.nil ?_
  refine T.cond0 rfl ?_
  refine T.skip (T.seq (T.seq (T.region ?_)))
  refine TO.quiet (QT.cast (q_move rfl) (v' := .int .u64 (((allW a 7).length : Nat) : Int)) (by show Value.int _ _ = _; rw [hi7])) (TO.quiet (q_eql rfl rfl) ?_)
  refine TO.nil ?_
  refine T.condP rfl (fun hc => ?_) (fun hc => ?_)
  · have hlt124 : (allW a 7).length = 0 := by omega
    refine T.seq (T.region ?_)
    refine TO.quiet (q_assign rfl) ?_
    refine TO.nil (T.ret (Res.drop ?_))
    refine Res.one (.bool true) Tryd.results8 rfl ?_
    exact ⟨[], Sub.z, rfl, rfl⟩
  have hge124 : ¬ (allW a 7).length = 0 := by omega
  refine T.skip (T.seq ?_)
  obtain ⟨u, hu, hul⟩ := nth_before he0 (by omega)
  refine T.region ?_
  refine TO.quiet (q_load_boxAgg 2 Tryd.underlying25 rfl inf25 rfl rfl rfl) (TO.quiet (QT.cast (q_move rfl) (v' := .int .u64 (((allW a 7).length : Nat) : Int)) (by show Value.int _ _ = _; rw [hi7])) (TO.quiet (q_subU (a := (allW a 7).length) (b := 1) .u64 rfl rfl (by show _ < 18446744073709551616; omega) (by omega)) ?_))
  have hk129 := fun (w1 : World) (hI : Inv w [rowI wb1 wc1 5 1 (byts ((nthV a (allW a 7).length).getD [])), oI z2 25 (dC M k2), oI z1 25 (dC a k)] w1) => (haveI := Inv.tab (P := Tryd.prog) hI; (show PureT _ _ _ _ _ from by
      have h9 := nthC w1 a k (hI.atB ha) haa haar haaf ((allW a 7).length - 1)
      rw [hu, nthE_small he0 (by omega)] at h9
      exact h9))
  refine TO.loud rfl (l_call ent14 (CallT.of_pure hk129) rfl ?_)
  clear hk129
  rintro vr O' ⟨N, rfl, wb2, wc2, rfl, rfl⟩
  refine TO.quiet (q_move rfl) (TO.quiet (q_extract (vs := _) rfl rfl) (TO.quiet (q_extract (vs := _) rfl rfl) (TO.quiet (q_extract (vs := _) rfl rfl) ?_)))
  refine TO.quiet (q_assign rfl) (TO.quiet (q_assign rfl) (TO.quiet (q_assign rfl) ?_))
  refine TO.nil (T.seq (T.region ?_))
  refine TO.quiet (q_move rfl) (TO.quiet (QT.toB (q_eql rfl rfl) (decide_eq_true rfl)) (TO.quiet (q_move rfl) ?_))
  refine TO.guarded rfl rfl rfl (LT.of_quiet rfl rfl (q_move rfl) ?_)
  refine TO.quiet (q_pick1 rfl rfl) (TO.quiet (q_move rfl) ?_)
  refine TO.guarded rfl rfl rfl (LT.of_quiet rfl rfl (q_move rfl) ?_)
  refine TO.guarded rfl rfl rfl (LT.of_quiet rfl rfl (q_len Tryd.underlying29 rfl) ?_)
  refine TO.guarded rfl rfl rfl (LT.of_quiet rfl rfl (QT.toB (q_leq rfl rfl) (decide_eq_true (by show (u.length : Int) ≤ 6; omega))) ?_)
  refine TO.quiet (q_pick1 rfl rfl) (TO.quiet (q_assign rfl) ?_)
  refine TO.nil (T.ret (Res.drop ?_))
  refine Res.one (.bool true) Tryd.results8 rfl ?_
  exact ⟨[], Sub.z, rfl, rfl⟩
theorem countsLaw (w : World) [Tab Tryd.prog w] (a : DFA) (nba fba : Option Addr) (nca fca : Nat) (vsa : List Value) (ha : DfaAt w a nba vsa fba) (haa : a.next.length < 9223372036854775807) (haar : ∀ r ∈ a.next, r.length < 9223372036854775807) (haaf : a.final.length < 9223372036854775807) (n : Int) :
    PureT Tryd.prog 8 [.agg (dfaCells a nba nca fba fca).toArray, .int .i64 n] w fun v N => v = .bool true ∧ N = [] := by
  obtain ⟨ja, ga, ea⟩ := ha.dk nca fca
  rw [ea]
  exact countsW w a ja ga haa haar haaf n
end Go.Proofs.YtnmfefmhfkhihaaDoor

