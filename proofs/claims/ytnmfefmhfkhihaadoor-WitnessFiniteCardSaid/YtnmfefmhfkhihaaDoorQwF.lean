/- Contracts of functions of the program (QwF): what each call answers and that it leaves memory as it was. Conditions: those each theorem names. -/
import Derived.Test.YtnmfefmhfkhihaaDoorCoreK
import Derived.Test.YtnmfefmhfkhihaaDoorWtC
import Derived.Test.YtnmfefmhfkhihaaDoorEnd
import Derived.Test.YtnmfefmhfkhihaaDoorWtQ
import Derived.Test.YtnmfefmhfkhihaaDoorW2
set_option linter.unusedSectionVars false
set_option linter.unusedSimpArgs false
set_option linter.unusedVariables false
set_option linter.unnecessarySimpa false
namespace Go.Proofs.YtnmfefmhfkhihaaDoor
open Go.Lx Go.RowKit
set_option linter.unusedVariables false
set_option linter.unusedSimpArgs false
set_option maxHeartbeats 8000000 in
set_option maxRecDepth 20000 in
theorem finiteW (w : World) [Tab Tryd.prog w] (a : DFA) (k : DK) (ha : At w a k) (haa : a.next.length < 9223372036854775807) (haar : ∀ r ∈ a.next, r.length < 9223372036854775807) (haaf : a.final.length < 9223372036854775807) :
    PureT Tryd.prog 9 [dV a k] w fun v N => v = .bool true ∧ N = [] := by
  refine CallT.enter Tryd.func9 rfl Tryd.ntmps9 rfl ?_
  refine T.seq (T.region ?_)
  refine TO.loud rfl (l_box (v := (dV a k)) (cs := (dC a k)) rfl rfl (fun z1 => ?_))
  refine TO.quiet (q_assign rfl) ?_
  refine TO.nil (T.seq (T.seq (T.region ?_)))
  refine TO.quiet (q_load_boxAgg 0 Tryd.underlying25 rfl inf25 rfl rfl rfl) ?_
  have hk21 := fun (w1 : World) (hI : Inv w [oI z1 25 (dC a k)] w1) => (haveI := Inv.tab (P := Tryd.prog) hI; longK w1 a k (hI.atB ha) haa)
  refine TO.loud rfl (l_call ent10 (CallT.of_pure hk21) rfl ?_)
  clear hk21
  rintro vr O' ⟨N, rfl, rfl, rfl⟩
  by_cases hs22 : longD a = true ∨ 12 < a.next.length
  · refine TO.quiet (QT.toB (q_move rfl) (decide_eq_true hs22)) ?_
    refine TO.passed rfl rfl ?_
    refine TO.passed rfl rfl ?_
    refine TO.quiet (q_pick1 rfl rfl) ?_
    refine TO.nil ?_
    refine T.cond1 rfl ?_
    refine T.seq (T.region ?_)
    have hk26 := fun (w1 : World) (hI : Inv w [oI z1 25 (dC a k)] w1) => (haveI := Inv.tab (P := Tryd.prog) hI; awakeC w1)
    refine TO.loud rfl (l_call ent11 (CallT.of_pure hk26) rfl ?_)
    clear hk26
    rintro vr O' ⟨N, rfl, rfl, rfl⟩
    refine TO.quiet (q_assign rfl) ?_
    refine TO.nil (T.ret (Res.drop ?_))
    refine Res.one (.bool true) Tryd.results9 rfl ?_
    exact ⟨[], Sub.z, rfl, rfl⟩
  refine TO.quiet (QT.toB (q_move rfl) (decide_eq_false hs22)) ?_
  have hk23 := fun (w1 : World) (hI : Inv w [oI z1 25 (dC a k)] w1) => (haveI := Inv.tab (P := Tryd.prog) hI; awakeC w1)
  refine TO.guarded rfl rfl rfl (l_call ent11 (CallT.of_pure hk23) rfl ?_)
  clear hk23
  rintro vr O' ⟨N, rfl, rfl, rfl⟩
  refine TO.guarded rfl rfl rfl (LT.of_quiet rfl rfl (q_not rfl) ?_)
  refine TO.quiet (q_pick0 rfl rfl) ?_
  refine TO.nil ?_
  refine T.cond0 rfl ?_
  refine T.skip (T.seq ?_)
  have sm : Sm a := Sm.of (fun h => hs22 (.inl h)) (by have := fun h => hs22 (.inr h); omega)
  have hn12 := sm.n12
  have hf40 := sm.f40
  refine T.region ?_
  refine TO.quiet (q_load_boxAgg 0 Tryd.underlying25 rfl inf25 rfl rfl rfl) ?_
  have hk29 := fun (w1 : World) (hI : Inv w [oI z1 25 (dC a k)] w1) => (haveI := Inv.tab (P := Tryd.prog) hI; finC w1 a k (hI.atB ha) haa haar haaf)
  refine TO.loud rfl (l_call ent21 (CallT.of_pure hk29) rfl ?_)
  clear hk29
  rintro vr O' ⟨N, rfl, bf, rfl, rfl, hbfy, hbfn⟩
  refine TO.quiet (q_move rfl) (TO.quiet (q_extract (vs := _) rfl rfl) (TO.quiet (q_extract (vs := _) rfl rfl) (TO.quiet (q_assign rfl) ?_)))
  refine TO.quiet (q_assign rfl) ?_
  refine TO.nil (T.seq (T.region ?_))
  refine TO.quiet (q_load_boxAgg 0 Tryd.underlying25 rfl inf25 rfl rfl rfl) ?_
  have hk34 := fun (w1 : World) (hI : Inv w [oI z1 25 (dC a k)] w1) => (haveI := Inv.tab (P := Tryd.prog) hI; univC w1 a k (hI.atB ha) haa haar haaf (by omega))
  refine TO.loud rfl (l_call ent31 (CallT.of_pure hk34) rfl ?_)
  clear hk34
  rintro vr O' ⟨N, rfl, bu, rfl, rfl, hbuy, hbun⟩
  refine TO.quiet (q_move rfl) (TO.quiet (q_extract (vs := _) rfl rfl) (TO.quiet (q_extract (vs := _) rfl rfl) (TO.quiet (q_assign rfl) ?_)))
  refine TO.quiet (q_assign rfl) ?_
  refine TO.nil (T.seq (T.seq (T.region ?_)))
  refine TO.quiet (q_move rfl) (TO.quiet (q_neq rfl rfl) ?_)
  refine TO.nil ?_
  refine T.condP rfl (fun hc => ?_) (fun hc => ?_)
  · have hlt38 : checkD a ≠ 0 := by omega
    refine T.seq (T.region ?_)
    refine TO.quiet (q_move rfl) (TO.quiet (q_move rfl) (TO.quiet (QT.toB (q_eql rfl rfl) (decide_eq_true rfl)) (TO.quiet (q_move rfl) ?_)))
    refine TO.guarded rfl rfl rfl (LT.of_quiet rfl rfl (q_move rfl) ?_)
    refine TO.guarded rfl rfl rfl (LT.of_quiet rfl rfl (QT.cast (q_not rfl) (v' := .bool true) (by rw [hbfn (by omega)]; rfl)) ?_)
    refine TO.quiet (q_pick1 rfl rfl) (TO.quiet (q_move rfl) ?_)
    refine TO.guarded rfl rfl rfl (LT.of_quiet rfl rfl (q_move rfl) ?_)
    refine TO.guarded rfl rfl rfl (LT.of_quiet rfl rfl (QT.cast (q_not rfl) (v' := .bool true) (by rw [hbun (by omega)]; rfl)) ?_)
    refine TO.quiet (q_pick1 rfl rfl) (TO.quiet (q_assign rfl) ?_)
    refine TO.nil (T.ret (Res.drop ?_))
    refine Res.one (.bool true) Tryd.results9 rfl ?_
    exact ⟨[], Sub.z, rfl, rfl⟩
  have hge38 : ¬ checkD a ≠ 0 := by omega
  refine T.skip (T.seq ?_)
  have he0 : checkD a = 0 := by omega
  have hv9 : Valid a := checkD_zero.1 he0
  have hv0 := hv9.v0
  have hv6 := hv9.v6
  have hww : letN a ≤ 64 := hv9.width
  obtain ⟨M, eM⟩ : ∃ M, M = opV notB a a := ⟨_, rfl⟩
  have hM : NotOf a M := eM ▸ not_of hv9 hn12
  have hM0 : checkD M = 0 := checkD_zero.2 hM.valid
  have bM := bd_valid hM.valid
  obtain ⟨N, hN⟩ : ∃ N, N = a.next.length := ⟨_, rfl⟩
  obtain ⟨Tz, hT⟩ : ∃ T, T = stD a.vars (letN a) a.next.length := ⟨_, rfl⟩
  have hTv : Valid Tz := hT ▸ st_valid hv0 hv6 rfl hn12
  have hTvr : Tz.vars = a.vars := by rw [hT]; rfl
  have bT := bd_valid hTv
  have hwr : wrongD a Tz = 0 := wrongD_zero.2 ⟨hv9, hTv, hTvr.symm⟩
  have hord : (order (prodD andB a Tz)).length ≤ 4096 := st_order hv9 hn12 hT
  obtain ⟨Pz, eP⟩ : ∃ P, P = opV andB a Tz := ⟨_, rfl⟩
  obtain ⟨hPval, hPv, hPa⟩ := and_of hv9 hTv hTvr hord eP
  have hP0 : checkD Pz = 0 := checkD_zero.2 hPval
  have bP := bd_valid hPval
  refine T.region ?_
  refine TO.quiet (q_load_boxAgg 0 Tryd.underlying25 rfl inf25 rfl rfl rfl) ?_
  have hk52 := fun (w1 : World) (hI : Inv w [oI z1 25 (dC a k)] w1) => (haveI := Inv.tab (P := Tryd.prog) hI; (show PureT _ _ _ _ _ from by
      have h9 := notC w1 a k (hI.atB ha) haa haar haaf
      rw [← eM, he0] at h9
      exact h9))
  refine TO.loud rfl (l_call ent36 (CallT.of_pure hk52) rfl ?_)
  clear hk52
  rintro vr O' ⟨N, rfl, k2, rfl, rfl⟩
  refine TO.quiet (q_move rfl) (TO.quiet (q_extract (vs := _) rfl rfl) (TO.quiet (q_extract (vs := _) rfl rfl) ?_))
  refine TO.loud rfl (l_alloc inf25 rfl (fun z2 => ?_))
  refine TO.loud rfl (l_store_box (v := (dV M k2)) (vs := (dC M k2)) 0 inf25 rfl rfl rfl rfl rfl rfl (by simp [putL]) ?_)
  refine TO.quiet (q_assign rfl) ?_
  refine TO.nil (T.seq (T.region ?_))
  refine TO.quiet (q_load_boxAgg 0 Tryd.underlying25 rfl inf25 rfl rfl rfl) ?_
  have hk57 := fun (w1 : World) (hI : Inv w [oI z2 25 (dC M k2), dI 41 4 3 M k2, oI z1 25 (dC a k)] w1) => (haveI := Inv.tab (P := Tryd.prog) hI; (show PureT _ _ _ _ _ from by
      have h9 := emptyC w1 M k2 (hI.at (k := k2) (List.mem_of_getElem? (i := 1) rfl)) bM.1 bM.2.1 bM.2.2
      rw [hM0] at h9
      exact h9))
  refine TO.loud rfl (l_call ent30 (CallT.of_pure hk57) rfl ?_)
  clear hk57
  rintro vr O' ⟨N, rfl, be, rfl, rfl, hbey, _⟩
  have hbe : be = bu := flag_eq (hbey rfl) (hbuy he0) (not_all hv9 hM)
  refine TO.quiet (q_move rfl) (TO.quiet (q_extract (vs := _) rfl rfl) (TO.quiet (q_extract (vs := _) rfl rfl) (TO.quiet (q_assign rfl) ?_)))
  refine TO.quiet (q_assign rfl) ?_
  refine TO.nil (T.seq (T.seq (T.region ?_)))
  refine TO.quiet (q_move rfl) (TO.quiet (QT.toB (q_neq rfl rfl) (decide_eq_false (fun h => by omega))) (TO.quiet (q_move rfl) ?_))
  refine TO.guarded rfl rfl rfl (LT.of_quiet rfl rfl (q_move rfl) ?_)
  refine TO.guarded rfl rfl rfl (LT.of_quiet rfl rfl (QT.toB (q_neq rfl rfl) (decide_eq_false (fun h => h rfl))) ?_)
  refine TO.quiet (q_pick0 rfl rfl) (TO.quiet (q_move rfl) ?_)
  refine TO.guarded rfl rfl rfl (LT.of_quiet rfl rfl (q_move rfl) ?_)
  refine TO.guarded rfl rfl rfl (LT.of_quiet rfl rfl (QT.toB (q_neq rfl rfl) (decide_eq_false (fun h => h rfl))) ?_)
  refine TO.quiet (q_pick0 rfl rfl) (TO.quiet (q_move rfl) ?_)
  refine TO.guarded rfl rfl rfl (LT.of_quiet rfl rfl (q_move rfl) ?_)
  refine TO.guarded rfl rfl rfl (LT.of_quiet rfl rfl (q_move rfl) ?_)
  refine TO.guarded rfl rfl rfl (LT.of_quiet rfl rfl (QT.cast (q_bneq Tryd.underlying4 rfl rfl) (v' := .bool false) (by rw [hbe]; simp)) ?_)
  refine TO.quiet (q_pick0 rfl rfl) ?_
  refine TO.nil ?_
  refine T.cond0 rfl ?_
  refine T.skip (T.seq (T.region ?_))
  refine TO.quiet (q_fieldAddr Tryd.underlying25 rfl inf22 rfl rfl) (TO.quiet (q_load_box 2 Tryd.underlying22 rfl rfl rfl rfl) (TO.quiet (QT.cast (q_len Tryd.underlying22 rfl) (v' := .int .i64 ((N : Nat) : Int)) (by rw [hN])) (TO.quiet (q_assign rfl) ?_)))
  refine TO.nil (T.seq (T.region ?_))
  refine TO.quiet (q_fieldAddr Tryd.underlying25 rfl inf3 rfl rfl) (TO.quiet (q_load_box 2 Tryd.underlying3 rfl rfl rfl rfl) (TO.quiet (q_build (cs := [(.int .i64 a.vars), (.int .i64 0), (.slice none 0 0), (.slice none 0 0)]) plan25 inf25 (by kernel_rfl)) ?_))
  refine TO.loud rfl (l_alloc inf25 rfl (fun z3 => ?_))
  refine TO.loud rfl (l_store_box (v := (.agg #[(.int .i64 a.vars), (.int .i64 0), (.slice none 0 0), (.slice none 0 0)])) (vs := [(.int .i64 a.vars), (.int .i64 0), (.slice none 0 0), (.slice none 0 0)]) 0 inf25 rfl rfl rfl rfl rfl rfl (by simp [putL]) ?_)
  refine TO.nil (T.seq (T.seq (T.region ?_)))
  refine TO.quiet (q_assign rfl) ?_
  refine TO.nil (T.block ?_)
  refine T.nilRow 4 1 ?_
  refine T.nilRow 41 1 ?_
  refine T.sub (O' := [oI z3 25 [(.int .i64 a.vars), (.int .i64 0), (.slice none 0 0), (.slice none 0 0)], rowI none 0 41 1 (vals []), rowI none 0 4 1 (bools []), oI z1 25 (dC a k)]) (by exact Sub.pull [rowI none 0 41 1 [], rowI none 0 4 1 []] _ (.k (.k (.d (.d (.k .z)))))) ?_
  refine T.loop (fun (s : Nat) ρ O => ∃ (nb fb : Option Addr) (nc fc : Nat) (qs : List Rec) (fs : List Bool), O = ([oI z3 25 [(.int .i64 a.vars), (.int .i64 0), (.slice nb s nc), (.slice fb s fc)], rowI nb nc 41 1 (vals qs), rowI fb fc 4 1 (bools fs), oI z1 25 (dC a k)] ++ (itms 3 qs)) ∧ s ≤ 2 * N + 1 ∧ qs.length = s ∧ fs = (List.range s).map (fun s => (decide (N ≤ s) && decide (s < 2 * N))) ∧ nums qs = (List.range s).map (fun s => List.replicate (letN a) ((min (s + 1) (2 * N) : Nat) : Int)) ∧ Heads [(0, (dV a k)), (1, (.pointer (some ⟨z1, 0, none⟩))), (2, .bool false), (3, .bool bf), (4, .int .i64 (checkD a : Int)), (5, .bool bu), (6, .int .i64 (checkD a : Int)), (7, (.pointer (some ⟨z2, 0, none⟩))), (8, .int .i64 0), (9, .bool be), (10, .int .i64 0), (11, .int .i64 ((N : Nat) : Int)), (12, (.pointer (some ⟨z3, 0, none⟩))), (13, .int .i64 ((s : Nat) : Int))] ρ) (fun s => 2 * N + 1 - s) 0 ?_ ?_
  · exact ⟨none, none, 0, 0, [], [], rfl, Nat.zero_le _, rfl, rfl, rfl, ⟨rfl, rfl, rfl, rfl, rfl, rfl, rfl, rfl, rfl, rfl, rfl, rfl, rfl, rfl, trivial⟩⟩
  rintro s ρ O ⟨nb, fb, nc, fc, qs, fs, rfl, hs, hql, hfs, hqs, hH⟩
  obtain ⟨ρ0, rfl⟩ := hH.elim
  clear hH
  have hfl : fs.length = s := by rw [hfs]; simp
  refine T.seq (T.seq (T.region ?_))
  refine TO.quiet (q_move rfl) (TO.quiet (q_move rfl) (TO.quiet (QT.cast (q_mul64 rfl rfl (by omega)) (v' := .int .i64 ((2 * N : Nat) : Int)) (congrArg (Value.int .i64) (by omega))) (TO.quiet (q_leq rfl rfl) ?_)))
  refine TO.nil ?_
  refine T.condP rfl (fun hc => ?_) (fun hc => ?_)
  · have hlt84 : s ≤ 2 * N := by omega
    refine T.skip (T.seq (T.block (T.seq (T.region ?_))))
    refine TO.quiet (q_assign rfl) ?_
    refine TO.nil (T.seq (T.seq (T.region ?_)))
    refine TO.quiet (q_assign rfl) ?_
    refine TO.nil (T.block ?_)
    refine T.nilRow 3 1 ?_
    refine T.loopS (fun (x : Nat) ρ O => ∃ (rb : Option Addr) (rc : Nat), O = ([rowI rb rc 3 1 (ints (List.replicate x ((min (s + 1) (2 * N) : Nat) : Int))), oI z3 25 [(.int .i64 a.vars), (.int .i64 0), (.slice nb s nc), (.slice fb s fc)], rowI nb nc 41 1 (vals qs), rowI fb fc 4 1 (bools fs), oI z1 25 (dC a k)] ++ (itms 3 qs)) ∧ x ≤ letN a ∧ Heads [(0, (dV a k)), (1, (.pointer (some ⟨z1, 0, none⟩))), (2, .bool false), (3, .bool bf), (4, .int .i64 (checkD a : Int)), (5, .bool bu), (6, .int .i64 (checkD a : Int)), (7, (.pointer (some ⟨z2, 0, none⟩))), (8, .int .i64 0), (9, .bool be), (10, .int .i64 0), (11, .int .i64 ((N : Nat) : Int)), (12, (.pointer (some ⟨z3, 0, none⟩))), (13, .int .i64 ((s : Nat) : Int)), (14, (.slice rb x rc)), (15, .int .i64 ((x : Nat) : Int))] ρ) (fun x => letN a - x) 0 ?_ ?_
    · exact ⟨none, 0, rfl, Nat.zero_le _, ⟨rfl, rfl, rfl, rfl, rfl, rfl, rfl, rfl, rfl, rfl, rfl, rfl, rfl, rfl, rfl, rfl, trivial⟩⟩
    rintro x ρ O ⟨rb, rc, rfl, hx, hH⟩
    obtain ⟨ρ0, rfl⟩ := hH.elim
    clear hH
    refine T.seq (T.seq (T.region ?_))
    refine TO.quiet (q_move rfl) (TO.quiet (q_fieldAddr Tryd.underlying25 rfl inf3 rfl rfl) (TO.quiet (q_load_box 4 Tryd.underlying3 rfl rfl rfl rfl) ?_))
    have hk90 := fun (w1 : World) (hI : Inv w ([rowI rb rc 3 1 (ints (List.replicate x ((min (s + 1) (2 * N) : Nat) : Int))), oI z3 25 [(.int .i64 a.vars), (.int .i64 0), (.slice nb s nc), (.slice fb s fc)], rowI nb nc 41 1 (vals qs), rowI fb fc 4 1 (bools fs), oI z1 25 (dC a k)] ++ (itms 3 qs)) w1) => (haveI := Inv.tab (P := Tryd.prog) hI; (show PureT Tryd.prog 37 [.int .i64 a.vars] w1 (fun x N => x = .int .i64 ((letN a : Nat) : Int) ∧ N = []) from lettersF w1 a.vars hv0 hv6))
    refine TO.loud rfl (l_call ent37 (CallT.of_pure hk90) rfl ?_)
    clear hk90
    rintro vr O' ⟨N, rfl, rfl, rfl⟩
    refine TO.quiet (q_lss rfl rfl) ?_
    refine TO.nil ?_
    refine T.condP rfl (fun hc => ?_) (fun hc => ?_)
    · have hlt91 : x < letN a := by omega
      refine T.skip (T.seq (T.block (T.region ?_)))
      refine TO.quiet (q_move rfl) (TO.quiet (q_move rfl) (TO.quiet (QT.cast (q_add64 rfl rfl (by omega)) (v' := .int .i64 ((s + 1 : Nat) : Int)) (congrArg (Value.int .i64) (by omega))) (TO.quiet (q_move rfl) ?_)))
      refine TO.quiet (QT.cast (q_mul64 rfl rfl (by omega)) (v' := .int .i64 ((2 * N : Nat) : Int)) (congrArg (Value.int .i64) (by omega))) (TO.quiet (q_minN (a := (s + 1)) (b := (2 * N)) rfl rfl) ?_)
      refine TO.loud rfl (l_build1 (v := .int .i64 ((min (s + 1) (2 * N) : Nat) : Int)) Tryd.underlying41 inf3 rfl rfl rfl (fun z4 => ?_))
      refine TO.loud rfl (l_append 1 Tryd.underlying41 Tryd.underlying41 inf3 rfl rfl rfl rfl (by rw [List.length_map, List.length_replicate]; omega) (by decide) (Src.row (j := 0) rfl (by simp)) (by simp [oneB]) (by omega) (by decide) (by decide) (fun z5 zc6 => ?_))
      refine TO.quiet (q_assign rfl) ?_
      refine TO.nil (T.region ?_)
      refine TO.quiet (q_move rfl) (TO.quiet (q_addN (a := x) (b := 1) rfl rfl (by omega)) (TO.quiet (q_assign rfl) ?_))
      refine TO.nil ?_
      have hst9 : ints (List.replicate (x + 1) ((min (s + 1) (2 * N) : Nat) : Int)) = ints (List.replicate x ((min (s + 1) (2 * N) : Nat) : Int)) ++ [.int .i64 ((min (s + 1) (2 * N) : Nat) : Int)] := by rw [List.replicate_succ']; exact List.map_append
      exact ⟨x + 1, by omega, ([rowI z5 zc6 3 1 ((ints (List.replicate x ((min (s + 1) (2 * N) : Nat) : Int))) ++ [.int .i64 ((min (s + 1) (2 * N) : Nat) : Int)]), oI z3 25 [(.int .i64 a.vars), (.int .i64 0), (.slice nb s nc), (.slice fb s fc)], rowI nb nc 41 1 (vals qs), rowI fb fc 4 1 (bools fs), oI z1 25 (dC a k)] ++ (itms 3 qs)), (by exact Sub.d (.k (.k (.k (.k (.k .rf)))))), z5, zc6, by rw [hst9], by omega, ⟨rfl, rfl, rfl, rfl, rfl, rfl, rfl, rfl, rfl, rfl, rfl, rfl, rfl, rfl, rfl, rfl, trivial⟩⟩
    have hge91 : ¬ x < letN a := by omega
    refine T.exit ?_
    have hxe : x = letN a := by omega
    subst hxe
    refine T.draws [oI z3 25 [(.int .i64 a.vars), (.int .i64 0), (.slice nb s nc), (.slice fb s fc)], oI z1 25 (dC a k)] [(0, 0), (1, 0), (2, 0), (5, 0), (6, 0), (7, 0), (8, 0), (9, 0), (3, 1), (4, 1), (10, 0), (11, 0), (12, 0), (13, 0), (14, 0), (15, 0), (18, 0), (16, 1), (17, 1), (19, 2), (20, 2), (21, 2)] mixed (drawF_ok (by kernel_rfl)) (by exact Sub.d (.k (.d (.d (.k .z))))) (fun _ _ _ h => h) ?_
    refine DO.quiet rfl (q_fieldAddr Tryd.underlying25 rfl inf22 rfl rfl) (DO.quiet rfl (q_load_box 0 Tryd.underlying22 rfl rfl rfl rfl) (DO.quiet rfl (q_move rfl) (DO.quiet rfl (q_fieldAddr Tryd.underlying25 rfl inf23 rfl rfl) ?_)))
    refine DO.quiet rfl (q_load_box 0 Tryd.underlying23 rfl rfl rfl rfl) (DO.quiet rfl (q_move rfl) (DO.quiet rfl (q_move rfl) ?_))
    by_cases hns : N ≤ s
    · refine DO.quiet rfl (QT.toB (QT.cast (q_geq rfl rfl) (v' := .bool (decide (N ≤ s))) (congrArg Value.bool (decide_eq_decide.2 (by omega)))) (decide_eq_true hns)) ?_
      refine DO.loud rfl rfl (l_build1 (v := (.slice rb (letN a) rc)) Tryd.underlying22 inf41 rfl rfl rfl (fun z7 => ⟨by exact Sub.d (.d (.k (.d (.d (.k .z))))), ?_⟩))
      refine DO.loud rfl rfl (l_append 3 Tryd.underlying22 Tryd.underlying22 inf41 rfl rfl rfl rfl (by rw [List.length_map]; omega) (by decide) (Src.row (j := 0) rfl (by simp)) (by simp [oneB]) (by omega) (by decide) (by decide) (fun z8 zc9 => ⟨by exact Sub.d (.d (.k (.d (.d (.k .z))))), ?_⟩))
      refine DO.quiet rfl (q_move rfl) ?_
      refine DO.guarded rfl rfl rfl (q_move rfl) ?_
      refine DO.guarded rfl rfl rfl (q_move rfl) ?_
      refine DO.guarded rfl rfl rfl (QT.cast (q_mul64 rfl rfl (by omega)) (v' := .int .i64 ((2 * N : Nat) : Int)) (congrArg (Value.int .i64) (by omega))) ?_
      refine DO.guarded rfl rfl rfl (QT.cast (q_lss rfl rfl) (v' := .bool (decide (s < 2 * N))) (congrArg Value.bool (decide_eq_decide.2 (by omega)))) ?_
      refine DO.quiet rfl (q_pick1 rfl rfl) (DO.quiet rfl (q_fieldAddr Tryd.underlying25 rfl inf22 rfl rfl) ?_)
      refine DO.loud rfl rfl (l_build1 (v := .bool (decide (s < 2 * N))) Tryd.underlying23 inf4 rfl rfl rfl (fun z10 => ⟨by exact Sub.d (.d (.d (.k (.d (.d (.k .z)))))), ?_⟩))
      refine DO.loud rfl rfl (l_append 5 Tryd.underlying23 Tryd.underlying23 inf4 rfl rfl rfl rfl (by rw [List.length_map]; omega) (by decide) (Src.row (j := 0) rfl (by simp)) (by simp [oneB]) (by omega) (by decide) (by decide) (fun z11 zc12 => ⟨by exact Sub.d (.d (.d (.k (.d (.d (.k .z)))))), ?_⟩))
      refine DO.last rfl rfl (l_store_box (v := (.slice z8 (s + 1) zc9)) (vs := [(.slice z8 (s + 1) zc9)]) 3 inf22 rfl rfl rfl rfl rfl rfl (by simp [putL]) ?_)
      refine DO.last rfl rfl (LT.of_quiet rfl rfl (q_fieldAddr Tryd.underlying25 rfl inf23 rfl rfl) ?_)
      refine DO.last rfl rfl (l_store_box (v := (.slice z11 (s + 1) zc12)) (vs := [(.slice z11 (s + 1) zc12)]) 3 inf23 rfl rfl rfl rfl rfl rfl (by simp [putL]) ?_)
      refine DO.done ?_
      have hvq : vals (qs ++ [⟨rb, rc, List.replicate (letN a) ((min (s + 1) (2 * N) : Nat) : Int)⟩]) = (vals qs) ++ [(.slice rb (letN a) rc)] := by simp [Rec.val]
      have hbq : bools (fs ++ [(decide (N ≤ s) && decide (s < 2 * N))]) = (bools fs) ++ [.bool (decide (s < 2 * N))] := by simp [hns]
      refine T.sub (O' := ([oI z3 25 [(.int .i64 a.vars), (.int .i64 0), (.slice z8 (s + 1) zc9), (.slice z11 (s + 1) zc12)], rowI z8 zc9 41 1 ((vals qs) ++ [(.slice rb (letN a) rc)]), rowI z11 zc12 4 1 ((bools fs) ++ [.bool (decide (s < 2 * N))]), oI z1 25 (dC a k), rowI rb rc 3 1 (ints (List.replicate (letN a) ((min (s + 1) (2 * N) : Nat) : Int)))] ++ itms 3 qs)) (by exact Sub.d (.d (.pull [rowI rb rc 3 1 (ints (List.replicate (letN a) ((min (s + 1) (2 * N) : Nat) : Int)))] _ (.pull [rowI rb rc 3 1 (ints (List.replicate (letN a) ((min (s + 1) (2 * N) : Nat) : Int)))] _ (.pull [rowI rb rc 3 1 (ints (List.replicate (letN a) ((min (s + 1) (2 * N) : Nat) : Int)))] _ (.pull [rowI rb rc 3 1 (ints (List.replicate (letN a) ((min (s + 1) (2 * N) : Nat) : Int)))] _ (.k .rf))))))) ?_
      refine T.sub (O' := ([oI z3 25 [(.int .i64 a.vars), (.int .i64 0), (.slice z8 (s + 1) zc9), (.slice z11 (s + 1) zc12)], rowI z8 zc9 41 1 (vals (qs ++ [⟨rb, rc, List.replicate (letN a) ((min (s + 1) (2 * N) : Nat) : Int)⟩])), rowI z11 zc12 4 1 (bools (fs ++ [(decide (N ≤ s) && decide (s < 2 * N))])), oI z1 25 (dC a k)] ++ itms 3 (qs ++ [⟨rb, rc, List.replicate (letN a) ((min (s + 1) (2 * N) : Nat) : Int)⟩]))) (by rw [hvq, hbq]; exact Sub.foldN [oI z3 25 [(.int .i64 a.vars), (.int .i64 0), (.slice z8 (s + 1) zc9), (.slice z11 (s + 1) zc12)], rowI z8 zc9 41 1 ((vals qs) ++ [(.slice rb (letN a) rc)]), rowI z11 zc12 4 1 ((bools fs) ++ [.bool (decide (s < 2 * N))]), oI z1 25 (dC a k)] (rowI rb rc 3 1 (ints (List.replicate (letN a) ((min (s + 1) (2 * N) : Nat) : Int)))) (itms 3 qs) _ (itms_snoc 3 qs ⟨rb, rc, List.replicate (letN a) ((min (s + 1) (2 * N) : Nat) : Int)⟩)) ?_
      refine T.region ?_
      refine TO.quiet (q_move rfl) (TO.quiet (q_addN (a := s) (b := 1) rfl rfl (by omega)) (TO.quiet (q_assign rfl) ?_))
      refine TO.nil ?_
      exact ⟨s + 1, by omega, z8, z11, zc9, zc12, qs ++ [⟨rb, rc, List.replicate (letN a) ((min (s + 1) (2 * N) : Nat) : Int)⟩], fs ++ [(decide (N ≤ s) && decide (s < 2 * N))], rfl, by omega, by simp [hql], by rw [hfs, List.range_succ, List.map_append]; rfl, by rw [List.range_succ, List.map_append, ← hqs]; simp, ⟨rfl, rfl, rfl, rfl, rfl, rfl, rfl, rfl, rfl, rfl, rfl, rfl, rfl, rfl, trivial⟩⟩
    refine DO.quiet rfl (QT.toB (QT.cast (q_geq rfl rfl) (v' := .bool (decide (N ≤ s))) (congrArg Value.bool (decide_eq_decide.2 (by omega)))) (decide_eq_false hns)) ?_
    refine DO.loud rfl rfl (l_build1 (v := (.slice rb (letN a) rc)) Tryd.underlying22 inf41 rfl rfl rfl (fun z13 => ⟨by exact Sub.d (.d (.k (.d (.d (.k .z))))), ?_⟩))
    refine DO.loud rfl rfl (l_append 3 Tryd.underlying22 Tryd.underlying22 inf41 rfl rfl rfl rfl (by rw [List.length_map]; omega) (by decide) (Src.row (j := 0) rfl (by simp)) (by simp [oneB]) (by omega) (by decide) (by decide) (fun z14 zc15 => ⟨by exact Sub.d (.d (.k (.d (.d (.k .z))))), ?_⟩))
    refine DO.quiet rfl (q_move rfl) ?_
    refine DO.passed rfl rfl rfl ?_
    refine DO.passed rfl rfl rfl ?_
    refine DO.passed rfl rfl rfl ?_
    refine DO.passed rfl rfl rfl ?_
    refine DO.quiet rfl (q_pick0 rfl rfl) (DO.quiet rfl (q_fieldAddr Tryd.underlying25 rfl inf22 rfl rfl) ?_)
    refine DO.loud rfl rfl (l_build1 (v := .bool false) Tryd.underlying23 inf4 rfl rfl rfl (fun z16 => ⟨by exact Sub.d (.d (.d (.k (.d (.d (.k .z)))))), ?_⟩))
    refine DO.loud rfl rfl (l_append 5 Tryd.underlying23 Tryd.underlying23 inf4 rfl rfl rfl rfl (by rw [List.length_map]; omega) (by decide) (Src.row (j := 0) rfl (by simp)) (by simp [oneB]) (by omega) (by decide) (by decide) (fun z17 zc18 => ⟨by exact Sub.d (.d (.d (.k (.d (.d (.k .z)))))), ?_⟩))
    refine DO.last rfl rfl (l_store_box (v := (.slice z14 (s + 1) zc15)) (vs := [(.slice z14 (s + 1) zc15)]) 3 inf22 rfl rfl rfl rfl rfl rfl (by simp [putL]) ?_)
    refine DO.last rfl rfl (LT.of_quiet rfl rfl (q_fieldAddr Tryd.underlying25 rfl inf23 rfl rfl) ?_)
    refine DO.last rfl rfl (l_store_box (v := (.slice z17 (s + 1) zc18)) (vs := [(.slice z17 (s + 1) zc18)]) 3 inf23 rfl rfl rfl rfl rfl rfl (by simp [putL]) ?_)
    refine DO.done ?_
    have hvq : vals (qs ++ [⟨rb, rc, List.replicate (letN a) ((min (s + 1) (2 * N) : Nat) : Int)⟩]) = (vals qs) ++ [(.slice rb (letN a) rc)] := by simp [Rec.val]
    have hbq : bools (fs ++ [(decide (N ≤ s) && decide (s < 2 * N))]) = (bools fs) ++ [.bool false] := by simp [hns]
    refine T.sub (O' := ([oI z3 25 [(.int .i64 a.vars), (.int .i64 0), (.slice z14 (s + 1) zc15), (.slice z17 (s + 1) zc18)], rowI z14 zc15 41 1 ((vals qs) ++ [(.slice rb (letN a) rc)]), rowI z17 zc18 4 1 ((bools fs) ++ [.bool false]), oI z1 25 (dC a k), rowI rb rc 3 1 (ints (List.replicate (letN a) ((min (s + 1) (2 * N) : Nat) : Int)))] ++ itms 3 qs)) (by exact Sub.d (.d (.pull [rowI rb rc 3 1 (ints (List.replicate (letN a) ((min (s + 1) (2 * N) : Nat) : Int)))] _ (.pull [rowI rb rc 3 1 (ints (List.replicate (letN a) ((min (s + 1) (2 * N) : Nat) : Int)))] _ (.pull [rowI rb rc 3 1 (ints (List.replicate (letN a) ((min (s + 1) (2 * N) : Nat) : Int)))] _ (.pull [rowI rb rc 3 1 (ints (List.replicate (letN a) ((min (s + 1) (2 * N) : Nat) : Int)))] _ (.k .rf))))))) ?_
    refine T.sub (O' := ([oI z3 25 [(.int .i64 a.vars), (.int .i64 0), (.slice z14 (s + 1) zc15), (.slice z17 (s + 1) zc18)], rowI z14 zc15 41 1 (vals (qs ++ [⟨rb, rc, List.replicate (letN a) ((min (s + 1) (2 * N) : Nat) : Int)⟩])), rowI z17 zc18 4 1 (bools (fs ++ [(decide (N ≤ s) && decide (s < 2 * N))])), oI z1 25 (dC a k)] ++ itms 3 (qs ++ [⟨rb, rc, List.replicate (letN a) ((min (s + 1) (2 * N) : Nat) : Int)⟩]))) (by rw [hvq, hbq]; exact Sub.foldN [oI z3 25 [(.int .i64 a.vars), (.int .i64 0), (.slice z14 (s + 1) zc15), (.slice z17 (s + 1) zc18)], rowI z14 zc15 41 1 ((vals qs) ++ [(.slice rb (letN a) rc)]), rowI z17 zc18 4 1 ((bools fs) ++ [.bool false]), oI z1 25 (dC a k)] (rowI rb rc 3 1 (ints (List.replicate (letN a) ((min (s + 1) (2 * N) : Nat) : Int)))) (itms 3 qs) _ (itms_snoc 3 qs ⟨rb, rc, List.replicate (letN a) ((min (s + 1) (2 * N) : Nat) : Int)⟩)) ?_
    refine T.region ?_
    refine TO.quiet (q_move rfl) (TO.quiet (q_addN (a := s) (b := 1) rfl rfl (by omega)) (TO.quiet (q_assign rfl) ?_))
    refine TO.nil ?_
    exact ⟨s + 1, by omega, z14, z17, zc15, zc18, qs ++ [⟨rb, rc, List.replicate (letN a) ((min (s + 1) (2 * N) : Nat) : Int)⟩], fs ++ [(decide (N ≤ s) && decide (s < 2 * N))], rfl, by omega, by simp [hql], by rw [hfs, List.range_succ, List.map_append]; rfl, by rw [List.range_succ, List.map_append, ← hqs]; simp, ⟨rfl, rfl, rfl, rfl, rfl, rfl, rfl, rfl, rfl, rfl, rfl, rfl, rfl, rfl, trivial⟩⟩
  have hge84 : ¬ s ≤ 2 * N := by omega
  refine T.exit ?_
  refine T.seq ?_
  have hsm : s = 2 * N + 1 := by omega
  have e1 : nums qs = Tz.next := by rw [hT, hqs, hsm, hN]; rfl
  have e2 : fs = Tz.final := by rw [hT, hfs, hsm, hN]; rfl
  have e4 : Tz.start = 0 := by rw [hT]; rfl
  have e5 : Tz.next.length = s := by rw [hT, hsm, hN]; simp [stD]
  have e6 : Tz.final.length = s := by rw [hT, hsm, hN]; simp [stD]
  subst e2
  obtain ⟨z9, hz9⟩ : ∃ z : DK, z = ⟨nb, nc, fb, fc, qs⟩ := ⟨_, rfl⟩
  refine T.sub (O' := ([rowI nb nc 41 1 (vals qs), rowI fb fc 4 1 (bools Tz.final), oI z3 25 [(.int .i64 a.vars), (.int .i64 0), (.slice nb Tz.next.length nc), (.slice fb Tz.final.length fc)], oI z1 25 (dC a k)] ++ itms 3 qs)) (by rw [e5, e6]; exact Sub.pull [oI z3 25 [(.int .i64 a.vars), (.int .i64 0), (.slice nb s nc), (.slice fb s fc)]] _ (.pull [oI z3 25 [(.int .i64 a.vars), (.int .i64 0), (.slice nb s nc), (.slice fb s fc)]] _ (.k (.k .rf)))) ?_
  refine T.sub (O' := (([rowI nb nc 41 1 (vals qs), rowI fb fc 4 1 (bools Tz.final)] ++ itms 3 qs) ++ [oI z3 25 [(.int .i64 a.vars), (.int .i64 0), (.slice nb Tz.next.length nc), (.slice fb Tz.final.length fc)], oI z1 25 (dC a k)])) (by exact Sub.swap3 [rowI nb nc 41 1 (vals qs), rowI fb fc 4 1 (bools Tz.final)] (itms 3 qs) [oI z3 25 [(.int .i64 a.vars), (.int .i64 0), (.slice nb Tz.next.length nc), (.slice fb Tz.final.length fc)], oI z1 25 (dC a k)]) ?_
  refine T.pack (φ := nums qs = Tz.next) e1 ?_
  refine T.sub (O' := [dI 41 4 3 Tz z9, oI z3 25 (dC Tz z9), oI z1 25 (dC a k)]) (by subst hz9; unfold dC dfaCells; rw [hTvr, e4]; exact Sub.rf) ?_
  refine T.region ?_
  refine TO.quiet (q_load_boxAgg 2 Tryd.underlying25 rfl inf25 rfl rfl rfl) (TO.quiet (q_load_boxAgg 1 Tryd.underlying25 rfl inf25 rfl rfl rfl) ?_)
  have hk125 := fun (w1 : World) (hI : Inv w [dI 41 4 3 Tz z9, oI z3 25 (dC Tz z9), oI z1 25 (dC a k)] w1) => (haveI := Inv.tab (P := Tryd.prog) hI; (show PureT _ _ _ _ _ from by
      have h9 := andC w1 a Tz k z9 (hI.atB ha) (hI.at (k := z9) (List.mem_of_getElem? (i := 0) rfl)) haa haar haaf bT.1 bT.2.1 bT.2.2 (fun _ => hord)
      rw [← eP, hwr] at h9
      exact h9))
  refine TO.loud rfl (l_call ent38 (CallT.of_pure hk125) rfl ?_)
  clear hk125
  rintro vr O' ⟨N, rfl, k4, rfl, rfl⟩
  refine TO.quiet (q_move rfl) (TO.quiet (q_extract (vs := _) rfl rfl) (TO.quiet (q_extract (vs := _) rfl rfl) ?_))
  refine TO.loud rfl (l_alloc inf25 rfl (fun z19 => ?_))
  refine TO.loud rfl (l_store_box (v := (dV Pz k4)) (vs := (dC Pz k4)) 0 inf25 rfl rfl rfl rfl rfl rfl (by simp [putL]) ?_)
  refine TO.quiet (q_assign rfl) ?_
  refine TO.nil (T.seq (T.region ?_))
  refine TO.quiet (q_load_boxAgg 0 Tryd.underlying25 rfl inf25 rfl rfl rfl) ?_
  have hk130 := fun (w1 : World) (hI : Inv w [oI z19 25 (dC Pz k4), dI 41 4 3 Pz k4, dI 41 4 3 Tz z9, oI z3 25 (dC Tz z9), oI z1 25 (dC a k)] w1) => (haveI := Inv.tab (P := Tryd.prog) hI; (show PureT _ _ _ _ _ from by
      have h9 := emptyC w1 Pz k4 (hI.at (k := k4) (List.mem_of_getElem? (i := 1) rfl)) bP.1 bP.2.1 bP.2.2
      rw [hP0] at h9
      exact h9))
  refine TO.loud rfl (l_call ent30 (CallT.of_pure hk130) rfl ?_)
  clear hk130
  rintro vr O' ⟨N, rfl, bn, rfl, rfl, hbny, _⟩
  have hbn : bn = bf := flag_eq (hbny rfl) (hbfy he0) (both_empty hv9 hT hPa hPv)
  refine TO.quiet (q_move rfl) (TO.quiet (q_extract (vs := _) rfl rfl) (TO.quiet (q_extract (vs := _) rfl rfl) (TO.quiet (q_assign rfl) ?_)))
  refine TO.quiet (q_assign rfl) ?_
  refine TO.nil (T.seq (T.region ?_))
  refine TO.quiet (q_move rfl) (TO.quiet (QT.toB (q_eql rfl rfl) (decide_eq_true rfl)) (TO.quiet (q_move rfl) ?_))
  refine TO.guarded rfl rfl rfl (LT.of_quiet rfl rfl (q_move rfl) ?_)
  refine TO.guarded rfl rfl rfl (LT.of_quiet rfl rfl (QT.toB (q_eql rfl rfl) (decide_eq_true rfl)) ?_)
  refine TO.quiet (q_pick1 rfl rfl) (TO.quiet (q_move rfl) ?_)
  refine TO.guarded rfl rfl rfl (LT.of_quiet rfl rfl (q_move rfl) ?_)
  refine TO.guarded rfl rfl rfl (LT.of_quiet rfl rfl (q_move rfl) ?_)
  refine TO.guarded rfl rfl rfl (LT.of_quiet rfl rfl (QT.cast (q_beql Tryd.underlying4 rfl rfl) (v' := .bool true) (by rw [hbn]; simp)) ?_)
  refine TO.quiet (q_pick1 rfl rfl) (TO.quiet (q_assign rfl) ?_)
  refine TO.nil (T.ret (Res.drop ?_))
  refine Res.one (.bool true) Tryd.results9 rfl ?_
  exact ⟨[], Sub.z, rfl, rfl⟩
theorem finiteLaw (w : World) [Tab Tryd.prog w] (a : DFA) (nba fba : Option Addr) (nca fca : Nat) (vsa : List Value) (ha : DfaAt w a nba vsa fba) (haa : a.next.length < 9223372036854775807) (haar : ∀ r ∈ a.next, r.length < 9223372036854775807) (haaf : a.final.length < 9223372036854775807)  :
    PureT Tryd.prog 9 [.agg (dfaCells a nba nca fba fca).toArray] w fun v N => v = .bool true ∧ N = [] := by
  obtain ⟨ja, ga, ea⟩ := ha.dk nca fca
  rw [ea]
  exact finiteW w a ja ga haa haar haaf 
end Go.Proofs.YtnmfefmhfkhihaaDoor

