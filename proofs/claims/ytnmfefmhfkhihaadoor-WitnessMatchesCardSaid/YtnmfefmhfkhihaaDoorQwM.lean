/- Contracts of functions of the program (QwM): what each call answers and that it leaves memory as it was. Conditions: those each theorem names. -/
import Derived.Test.YtnmfefmhfkhihaaDoorDK
import Derived.Test.YtnmfefmhfkhihaaDoorR12
import Derived.Test.YtnmfefmhfkhihaaDoorEnd
set_option linter.unusedSectionVars false
set_option linter.unusedSimpArgs false
set_option linter.unusedVariables false
set_option linter.unnecessarySimpa false
namespace Go.Proofs.YtnmfefmhfkhihaaDoor
open Go.Lx Go.RowKit
set_option linter.unusedVariables false
set_option linter.unusedSimpArgs false
set_option maxHeartbeats 1000000 in
set_option maxRecDepth 20000 in
theorem rShoBad (w : World) [Tab Tryd.prog w] (a : DFA) (k : DK) (ha : At w a k) (haa : a.next.length < 9223372036854775807) (haar : ∀ r ∈ a.next, r.length < 9223372036854775807) (haaf : a.final.length < 9223372036854775807) (he : checkD a ≠ 0) :
    PureT Tryd.prog 26 [dV a k] w fun v N => v = .tuple #[.slice none 0 0, .bool false, .int .i64 (checkD a : Int)] ∧ N = [] := by
  refine CallT.enter Tryd.func26 rfl Tryd.ntmps26 rfl ?_
  refine T.seq (T.region ?_)
  refine TO.loud rfl (l_box (v := (dV a k)) (cs := (dC a k)) rfl rfl (fun bx1 => ?_))
  refine TO.quiet (q_assign rfl) (TO.quiet (q_assign rfl) (TO.quiet (q_assign rfl) ?_))
  refine TO.nil (T.seq (T.region ?_))
  refine TO.quiet (q_load_boxAgg 0 Tryd.underlying25 rfl inf25 rfl rfl rfl) ?_
  have hk11 := fun (w1 : World) (hI : Inv w [oI bx1 25 (dC a k)] w1) => (haveI := Inv.tab (P := Tryd.prog) hI; refCheck w1 a k.nb k.fb k.nc k.fc (vals k.qs) (hI.dfa ha) haa haar haaf)
  refine TO.loud rfl (l_call ent24 (CallT.of_pure hk11) rfl ?_)
  clear hk11
  rintro vr O' ⟨N, rfl, rfl, rfl⟩
  refine TO.quiet (q_assign rfl) ?_
  refine TO.nil (T.seq (T.seq (T.region ?_)))
  refine TO.quiet (q_move rfl) (TO.quiet (QT.toB (q_neq rfl rfl) (decide_eq_true (by omega))) ?_)
  refine TO.nil ?_
  refine T.cond1 rfl ?_
  refine T.seq (T.region ?_)
  refine TO.quiet (q_move rfl) (TO.quiet (q_assign rfl) (TO.quiet (q_assign rfl) (TO.quiet (q_assign rfl) ?_)))
  refine TO.nil (T.ret (Res.drop ?_))
  refine Res.three (.slice none 0 0) (.bool false) (.int .i64 (checkD a : Int)) Tryd.results26 rfl rfl rfl ?_
  exact ⟨[], Sub.z, rfl, rfl⟩
theorem rShoC (w : World) [Tab Tryd.prog w] (a : DFA) (k : DK) (ha : At w a k) (haa : a.next.length < 9223372036854775807) (haar : ∀ r ∈ a.next, r.length < 9223372036854775807) (haaf : a.final.length < 9223372036854775807) :
    PureT Tryd.prog 26 [dV a k] w fun v N => ∃ res wb wc, (checkD a = 0 → LeastA a res) ∧ (checkD a ≠ 0 → res = none) ∧ v = .tuple #[.slice wb (res.getD []).length wc, .bool res.isSome, .int .i64 (checkD a : Int)] ∧ N = [rowI wb wc 5 1 (byts (res.getD []))] := by
  by_cases he : checkD a ≠ 0
  · refine (CallT.nilOr 5 1 (rShoBad w a k ha haa haar haaf he)).mono ?_
    rintro v N ⟨O2, hN, h1, h2⟩
    exact ⟨none, none, 0, fun h => absurd h he, fun _ => rfl, h1, hN.2 h2⟩
  · have h0 : checkD a = 0 := by omega
    refine (rShoK w a k ha (checkD_zero.1 h0)).mono ?_
    rintro v N ⟨res, wb, wc, hL, hV, hN⟩
    rw [h0]
    exact ⟨res, wb, wc, fun _ => hL, fun h => absurd rfl h, hV, hN⟩
set_option maxHeartbeats 8000000 in
set_option maxRecDepth 20000 in
theorem matchesW (w : World) [Tab Tryd.prog w] (a : DFA) (k : DK) (ha : At w a k) (haa : a.next.length < 9223372036854775807) (haar : ∀ r ∈ a.next, r.length < 9223372036854775807) (haaf : a.final.length < 9223372036854775807) (n : Int) :
    PureT Tryd.prog 5 [dV a k, .int .i64 n] w fun v N => v = .bool true ∧ N = [] := by
  refine CallT.enter Tryd.func5 rfl Tryd.ntmps5 rfl ?_
  refine T.seq (T.region ?_)
  refine TO.loud rfl (l_box (v := (dV a k)) (cs := (dC a k)) rfl rfl (fun z1 => ?_))
  refine TO.quiet (q_assign rfl) ?_
  refine TO.nil (T.seq (T.seq (T.region ?_)))
  refine TO.quiet (q_load_boxAgg 0 Tryd.underlying25 rfl inf25 rfl rfl rfl) ?_
  have hk28 := fun (w1 : World) (hI : Inv w [oI z1 25 (dC a k)] w1) => (haveI := Inv.tab (P := Tryd.prog) hI; longK w1 a k (hI.atB ha) haa)
  refine TO.loud rfl (l_call ent10 (CallT.of_pure hk28) rfl ?_)
  clear hk28
  rintro vr O' ⟨N, rfl, rfl, rfl⟩
  refine TO.nil ?_
  refine T.condP rfl (fun hc => ?_) (fun hc => ?_)
  · refine T.seq ?_
    refine T.region ?_
    have hk29 := fun (w1 : World) (hI : Inv w [oI z1 25 (dC a k)] w1) => (haveI := Inv.tab (P := Tryd.prog) hI; awakeC w1)
    refine TO.loud rfl (l_call ent11 (CallT.of_pure hk29) rfl ?_)
    clear hk29
    rintro vr O' ⟨N, rfl, rfl, rfl⟩
    refine TO.quiet (q_assign rfl) ?_
    refine TO.nil (T.ret (Res.drop ?_))
    refine Res.one (.bool true) Tryd.results5 rfl ?_
    exact ⟨[], Sub.z, rfl, rfl⟩
  refine T.skip (T.seq ?_)
  have sm : Sm a := Sm.of (fun h => hc (.inl h)) (by have := fun h => hc (.inr h); omega)
  have hn12 := sm.n12
  have hf40 := sm.f40
  refine T.region ?_
  refine TO.quiet (q_load_boxAgg 0 Tryd.underlying25 rfl inf25 rfl rfl rfl) ?_
  have hk31 := fun (w1 : World) (hI : Inv w [oI z1 25 (dC a k)] w1) => (haveI := Inv.tab (P := Tryd.prog) hI; copyK w1 a k (hI.atB ha) (by have := sm.n12; omega) (fun r hr => by have := sm.r100 r hr; omega) (by have := sm.f40; omega))
  refine TO.loud rfl (l_call ent25 (CallT.of_pure hk31) rfl ?_)
  clear hk31
  rintro vr O' ⟨N, rfl, k1, rfl, rfl⟩
  refine TO.loud rfl (l_alloc inf25 rfl (fun z2 => ?_))
  refine TO.loud rfl (l_store_box (v := (dV a k1)) (vs := (dC a k1)) 0 inf25 rfl rfl rfl rfl rfl rfl (by simp [putL]) ?_)
  refine TO.nil (T.seq (T.region ?_))
  refine TO.quiet (q_load_boxAgg 2 Tryd.underlying25 rfl inf25 rfl rfl rfl) ?_
  have hk34 := fun (w1 : World) (hI : Inv w [oI z2 25 (dC a k1), dI 41 4 3 a k1, oI z1 25 (dC a k)] w1) => (haveI := Inv.tab (P := Tryd.prog) hI; rShoC w1 a k (hI.atB ha) haa haar haaf)
  refine TO.loud rfl (l_call ent26 (CallT.of_pure hk34) rfl ?_)
  clear hk34
  rintro vr O' ⟨N, rfl, res1, wb1, wc1, hL1, hn1, rfl, rfl⟩
  refine TO.quiet (q_move rfl) (TO.quiet (q_extract (vs := _) rfl rfl) (TO.quiet (q_extract (vs := _) rfl rfl) (TO.quiet (q_extract (vs := _) rfl rfl) ?_)))
  refine TO.quiet (q_assign rfl) (TO.quiet (q_assign rfl) (TO.quiet (q_assign rfl) ?_))
  refine TO.nil (T.seq (T.region ?_))
  refine TO.quiet (q_load_boxAgg 3 Tryd.underlying25 rfl inf25 rfl rfl rfl) ?_
  have hk40 := fun (w1 : World) (hI : Inv w [rowI wb1 wc1 5 1 (byts (res1.getD [])), oI z2 25 (dC a k1), dI 41 4 3 a k1, oI z1 25 (dC a k)] w1) => (haveI := Inv.tab (P := Tryd.prog) hI; rUnivC w1 a k (hI.atB ha) haa haar haaf)
  refine TO.loud rfl (l_call ent27 (CallT.of_pure hk40) rfl ?_)
  clear hk40
  rintro vr O' ⟨N, rfl, bu, rfl, rfl, hbuy, hbun⟩
  refine TO.quiet (q_move rfl) (TO.quiet (q_extract (vs := _) rfl rfl) (TO.quiet (q_extract (vs := _) rfl rfl) (TO.quiet (q_assign rfl) ?_)))
  refine TO.quiet (q_assign rfl) ?_
  refine TO.nil (T.seq (T.region ?_))
  refine TO.quiet (q_load_boxAgg 3 Tryd.underlying25 rfl inf25 rfl rfl rfl) ?_
  have hk45 := fun (w1 : World) (hI : Inv w [rowI wb1 wc1 5 1 (byts (res1.getD [])), oI z2 25 (dC a k1), dI 41 4 3 a k1, oI z1 25 (dC a k)] w1) => (haveI := Inv.tab (P := Tryd.prog) hI; rFinC w1 a k (hI.atB ha) haa haar haaf)
  refine TO.loud rfl (l_call ent28 (CallT.of_pure hk45) rfl ?_)
  clear hk45
  rintro vr O' ⟨N, rfl, bf, rfl, rfl, hbfy, hbfn⟩
  refine TO.quiet (q_move rfl) (TO.quiet (q_extract (vs := _) rfl rfl) (TO.quiet (q_extract (vs := _) rfl rfl) (TO.quiet (q_assign rfl) ?_)))
  refine TO.quiet (q_assign rfl) ?_
  refine TO.nil (T.seq (T.region ?_))
  refine TO.quiet (q_load_boxAgg 3 Tryd.underlying25 rfl inf25 rfl rfl rfl) (TO.quiet (q_move rfl) ?_)
  have hk51 := fun (w1 : World) (hI : Inv w [rowI wb1 wc1 5 1 (byts (res1.getD [])), oI z2 25 (dC a k1), dI 41 4 3 a k1, oI z1 25 (dC a k)] w1) => (haveI := Inv.tab (P := Tryd.prog) hI; rCountC w1 a k (hI.atB ha) haa haar haaf n)
  refine TO.loud rfl (l_call ent29 (CallT.of_pure hk51) rfl ?_)
  clear hk51
  rintro vr O' ⟨N, rfl, rfl, rfl⟩
  refine TO.quiet (q_move rfl) (TO.quiet (q_extract (vs := _) rfl rfl) (TO.quiet (q_extract (vs := _) rfl rfl) (TO.quiet (q_assign rfl) ?_)))
  refine TO.quiet (q_assign rfl) ?_
  refine TO.nil (T.seq (T.seq (T.region ?_)))
  refine TO.quiet (q_assign rfl) ?_
  refine TO.nil (T.block ?_)
  refine T.sub (O' := [rowI wb1 wc1 5 1 (byts (res1.getD [])), oI z2 25 (dC a k1), dI 41 4 3 a k1, oI z1 25 (dC a k)]) (by exact Sub.rf) ?_
  have hrl : (res1.getD []).length < 9223372036854775807 := by have := least_len' hn12 hL1 hn1; omega
  refine T.loopS (fun (r : Nat) ρ O => O = [rowI wb1 wc1 5 1 (byts (res1.getD [])), oI z2 25 (dC a k1), dI 41 4 3 a k1, oI z1 25 (dC a k)] ∧ r ≤ 2 ∧ Heads [(0, (dV a k)), (1, .int .i64 n), (2, (.pointer (some ⟨z1, 0, none⟩))), (5, (.pointer (some ⟨z2, 0, none⟩))), (6, (.slice wb1 ((res1.getD []).length) wc1)), (7, .bool res1.isSome), (8, .int .i64 (checkD a : Int)), (9, .bool bu), (10, .int .i64 (checkD a : Int)), (11, .bool bf), (12, .int .i64 (checkD a : Int)), (13, .int .u64 ((cntV a n : Nat) : Int)), (14, .int .i64 ((cntE a n : Nat) : Int)), (15, .int .i64 ((r : Nat) : Int))] ρ) (fun r => 2 - r) 0 ?_ ?_
  · exact ⟨rfl, Nat.zero_le _, ⟨rfl, rfl, rfl, rfl, rfl, rfl, rfl, rfl, rfl, rfl, rfl, rfl, rfl, rfl, trivial⟩⟩
  rintro r ρ O ⟨rfl, hr, hH⟩
  obtain ⟨ρ0, rfl⟩ := hH.elim
  clear hH
  refine T.seq (T.seq (T.region ?_))
  refine TO.quiet (q_move rfl) (TO.quiet (q_lss rfl rfl) ?_)
  refine TO.nil ?_
  refine T.condP rfl (fun hc => ?_) (fun hc => ?_)
  · have hlt55 : r < 2 := by omega
    refine T.skip (T.seq (T.block (T.seq (T.region ?_))))
    refine TO.quiet (q_load_boxAgg 1 Tryd.underlying25 rfl inf25 rfl rfl rfl) ?_
    have hk60 := fun (w1 : World) (hI : Inv w [rowI wb1 wc1 5 1 (byts (res1.getD [])), oI z2 25 (dC a k1), dI 41 4 3 a k1, oI z1 25 (dC a k)] w1) => (haveI := Inv.tab (P := Tryd.prog) hI; shoC w1 a k1 (hI.at (k := k1) (List.mem_of_getElem? (i := 2) rfl)) haa haar haaf)
    refine TO.loud rfl (l_call ent20 (CallT.of_pure hk60) rfl ?_)
    clear hk60
    rintro vr O' ⟨N, rfl, res2, wb2, wc2, hL2, hn2, rfl, rfl⟩
    obtain rfl := sho_same hL1 hL2 hn1 hn2
    refine TO.quiet (q_move rfl) (TO.quiet (q_extract (vs := _) rfl rfl) (TO.quiet (q_extract (vs := _) rfl rfl) (TO.quiet (q_extract (vs := _) rfl rfl) ?_)))
    refine TO.quiet (q_assign rfl) (TO.quiet (q_assign rfl) (TO.quiet (q_assign rfl) ?_))
    refine TO.nil (T.seq (T.region ?_))
    refine TO.quiet (q_load_boxAgg 2 Tryd.underlying25 rfl inf25 rfl rfl rfl) ?_
    have hk66 := fun (w1 : World) (hI : Inv w [rowI wb2 wc2 5 1 (byts (res1.getD [])), rowI wb1 wc1 5 1 (byts (res1.getD [])), oI z2 25 (dC a k1), dI 41 4 3 a k1, oI z1 25 (dC a k)] w1) => (haveI := Inv.tab (P := Tryd.prog) hI; emptyC w1 a k1 (hI.at (k := k1) (List.mem_of_getElem? (i := 3) rfl)) haa haar haaf)
    refine TO.loud rfl (l_call ent30 (CallT.of_pure hk66) rfl ?_)
    clear hk66
    rintro vr O' ⟨N, rfl, be, rfl, rfl, hbey, hben⟩
    have hbe := empty_is hL1 hn1 hbey hben
    refine TO.quiet (q_move rfl) (TO.quiet (q_extract (vs := _) rfl rfl) (TO.quiet (q_extract (vs := _) rfl rfl) (TO.quiet (q_assign rfl) ?_)))
    refine TO.quiet (q_assign rfl) ?_
    refine TO.nil (T.seq (T.region ?_))
    refine TO.quiet (q_load_boxAgg 2 Tryd.underlying25 rfl inf25 rfl rfl rfl) ?_
    have hk71 := fun (w1 : World) (hI : Inv w [rowI wb2 wc2 5 1 (byts (res1.getD [])), rowI wb1 wc1 5 1 (byts (res1.getD [])), oI z2 25 (dC a k1), dI 41 4 3 a k1, oI z1 25 (dC a k)] w1) => (haveI := Inv.tab (P := Tryd.prog) hI; univC w1 a k1 (hI.at (k := k1) (List.mem_of_getElem? (i := 3) rfl)) haa haar haaf (by omega))
    refine TO.loud rfl (l_call ent31 (CallT.of_pure hk71) rfl ?_)
    clear hk71
    rintro vr O' ⟨N, rfl, bu2, rfl, rfl, hbu2y, hbu2n⟩
    obtain rfl := flag_same hbuy hbun hbu2y hbu2n
    refine TO.quiet (q_move rfl) (TO.quiet (q_extract (vs := _) rfl rfl) (TO.quiet (q_extract (vs := _) rfl rfl) (TO.quiet (q_assign rfl) ?_)))
    refine TO.quiet (q_assign rfl) ?_
    refine TO.nil (T.seq (T.region ?_))
    refine TO.quiet (q_load_boxAgg 2 Tryd.underlying25 rfl inf25 rfl rfl rfl) ?_
    have hk76 := fun (w1 : World) (hI : Inv w [rowI wb2 wc2 5 1 (byts (res1.getD [])), rowI wb1 wc1 5 1 (byts (res1.getD [])), oI z2 25 (dC a k1), dI 41 4 3 a k1, oI z1 25 (dC a k)] w1) => (haveI := Inv.tab (P := Tryd.prog) hI; finC w1 a k1 (hI.at (k := k1) (List.mem_of_getElem? (i := 3) rfl)) haa haar haaf)
    refine TO.loud rfl (l_call ent21 (CallT.of_pure hk76) rfl ?_)
    clear hk76
    rintro vr O' ⟨N, rfl, bf2, rfl, rfl, hbf2y, hbf2n⟩
    obtain rfl := flag_same hbfy hbfn hbf2y hbf2n
    refine TO.quiet (q_move rfl) (TO.quiet (q_extract (vs := _) rfl rfl) (TO.quiet (q_extract (vs := _) rfl rfl) (TO.quiet (q_assign rfl) ?_)))
    refine TO.quiet (q_assign rfl) ?_
    refine TO.nil (T.seq (T.region ?_))
    refine TO.quiet (q_load_boxAgg 2 Tryd.underlying25 rfl inf25 rfl rfl rfl) (TO.quiet (q_move rfl) ?_)
    have hk82 := fun (w1 : World) (hI : Inv w [rowI wb2 wc2 5 1 (byts (res1.getD [])), rowI wb1 wc1 5 1 (byts (res1.getD [])), oI z2 25 (dC a k1), dI 41 4 3 a k1, oI z1 25 (dC a k)] w1) => (haveI := Inv.tab (P := Tryd.prog) hI; countC w1 a k1 (hI.at (k := k1) (List.mem_of_getElem? (i := 3) rfl)) haa haar haaf n)
    refine TO.loud rfl (l_call ent22 (CallT.of_pure hk82) rfl ?_)
    clear hk82
    rintro vr O' ⟨N, rfl, rfl, rfl⟩
    refine TO.quiet (q_move rfl) (TO.quiet (q_extract (vs := _) rfl rfl) (TO.quiet (q_extract (vs := _) rfl rfl) (TO.quiet (q_assign rfl) ?_)))
    refine TO.quiet (q_assign rfl) ?_
    refine TO.nil (T.seq (T.seq (T.region ?_)))
    refine TO.quiet (q_move rfl) (TO.quiet (q_move rfl) (TO.quiet (QT.toB (q_neq rfl rfl) (decide_eq_false (fun h => h rfl))) (TO.quiet (q_move rfl) ?_)))
    refine TO.guarded rfl rfl rfl (LT.of_quiet rfl rfl (q_move rfl) ?_)
    refine TO.guarded rfl rfl rfl (LT.of_quiet rfl rfl (q_move rfl) ?_)
    refine TO.guarded rfl rfl rfl (LT.of_quiet rfl rfl (QT.toB (q_neq rfl rfl) (decide_eq_false (fun h => h rfl))) ?_)
    refine TO.quiet (q_pick0 rfl rfl) (TO.quiet (q_move rfl) ?_)
    refine TO.guarded rfl rfl rfl (LT.of_quiet rfl rfl (q_move rfl) ?_)
    refine TO.guarded rfl rfl rfl (LT.of_quiet rfl rfl (q_move rfl) ?_)
    refine TO.guarded rfl rfl rfl (LT.of_quiet rfl rfl (QT.toB (q_neq rfl rfl) (decide_eq_false (fun h => h rfl))) ?_)
    refine TO.quiet (q_pick0 rfl rfl) (TO.quiet (q_move rfl) ?_)
    refine TO.guarded rfl rfl rfl (LT.of_quiet rfl rfl (q_move rfl) ?_)
    refine TO.guarded rfl rfl rfl (LT.of_quiet rfl rfl (q_move rfl) ?_)
    refine TO.guarded rfl rfl rfl (LT.of_quiet rfl rfl (QT.toB (q_neq rfl rfl) (decide_eq_false (fun h => h rfl))) ?_)
    refine TO.quiet (q_pick0 rfl rfl) (TO.quiet (q_move rfl) ?_)
    refine TO.guarded rfl rfl rfl (LT.of_quiet rfl rfl (q_move rfl) ?_)
    refine TO.guarded rfl rfl rfl (LT.of_quiet rfl rfl (q_move rfl) ?_)
    refine TO.guarded rfl rfl rfl (LT.of_quiet rfl rfl (QT.toB (q_neq rfl rfl) (decide_eq_false (fun h => h rfl))) ?_)
    refine TO.quiet (q_pick0 rfl rfl) (TO.quiet (q_move rfl) ?_)
    refine TO.guarded rfl rfl rfl (LT.of_quiet rfl rfl (q_move rfl) ?_)
    refine TO.guarded rfl rfl rfl (LT.of_quiet rfl rfl (q_move rfl) ?_)
    refine TO.guarded rfl rfl rfl (LT.of_quiet rfl rfl (QT.cast (q_bneq Tryd.underlying4 rfl rfl) (v' := .bool false) (by simp)) ?_)
    refine TO.quiet (q_pick0 rfl rfl) (TO.quiet (q_move rfl) ?_)
    refine TO.guarded rfl rfl rfl (LT.of_quiet rfl rfl (q_move rfl) ?_)
    refine TO.guarded rfl rfl rfl (LT.of_quiet rfl rfl (q_move rfl) ?_)
    by_cases h0 : checkD a = 0
    · refine TO.guarded rfl rfl rfl (LT.of_quiet rfl rfl (QT.toB (QT.cast (q_eql rfl rfl) (v' := .bool (decide (checkD a = 0))) (congrArg Value.bool (decide_eq_decide.2 (by omega)))) (decide_eq_true h0)) ?_)
      refine TO.guarded rfl rfl rfl (LT.of_quiet rfl rfl (q_move rfl) ?_)
      refine TO.guarded rfl rfl rfl (LT.of_quiet rfl rfl (q_move rfl) ?_)
      refine TO.guarded rfl rfl rfl (LT.of_quiet rfl rfl (q_not rfl) ?_)
      refine TO.guarded rfl rfl rfl (LT.of_quiet rfl rfl (q_pick1 rfl rfl) ?_)
      refine TO.guarded rfl rfl rfl (LT.of_quiet rfl rfl (QT.cast (q_bneq Tryd.underlying4 rfl rfl) (v' := .bool false) (by rw [hbe]; simp [h0])) ?_)
      refine TO.quiet (q_pick0 rfl rfl) (TO.quiet (q_move rfl) ?_)
      refine TO.guarded rfl rfl rfl (LT.of_quiet rfl rfl (q_move rfl) ?_)
      refine TO.guarded rfl rfl rfl (LT.of_quiet rfl rfl (q_move rfl) ?_)
      refine TO.guarded rfl rfl rfl (LT.of_quiet rfl rfl (QT.cast (q_bneq Tryd.underlying4 rfl rfl) (v' := .bool false) (by simp)) ?_)
      refine TO.quiet (q_pick0 rfl rfl) (TO.quiet (q_move rfl) ?_)
      refine TO.guarded rfl rfl rfl (LT.of_quiet rfl rfl (q_move rfl) ?_)
      refine TO.guarded rfl rfl rfl (LT.of_quiet rfl rfl (q_move rfl) ?_)
      refine TO.guarded rfl rfl rfl (LT.of_quiet rfl rfl (QT.cast (q_bneq Tryd.underlying4 rfl rfl) (v' := .bool false) (by simp)) ?_)
      refine TO.quiet (q_pick0 rfl rfl) (TO.quiet (q_move rfl) ?_)
      refine TO.guarded rfl rfl rfl (LT.of_quiet rfl rfl (q_move rfl) ?_)
      refine TO.guarded rfl rfl rfl (LT.of_quiet rfl rfl (q_move rfl) ?_)
      refine TO.guarded rfl rfl rfl (LT.of_quiet rfl rfl (QT.toB (q_neq rfl rfl) (decide_eq_false (fun h => h rfl))) ?_)
      refine TO.quiet (q_pick0 rfl rfl) (TO.quiet (q_move rfl) ?_)
      refine TO.guarded rfl rfl rfl (LT.of_quiet rfl rfl (q_move rfl) ?_)
      refine TO.guarded rfl rfl rfl (LT.of_quiet rfl rfl (q_move rfl) ?_)
      have hk141 := fun (w1 : World) (hI : Inv w [rowI wb2 wc2 5 1 (byts (res1.getD [])), rowI wb1 wc1 5 1 (byts (res1.getD [])), oI z2 25 (dC a k1), dI 41 4 3 a k1, oI z1 25 (dC a k)] w1) => (haveI := Inv.tab (P := Tryd.prog) hI; (show PureT _ _ _ _ _ from by
          have h9 := equalBytes w1 wb2 wb1 wc2 wc1 (res1.getD []) (res1.getD []) (hI.slOf (List.mem_of_getElem? (i := 0) rfl)) (hI.slOf (List.mem_of_getElem? (i := 1) rfl)) hrl
          rw [decide_eq_true rfl] at h9
          exact h9))
      refine TO.guarded rfl rfl rfl (l_call ent16 (CallT.of_pure hk141) rfl ?_)
      clear hk141
      rintro vr O' ⟨N, rfl, rfl, rfl⟩
      refine TO.guarded rfl rfl rfl (LT.of_quiet rfl rfl (q_not rfl) ?_)
      refine TO.quiet (q_pick0 rfl rfl) (TO.quiet (q_move rfl) ?_)
      refine TO.guarded rfl rfl rfl (LT.of_quiet rfl rfl (q_load_boxAgg 2 Tryd.underlying25 rfl inf25 rfl rfl rfl) ?_)
      refine TO.guarded rfl rfl rfl (LT.of_quiet rfl rfl (q_load_boxAgg 4 Tryd.underlying25 rfl inf25 rfl rfl rfl) ?_)
      have hk147 := fun (w1 : World) (hI : Inv w [rowI wb2 wc2 5 1 (byts (res1.getD [])), rowI wb1 wc1 5 1 (byts (res1.getD [])), oI z2 25 (dC a k1), dI 41 4 3 a k1, oI z1 25 (dC a k)] w1) => (haveI := Inv.tab (P := Tryd.prog) hI; equalK w1 a k1 k (hI.at (k := k1) (List.mem_of_getElem? (i := 3) rfl)) (hI.atB ha) haa haar haaf)
      refine TO.guarded rfl rfl rfl (l_call ent32 (CallT.of_pure hk147) rfl ?_)
      clear hk147
      rintro vr O' ⟨N, rfl, rfl, rfl⟩
      refine TO.guarded rfl rfl rfl (LT.of_quiet rfl rfl (q_not rfl) ?_)
      refine TO.quiet (q_pick0 rfl rfl) ?_
      refine TO.nil ?_
      refine T.cond0 rfl ?_
      refine T.skip (T.region ?_)
      refine TO.quiet (q_move rfl) ?_
      have hk151 := CallT.under (A := [rowI wb2 wc2 5 1 (byts (res1.getD []))]) (B := [rowI wb1 wc1 5 1 (byts (res1.getD [])), oI z2 25 (dC a k1), dI 41 4 3 a k1, oI z1 25 (dC a k)]) (O := [rowI wb2 wc2 5 1 (byts (res1.getD [])), rowI wb1 wc1 5 1 (byts (res1.getD [])), oI z2 25 (dC a k1), dI 41 4 3 a k1, oI z1 25 (dC a k)]) (overBytes w wb2 wc2 wc2 (res1.getD []) hrl) (by exact Sub.rf)
      refine TO.loud rfl (l_call ent18 hk151 rfl ?_)
      clear hk151
      rintro vr O' ⟨A1, rfl, rfl⟩
      refine TO.nil (T.region ?_)
      refine TO.quiet (q_move rfl) (TO.quiet (q_addN (a := r) (b := 1) rfl rfl (by omega)) (TO.quiet (q_assign rfl) ?_))
      refine TO.nil ?_
      exact ⟨r + 1, by omega, [rowI wb1 wc1 5 1 (byts (res1.getD [])), oI z2 25 (dC a k1), dI 41 4 3 a k1, oI z1 25 (dC a k)], (by exact Sub.rf), rfl, by omega, ⟨rfl, rfl, rfl, rfl, rfl, rfl, rfl, rfl, rfl, rfl, rfl, rfl, rfl, rfl, trivial⟩⟩
    refine TO.guarded rfl rfl rfl (LT.of_quiet rfl rfl (QT.toB (QT.cast (q_eql rfl rfl) (v' := .bool (decide (checkD a = 0))) (congrArg Value.bool (decide_eq_decide.2 (by omega)))) (decide_eq_false h0)) ?_)
    refine TO.guarded rfl rfl rfl (LT.of_quiet rfl rfl (q_move rfl) ?_)
    refine TO.passed rfl rfl ?_
    refine TO.passed rfl rfl ?_
    refine TO.guarded rfl rfl rfl (LT.of_quiet rfl rfl (q_pick0 rfl rfl) ?_)
    refine TO.guarded rfl rfl rfl (LT.of_quiet rfl rfl (QT.cast (q_bneq Tryd.underlying4 rfl rfl) (v' := .bool false) (by rw [hbe]; simp [h0])) ?_)
    refine TO.quiet (q_pick0 rfl rfl) (TO.quiet (q_move rfl) ?_)
    refine TO.guarded rfl rfl rfl (LT.of_quiet rfl rfl (q_move rfl) ?_)
    refine TO.guarded rfl rfl rfl (LT.of_quiet rfl rfl (q_move rfl) ?_)
    refine TO.guarded rfl rfl rfl (LT.of_quiet rfl rfl (QT.cast (q_bneq Tryd.underlying4 rfl rfl) (v' := .bool false) (by simp)) ?_)
    refine TO.quiet (q_pick0 rfl rfl) (TO.quiet (q_move rfl) ?_)
    refine TO.guarded rfl rfl rfl (LT.of_quiet rfl rfl (q_move rfl) ?_)
    refine TO.guarded rfl rfl rfl (LT.of_quiet rfl rfl (q_move rfl) ?_)
    refine TO.guarded rfl rfl rfl (LT.of_quiet rfl rfl (QT.cast (q_bneq Tryd.underlying4 rfl rfl) (v' := .bool false) (by simp)) ?_)
    refine TO.quiet (q_pick0 rfl rfl) (TO.quiet (q_move rfl) ?_)
    refine TO.guarded rfl rfl rfl (LT.of_quiet rfl rfl (q_move rfl) ?_)
    refine TO.guarded rfl rfl rfl (LT.of_quiet rfl rfl (q_move rfl) ?_)
    refine TO.guarded rfl rfl rfl (LT.of_quiet rfl rfl (QT.toB (q_neq rfl rfl) (decide_eq_false (fun h => h rfl))) ?_)
    refine TO.quiet (q_pick0 rfl rfl) (TO.quiet (q_move rfl) ?_)
    refine TO.guarded rfl rfl rfl (LT.of_quiet rfl rfl (q_move rfl) ?_)
    refine TO.guarded rfl rfl rfl (LT.of_quiet rfl rfl (q_move rfl) ?_)
    have hk141 := fun (w1 : World) (hI : Inv w [rowI wb2 wc2 5 1 (byts (res1.getD [])), rowI wb1 wc1 5 1 (byts (res1.getD [])), oI z2 25 (dC a k1), dI 41 4 3 a k1, oI z1 25 (dC a k)] w1) => (haveI := Inv.tab (P := Tryd.prog) hI; (show PureT _ _ _ _ _ from by
        have h9 := equalBytes w1 wb2 wb1 wc2 wc1 (res1.getD []) (res1.getD []) (hI.slOf (List.mem_of_getElem? (i := 0) rfl)) (hI.slOf (List.mem_of_getElem? (i := 1) rfl)) hrl
        rw [decide_eq_true rfl] at h9
        exact h9))
    refine TO.guarded rfl rfl rfl (l_call ent16 (CallT.of_pure hk141) rfl ?_)
    clear hk141
    rintro vr O' ⟨N, rfl, rfl, rfl⟩
    refine TO.guarded rfl rfl rfl (LT.of_quiet rfl rfl (q_not rfl) ?_)
    refine TO.quiet (q_pick0 rfl rfl) (TO.quiet (q_move rfl) ?_)
    refine TO.guarded rfl rfl rfl (LT.of_quiet rfl rfl (q_load_boxAgg 2 Tryd.underlying25 rfl inf25 rfl rfl rfl) ?_)
    refine TO.guarded rfl rfl rfl (LT.of_quiet rfl rfl (q_load_boxAgg 4 Tryd.underlying25 rfl inf25 rfl rfl rfl) ?_)
    have hk147 := fun (w1 : World) (hI : Inv w [rowI wb2 wc2 5 1 (byts (res1.getD [])), rowI wb1 wc1 5 1 (byts (res1.getD [])), oI z2 25 (dC a k1), dI 41 4 3 a k1, oI z1 25 (dC a k)] w1) => (haveI := Inv.tab (P := Tryd.prog) hI; equalK w1 a k1 k (hI.at (k := k1) (List.mem_of_getElem? (i := 3) rfl)) (hI.atB ha) haa haar haaf)
    refine TO.guarded rfl rfl rfl (l_call ent32 (CallT.of_pure hk147) rfl ?_)
    clear hk147
    rintro vr O' ⟨N, rfl, rfl, rfl⟩
    refine TO.guarded rfl rfl rfl (LT.of_quiet rfl rfl (q_not rfl) ?_)
    refine TO.quiet (q_pick0 rfl rfl) ?_
    refine TO.nil ?_
    refine T.cond0 rfl ?_
    refine T.skip (T.region ?_)
    refine TO.quiet (q_move rfl) ?_
    have hk151 := CallT.under (A := [rowI wb2 wc2 5 1 (byts (res1.getD []))]) (B := [rowI wb1 wc1 5 1 (byts (res1.getD [])), oI z2 25 (dC a k1), dI 41 4 3 a k1, oI z1 25 (dC a k)]) (O := [rowI wb2 wc2 5 1 (byts (res1.getD [])), rowI wb1 wc1 5 1 (byts (res1.getD [])), oI z2 25 (dC a k1), dI 41 4 3 a k1, oI z1 25 (dC a k)]) (overBytes w wb2 wc2 wc2 (res1.getD []) hrl) (by exact Sub.rf)
    refine TO.loud rfl (l_call ent18 hk151 rfl ?_)
    clear hk151
    rintro vr O' ⟨A1, rfl, rfl⟩
    refine TO.nil (T.region ?_)
    refine TO.quiet (q_move rfl) (TO.quiet (q_addN (a := r) (b := 1) rfl rfl (by omega)) (TO.quiet (q_assign rfl) ?_))
    refine TO.nil ?_
    exact ⟨r + 1, by omega, [rowI wb1 wc1 5 1 (byts (res1.getD [])), oI z2 25 (dC a k1), dI 41 4 3 a k1, oI z1 25 (dC a k)], (by exact Sub.rf), rfl, by omega, ⟨rfl, rfl, rfl, rfl, rfl, rfl, rfl, rfl, rfl, rfl, rfl, rfl, rfl, rfl, trivial⟩⟩
  have hge55 : ¬ r < 2 := by omega
  refine T.exit ?_
  refine T.seq (T.region ?_)
  have hk152 := fun (w1 : World) (hI : Inv w [rowI wb1 wc1 5 1 (byts (res1.getD [])), oI z2 25 (dC a k1), dI 41 4 3 a k1, oI z1 25 (dC a k)] w1) => (haveI := Inv.tab (P := Tryd.prog) hI; awakeC w1)
  refine TO.loud rfl (l_call ent11 (CallT.of_pure hk152) rfl ?_)
  clear hk152
  rintro vr O' ⟨N, rfl, rfl, rfl⟩
  refine TO.quiet (q_assign rfl) ?_
  refine TO.nil (T.ret (Res.drop ?_))
  refine Res.one (.bool true) Tryd.results5 rfl ?_
  exact ⟨[], Sub.z, rfl, rfl⟩
theorem matchesLaw (w : World) [Tab Tryd.prog w] (a : DFA) (nba fba : Option Addr) (nca fca : Nat) (vsa : List Value) (ha : DfaAt w a nba vsa fba) (haa : a.next.length < 9223372036854775807) (haar : ∀ r ∈ a.next, r.length < 9223372036854775807) (haaf : a.final.length < 9223372036854775807) (n : Int) :
    PureT Tryd.prog 5 [.agg (dfaCells a nba nca fba fca).toArray, .int .i64 n] w fun v N => v = .bool true ∧ N = [] := by
  obtain ⟨ja, ga, ea⟩ := ha.dk nca fca
  rw [ea]
  exact matchesW w a ja ga haa haar haaf n
end Go.Proofs.YtnmfefmhfkhihaaDoor

