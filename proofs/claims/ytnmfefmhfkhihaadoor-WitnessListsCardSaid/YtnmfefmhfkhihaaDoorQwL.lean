/- Contracts of functions of the program (QwL): what each call answers and that it leaves memory as it was. Conditions: those each theorem names. -/
import Derived.Test.YtnmfefmhfkhihaaDoorCoreW
import Derived.Test.YtnmfefmhfkhihaaDoorEnd
set_option linter.unusedSectionVars false
set_option linter.unusedSimpArgs false
set_option linter.unusedVariables false
set_option linter.unnecessarySimpa false
namespace Go.Proofs.YtnmfefmhfkhihaaDoor
open Go.Lx Go.RowKit
set_option linter.unusedVariables false
set_option linter.unusedSimpArgs false
set_option maxHeartbeats 8000000 in
set_option maxRecDepth 20000 in
theorem listsW (w : World) [Tab Tryd.prog w] (a : DFA) (k : DK) (ha : At w a k) (haa : a.next.length < 9223372036854775807) (haar : ∀ r ∈ a.next, r.length < 9223372036854775807) (haaf : a.final.length < 9223372036854775807) (kk : Nat) (m : Int) :
    PureT Tryd.prog 3 [dV a k, .int .u64 ((kk : Nat) : Int), .int .i64 m] w fun v N => v = .bool true ∧ N = [] := by
  refine CallT.enter Tryd.func3 rfl Tryd.ntmps3 rfl ?_
  refine T.seq (T.region ?_)
  refine TO.loud rfl (l_box (v := (dV a k)) (cs := (dC a k)) rfl rfl (fun z1 => ?_))
  refine TO.quiet (q_assign rfl) ?_
  refine TO.nil (T.seq (T.seq (T.region ?_)))
  refine TO.quiet (q_load_boxAgg 0 Tryd.underlying25 rfl inf25 rfl rfl rfl) ?_
  have hk19 := fun (w1 : World) (hI : Inv w [oI z1 25 (dC a k)] w1) => (haveI := Inv.tab (P := Tryd.prog) hI; longK w1 a k (hI.atB ha) haa)
  refine TO.loud rfl (l_call ent10 (CallT.of_pure hk19) rfl ?_)
  clear hk19
  rintro vr O' ⟨N, rfl, rfl, rfl⟩
  by_cases hs20 : longD a = true ∨ 12 < a.next.length
  · refine TO.quiet (QT.toB (q_move rfl) (decide_eq_true hs20)) ?_
    refine TO.passed rfl rfl ?_
    refine TO.passed rfl rfl ?_
    refine TO.passed rfl rfl ?_
    refine TO.passed rfl rfl ?_
    refine TO.passed rfl rfl ?_
    refine TO.passed rfl rfl ?_
    refine TO.quiet (q_pick1 rfl rfl) ?_
    refine TO.nil ?_
    refine T.cond1 rfl ?_
    refine T.seq (T.region ?_)
    have hk28 := fun (w1 : World) (hI : Inv w [oI z1 25 (dC a k)] w1) => (haveI := Inv.tab (P := Tryd.prog) hI; awakeC w1)
    refine TO.loud rfl (l_call ent11 (CallT.of_pure hk28) rfl ?_)
    clear hk28
    rintro vr O' ⟨N, rfl, rfl, rfl⟩
    refine TO.quiet (q_assign rfl) ?_
    refine TO.nil (T.ret (Res.drop ?_))
    refine Res.one (.bool true) Tryd.results3 rfl ?_
    exact ⟨[], Sub.z, rfl, rfl⟩
  refine TO.quiet (QT.toB (q_move rfl) (decide_eq_false hs20)) ?_
  refine TO.guarded rfl rfl rfl (LT.of_quiet rfl rfl (q_move rfl) ?_)
  refine TO.guarded rfl rfl rfl (LT.of_quiet rfl rfl (q_gtr rfl rfl) ?_)
  by_cases hs23 : m > 20
  · refine TO.guarded rfl rfl rfl (LT.of_quiet rfl rfl (QT.toB (q_move rfl) (decide_eq_true hs23)) ?_)
    refine TO.guarded rfl rfl rfl (LT.of_quiet rfl rfl (q_move rfl) ?_)
    refine TO.guarded rfl rfl rfl (LT.of_quiet rfl rfl (q_leq rfl rfl) ?_)
    refine TO.guarded rfl rfl rfl (LT.of_quiet rfl rfl (q_pick1 rfl rfl) ?_)
    refine TO.quiet (q_pick0 rfl rfl) ?_
    refine TO.nil ?_
    refine T.condP rfl (fun hc => ?_) (fun hc => ?_)
    · refine T.seq ?_
      refine T.region ?_
      have hk28 := fun (w1 : World) (hI : Inv w [oI z1 25 (dC a k)] w1) => (haveI := Inv.tab (P := Tryd.prog) hI; awakeC w1)
      refine TO.loud rfl (l_call ent11 (CallT.of_pure hk28) rfl ?_)
      clear hk28
      rintro vr O' ⟨N, rfl, rfl, rfl⟩
      refine TO.quiet (q_assign rfl) ?_
      refine TO.nil (T.ret (Res.drop ?_))
      refine Res.one (.bool true) Tryd.results3 rfl ?_
      exact ⟨[], Sub.z, rfl, rfl⟩
    refine T.skip (T.seq (T.region ?_))
    refine TO.quiet (q_load_boxAgg 0 Tryd.underlying25 rfl inf25 rfl rfl rfl) (TO.quiet (q_move rfl) ?_)
    have hk32 := fun (w1 : World) (hI : Inv w [oI z1 25 (dC a k)] w1) => (haveI := Inv.tab (P := Tryd.prog) hI; rnthC w1 a k (hI.atB ha) haa haar haaf kk)
    refine TO.loud rfl (l_call ent12 (CallT.of_pure hk32) rfl ?_)
    clear hk32
    rintro vr O' ⟨N, rfl, wb1, wc1, rfl, rfl⟩
    refine TO.quiet (q_move rfl) (TO.quiet (q_extract (vs := _) rfl rfl) (TO.quiet (q_extract (vs := _) rfl rfl) (TO.quiet (q_extract (vs := _) rfl rfl) ?_)))
    refine TO.quiet (q_assign rfl) (TO.quiet (q_assign rfl) (TO.quiet (q_assign rfl) ?_))
    refine TO.nil (T.seq (T.region ?_))
    refine TO.quiet (q_load_boxAgg 1 Tryd.underlying25 rfl inf25 rfl rfl rfl) (TO.quiet (q_move rfl) ?_)
    have hk39 := fun (w1 : World) (hI : Inv w [rowI wb1 wc1 5 1 (byts ((nthV a kk).getD [])), oI z1 25 (dC a k)] w1) => (haveI := Inv.tab (P := Tryd.prog) hI; rwdsC w1 a k (hI.atB ha) haa haar haaf m)
    refine TO.loud rfl (l_call ent13 (CallT.of_pure hk39) rfl ?_)
    clear hk39
    rintro vr O' ⟨N, rfl, ws1, lb1, lc1, hw1, rfl, rfl⟩
    refine TO.quiet (q_move rfl) (TO.quiet (q_extract (vs := _) rfl rfl) (TO.quiet (q_extract (vs := _) rfl rfl) (TO.quiet (q_assign rfl) ?_)))
    refine TO.quiet (q_assign rfl) ?_
    refine TO.nil (T.seq (T.seq (T.region ?_)))
    refine TO.quiet (q_assign rfl) ?_
    refine TO.nil (T.block ?_)
    have hnl : ((nthV a kk).getD []).length < 9223372036854775807 := by have := @nthV_len a kk; omega
    refine T.loopS (fun (r : Nat) ρ O => O = [wlI 29 5 lb1 lc1 ws1, rowI wb1 wc1 5 1 (byts ((nthV a kk).getD [])), oI z1 25 (dC a k)] ∧ r ≤ 2 ∧ Heads [(0, (dV a k)), (1, .int .u64 ((kk : Nat) : Int)), (2, .int .i64 m), (3, (.pointer (some ⟨z1, 0, none⟩))), (7, (.slice wb1 (((nthV a kk).getD []).length) wc1)), (8, .bool (nthV a kk).isSome), (9, .int .i64 ((nthE a kk : Nat) : Int)), (10, (.slice lb1 ws1.length lc1)), (11, .int .i64 ((wdsE a m : Nat) : Int)), (12, .int .i64 ((r : Nat) : Int))] ρ) (fun r => 2 - r) 0 ?_ ?_
    · exact ⟨rfl, Nat.zero_le _, ⟨rfl, rfl, rfl, rfl, rfl, rfl, rfl, rfl, rfl, rfl, trivial⟩⟩
    rintro r ρ O ⟨rfl, hr, hH⟩
    obtain ⟨ρ0, rfl⟩ := hH.elim
    clear hH
    refine T.seq (T.seq (T.region ?_))
    refine TO.quiet (q_move rfl) (TO.quiet (q_lss rfl rfl) ?_)
    refine TO.nil ?_
    refine T.condP rfl (fun hc => ?_) (fun hc => ?_)
    · have hlt43 : r < 2 := by omega
      refine T.skip (T.seq (T.block (T.seq (T.region ?_))))
      refine TO.quiet (q_load_boxAgg 2 Tryd.underlying25 rfl inf25 rfl rfl rfl) (TO.quiet (q_move rfl) ?_)
      have hk49 := fun (w1 : World) (hI : Inv w [wlI 29 5 lb1 lc1 ws1, rowI wb1 wc1 5 1 (byts ((nthV a kk).getD [])), oI z1 25 (dC a k)] w1) => (haveI := Inv.tab (P := Tryd.prog) hI; nthC w1 a k (hI.atB ha) haa haar haaf kk)
      refine TO.loud rfl (l_call ent14 (CallT.of_pure hk49) rfl ?_)
      clear hk49
      rintro vr O' ⟨N, rfl, wb2, wc2, rfl, rfl⟩
      refine TO.quiet (q_move rfl) (TO.quiet (q_extract (vs := _) rfl rfl) (TO.quiet (q_extract (vs := _) rfl rfl) (TO.quiet (q_extract (vs := _) rfl rfl) ?_)))
      refine TO.quiet (q_assign rfl) (TO.quiet (q_assign rfl) (TO.quiet (q_assign rfl) ?_))
      refine TO.nil (T.seq (T.region ?_))
      refine TO.quiet (q_load_boxAgg 3 Tryd.underlying25 rfl inf25 rfl rfl rfl) (TO.quiet (q_move rfl) ?_)
      have hk56 := fun (w1 : World) (hI : Inv w [rowI wb2 wc2 5 1 (byts ((nthV a kk).getD [])), wlI 29 5 lb1 lc1 ws1, rowI wb1 wc1 5 1 (byts ((nthV a kk).getD [])), oI z1 25 (dC a k)] w1) => (haveI := Inv.tab (P := Tryd.prog) hI; wdsC w1 a k (hI.atB ha) haa haar haaf m)
      refine TO.loud rfl (l_call ent15 (CallT.of_pure hk56) rfl ?_)
      clear hk56
      rintro vr O' ⟨N, rfl, ws2, lb2, lc2, hw2, rfl, rfl⟩
      refine TO.quiet (q_move rfl) (TO.quiet (q_extract (vs := _) rfl rfl) (TO.quiet (q_extract (vs := _) rfl rfl) (TO.quiet (q_assign rfl) ?_)))
      refine TO.quiet (q_assign rfl) ?_
      refine TO.nil (T.seq (T.seq (T.region ?_)))
      refine TO.quiet (q_move rfl) (TO.quiet (q_move rfl) (TO.quiet (QT.toB (q_neq rfl rfl) (decide_eq_false (fun h => h rfl))) (TO.quiet (q_move rfl) ?_)))
      refine TO.guarded rfl rfl rfl (LT.of_quiet rfl rfl (q_move rfl) ?_)
      refine TO.guarded rfl rfl rfl (LT.of_quiet rfl rfl (q_move rfl) ?_)
      refine TO.guarded rfl rfl rfl (LT.of_quiet rfl rfl (QT.cast (q_bneq Tryd.underlying4 rfl rfl) (v' := .bool false) (by simp)) ?_)
      refine TO.quiet (q_pick0 rfl rfl) (TO.quiet (q_move rfl) ?_)
      refine TO.guarded rfl rfl rfl (LT.of_quiet rfl rfl (q_move rfl) ?_)
      refine TO.guarded rfl rfl rfl (LT.of_quiet rfl rfl (q_move rfl) ?_)
      refine TO.guarded rfl rfl rfl (LT.of_quiet rfl rfl (QT.toB (q_neq rfl rfl) (decide_eq_false (fun h => h rfl))) ?_)
      refine TO.quiet (q_pick0 rfl rfl) (TO.quiet (q_move rfl) ?_)
      refine TO.guarded rfl rfl rfl (LT.of_quiet rfl rfl (q_move rfl) ?_)
      refine TO.guarded rfl rfl rfl (LT.of_quiet rfl rfl (q_move rfl) ?_)
      have hk75 := fun (w1 : World) (hI : Inv w [wlI 29 5 lb2 lc2 ws2, rowI wb2 wc2 5 1 (byts ((nthV a kk).getD [])), wlI 29 5 lb1 lc1 ws1, rowI wb1 wc1 5 1 (byts ((nthV a kk).getD [])), oI z1 25 (dC a k)] w1) => (haveI := Inv.tab (P := Tryd.prog) hI; (show PureT _ _ _ _ _ from by
          have h9 := equalBytes w1 wb2 wb1 wc2 wc1 ((nthV a kk).getD []) ((nthV a kk).getD []) (hI.slOf (List.mem_of_getElem? (i := 1) rfl)) (hI.slOf (List.mem_of_getElem? (i := 3) rfl)) hnl
          rw [decide_eq_true rfl] at h9
          exact h9))
      refine TO.guarded rfl rfl rfl (l_call ent16 (CallT.of_pure hk75) rfl ?_)
      clear hk75
      rintro vr O' ⟨N, rfl, rfl, rfl⟩
      refine TO.guarded rfl rfl rfl (LT.of_quiet rfl rfl (q_not rfl) ?_)
      refine TO.quiet (q_pick0 rfl rfl) (TO.quiet (q_move rfl) ?_)
      refine TO.guarded rfl rfl rfl (LT.of_quiet rfl rfl (q_move rfl) ?_)
      refine TO.guarded rfl rfl rfl (LT.of_quiet rfl rfl (q_move rfl) ?_)
      have hk81 := fun (w1 : World) (hI : Inv w [wlI 29 5 lb2 lc2 ws2, rowI wb2 wc2 5 1 (byts ((nthV a kk).getD [])), wlI 29 5 lb1 lc1 ws1, rowI wb1 wc1 5 1 (byts ((nthV a kk).getD [])), oI z1 25 (dC a k)] w1) => (haveI := Inv.tab (P := Tryd.prog) hI; (show PureT _ _ _ _ _ from by
          have h7 := wlO hI (T2 := 29) (T1 := 5) (ws := ws2) (List.mem_of_getElem? (i := 0) rfl)
          have h8 := wlO hI (T2 := 29) (T1 := 5) (ws := ws1) (List.mem_of_getElem? (i := 2) rfl)
          have h9 := equalWords w1 lb2 lb1 lc2 lc1 ws2 ws1 h7.1 h7.2 (wds_cnt hw2) h8.1 h8.2 (wds_cnt hw1) (wds_lt hw2)
          rw [decide_eq_true (hw2.trans hw1.symm)] at h9
          exact h9))
      refine TO.guarded rfl rfl rfl (l_call ent17 (CallT.of_pure hk81) rfl ?_)
      clear hk81
      rintro vr O' ⟨N, rfl, rfl, rfl⟩
      refine TO.guarded rfl rfl rfl (LT.of_quiet rfl rfl (q_not rfl) ?_)
      refine TO.quiet (q_pick0 rfl rfl) ?_
      refine TO.nil ?_
      refine T.cond0 rfl ?_
      refine T.skip (T.seq (T.region ?_))
      refine TO.quiet (q_move rfl) ?_
      have hk85 := CallT.under (A := [rowI wb2 wc2 5 1 (byts ((nthV a kk).getD []))]) (B := [wlI 29 5 lb2 lc2 ws2, wlI 29 5 lb1 lc1 ws1, rowI wb1 wc1 5 1 (byts ((nthV a kk).getD [])), oI z1 25 (dC a k)]) (O := [wlI 29 5 lb2 lc2 ws2, rowI wb2 wc2 5 1 (byts ((nthV a kk).getD [])), wlI 29 5 lb1 lc1 ws1, rowI wb1 wc1 5 1 (byts ((nthV a kk).getD [])), oI z1 25 (dC a k)]) (overBytes w wb2 wc2 wc2 ((nthV a kk).getD []) hnl) (by exact Sub.pull [wlI 29 5 lb2 lc2 ws2] _ (.k (.k (.k (.k .z)))))
      refine TO.loud rfl (l_call ent18 hk85 rfl ?_)
      clear hk85
      rintro vr O' ⟨A1, rfl, rfl⟩
      refine TO.nil (T.region ?_)
      refine TO.quiet (q_move rfl) ?_
      have hk87 := CallT.under (A := [wlI 29 5 lb2 lc2 ws2]) (B := [wlI 29 5 lb1 lc1 ws1, rowI wb1 wc1 5 1 (byts ((nthV a kk).getD [])), oI z1 25 (dC a k)]) (O := [wlI 29 5 lb2 lc2 ws2, wlI 29 5 lb1 lc1 ws1, rowI wb1 wc1 5 1 (byts ((nthV a kk).getD [])), oI z1 25 (dC a k)]) (overWords w lb2 lc2 ws2 (wds_cnt hw2) (wds_lt hw2)) (by exact Sub.rf)
      refine TO.loud rfl (l_call ent19 hk87 rfl ?_)
      clear hk87
      rintro vr O' ⟨A1, rfl, rfl⟩
      refine TO.nil (T.region ?_)
      refine TO.quiet (q_move rfl) (TO.quiet (q_addN (a := r) (b := 1) rfl rfl (by omega)) (TO.quiet (q_assign rfl) ?_))
      refine TO.nil ?_
      exact ⟨r + 1, by omega, [wlI 29 5 lb1 lc1 ws1, rowI wb1 wc1 5 1 (byts ((nthV a kk).getD [])), oI z1 25 (dC a k)], (by exact Sub.rf), rfl, by omega, ⟨rfl, rfl, rfl, rfl, rfl, rfl, rfl, rfl, rfl, rfl, trivial⟩⟩
    have hge43 : ¬ r < 2 := by omega
    refine T.exit ?_
    refine T.seq (T.region ?_)
    have hk88 := fun (w1 : World) (hI : Inv w [wlI 29 5 lb1 lc1 ws1, rowI wb1 wc1 5 1 (byts ((nthV a kk).getD [])), oI z1 25 (dC a k)] w1) => (haveI := Inv.tab (P := Tryd.prog) hI; awakeC w1)
    refine TO.loud rfl (l_call ent11 (CallT.of_pure hk88) rfl ?_)
    clear hk88
    rintro vr O' ⟨N, rfl, rfl, rfl⟩
    refine TO.quiet (q_assign rfl) ?_
    refine TO.nil (T.ret (Res.drop ?_))
    refine Res.one (.bool true) Tryd.results3 rfl ?_
    exact ⟨[], Sub.z, rfl, rfl⟩
  refine TO.guarded rfl rfl rfl (LT.of_quiet rfl rfl (QT.toB (q_move rfl) (decide_eq_false hs23)) ?_)
  refine TO.passed rfl rfl ?_
  refine TO.passed rfl rfl ?_
  refine TO.guarded rfl rfl rfl (LT.of_quiet rfl rfl (q_pick0 rfl rfl) ?_)
  refine TO.quiet (q_pick0 rfl rfl) ?_
  refine TO.nil ?_
  refine T.cond0 rfl ?_
  refine T.skip (T.seq (T.region ?_))
  refine TO.quiet (q_load_boxAgg 0 Tryd.underlying25 rfl inf25 rfl rfl rfl) (TO.quiet (q_move rfl) ?_)
  have hk32 := fun (w1 : World) (hI : Inv w [oI z1 25 (dC a k)] w1) => (haveI := Inv.tab (P := Tryd.prog) hI; rnthC w1 a k (hI.atB ha) haa haar haaf kk)
  refine TO.loud rfl (l_call ent12 (CallT.of_pure hk32) rfl ?_)
  clear hk32
  rintro vr O' ⟨N, rfl, wb1, wc1, rfl, rfl⟩
  refine TO.quiet (q_move rfl) (TO.quiet (q_extract (vs := _) rfl rfl) (TO.quiet (q_extract (vs := _) rfl rfl) (TO.quiet (q_extract (vs := _) rfl rfl) ?_)))
  refine TO.quiet (q_assign rfl) (TO.quiet (q_assign rfl) (TO.quiet (q_assign rfl) ?_))
  refine TO.nil (T.seq (T.region ?_))
  refine TO.quiet (q_load_boxAgg 1 Tryd.underlying25 rfl inf25 rfl rfl rfl) (TO.quiet (q_move rfl) ?_)
  have hk39 := fun (w1 : World) (hI : Inv w [rowI wb1 wc1 5 1 (byts ((nthV a kk).getD [])), oI z1 25 (dC a k)] w1) => (haveI := Inv.tab (P := Tryd.prog) hI; rwdsC w1 a k (hI.atB ha) haa haar haaf m)
  refine TO.loud rfl (l_call ent13 (CallT.of_pure hk39) rfl ?_)
  clear hk39
  rintro vr O' ⟨N, rfl, ws1, lb1, lc1, hw1, rfl, rfl⟩
  refine TO.quiet (q_move rfl) (TO.quiet (q_extract (vs := _) rfl rfl) (TO.quiet (q_extract (vs := _) rfl rfl) (TO.quiet (q_assign rfl) ?_)))
  refine TO.quiet (q_assign rfl) ?_
  refine TO.nil (T.seq (T.seq (T.region ?_)))
  refine TO.quiet (q_assign rfl) ?_
  refine TO.nil (T.block ?_)
  have hnl : ((nthV a kk).getD []).length < 9223372036854775807 := by have := @nthV_len a kk; omega
  refine T.loopS (fun (r : Nat) ρ O => O = [wlI 29 5 lb1 lc1 ws1, rowI wb1 wc1 5 1 (byts ((nthV a kk).getD [])), oI z1 25 (dC a k)] ∧ r ≤ 2 ∧ Heads [(0, (dV a k)), (1, .int .u64 ((kk : Nat) : Int)), (2, .int .i64 m), (3, (.pointer (some ⟨z1, 0, none⟩))), (7, (.slice wb1 (((nthV a kk).getD []).length) wc1)), (8, .bool (nthV a kk).isSome), (9, .int .i64 ((nthE a kk : Nat) : Int)), (10, (.slice lb1 ws1.length lc1)), (11, .int .i64 ((wdsE a m : Nat) : Int)), (12, .int .i64 ((r : Nat) : Int))] ρ) (fun r => 2 - r) 0 ?_ ?_
  · exact ⟨rfl, Nat.zero_le _, ⟨rfl, rfl, rfl, rfl, rfl, rfl, rfl, rfl, rfl, rfl, trivial⟩⟩
  rintro r ρ O ⟨rfl, hr, hH⟩
  obtain ⟨ρ0, rfl⟩ := hH.elim
  clear hH
  refine T.seq (T.seq (T.region ?_))
  refine TO.quiet (q_move rfl) (TO.quiet (q_lss rfl rfl) ?_)
  refine TO.nil ?_
  refine T.condP rfl (fun hc => ?_) (fun hc => ?_)
  · have hlt43 : r < 2 := by omega
    refine T.skip (T.seq (T.block (T.seq (T.region ?_))))
    refine TO.quiet (q_load_boxAgg 2 Tryd.underlying25 rfl inf25 rfl rfl rfl) (TO.quiet (q_move rfl) ?_)
    have hk49 := fun (w1 : World) (hI : Inv w [wlI 29 5 lb1 lc1 ws1, rowI wb1 wc1 5 1 (byts ((nthV a kk).getD [])), oI z1 25 (dC a k)] w1) => (haveI := Inv.tab (P := Tryd.prog) hI; nthC w1 a k (hI.atB ha) haa haar haaf kk)
    refine TO.loud rfl (l_call ent14 (CallT.of_pure hk49) rfl ?_)
    clear hk49
    rintro vr O' ⟨N, rfl, wb2, wc2, rfl, rfl⟩
    refine TO.quiet (q_move rfl) (TO.quiet (q_extract (vs := _) rfl rfl) (TO.quiet (q_extract (vs := _) rfl rfl) (TO.quiet (q_extract (vs := _) rfl rfl) ?_)))
    refine TO.quiet (q_assign rfl) (TO.quiet (q_assign rfl) (TO.quiet (q_assign rfl) ?_))
    refine TO.nil (T.seq (T.region ?_))
    refine TO.quiet (q_load_boxAgg 3 Tryd.underlying25 rfl inf25 rfl rfl rfl) (TO.quiet (q_move rfl) ?_)
    have hk56 := fun (w1 : World) (hI : Inv w [rowI wb2 wc2 5 1 (byts ((nthV a kk).getD [])), wlI 29 5 lb1 lc1 ws1, rowI wb1 wc1 5 1 (byts ((nthV a kk).getD [])), oI z1 25 (dC a k)] w1) => (haveI := Inv.tab (P := Tryd.prog) hI; wdsC w1 a k (hI.atB ha) haa haar haaf m)
    refine TO.loud rfl (l_call ent15 (CallT.of_pure hk56) rfl ?_)
    clear hk56
    rintro vr O' ⟨N, rfl, ws2, lb2, lc2, hw2, rfl, rfl⟩
    refine TO.quiet (q_move rfl) (TO.quiet (q_extract (vs := _) rfl rfl) (TO.quiet (q_extract (vs := _) rfl rfl) (TO.quiet (q_assign rfl) ?_)))
    refine TO.quiet (q_assign rfl) ?_
    refine TO.nil (T.seq (T.seq (T.region ?_)))
    refine TO.quiet (q_move rfl) (TO.quiet (q_move rfl) (TO.quiet (QT.toB (q_neq rfl rfl) (decide_eq_false (fun h => h rfl))) (TO.quiet (q_move rfl) ?_)))
    refine TO.guarded rfl rfl rfl (LT.of_quiet rfl rfl (q_move rfl) ?_)
    refine TO.guarded rfl rfl rfl (LT.of_quiet rfl rfl (q_move rfl) ?_)
    refine TO.guarded rfl rfl rfl (LT.of_quiet rfl rfl (QT.cast (q_bneq Tryd.underlying4 rfl rfl) (v' := .bool false) (by simp)) ?_)
    refine TO.quiet (q_pick0 rfl rfl) (TO.quiet (q_move rfl) ?_)
    refine TO.guarded rfl rfl rfl (LT.of_quiet rfl rfl (q_move rfl) ?_)
    refine TO.guarded rfl rfl rfl (LT.of_quiet rfl rfl (q_move rfl) ?_)
    refine TO.guarded rfl rfl rfl (LT.of_quiet rfl rfl (QT.toB (q_neq rfl rfl) (decide_eq_false (fun h => h rfl))) ?_)
    refine TO.quiet (q_pick0 rfl rfl) (TO.quiet (q_move rfl) ?_)
    refine TO.guarded rfl rfl rfl (LT.of_quiet rfl rfl (q_move rfl) ?_)
    refine TO.guarded rfl rfl rfl (LT.of_quiet rfl rfl (q_move rfl) ?_)
    have hk75 := fun (w1 : World) (hI : Inv w [wlI 29 5 lb2 lc2 ws2, rowI wb2 wc2 5 1 (byts ((nthV a kk).getD [])), wlI 29 5 lb1 lc1 ws1, rowI wb1 wc1 5 1 (byts ((nthV a kk).getD [])), oI z1 25 (dC a k)] w1) => (haveI := Inv.tab (P := Tryd.prog) hI; (show PureT _ _ _ _ _ from by
        have h9 := equalBytes w1 wb2 wb1 wc2 wc1 ((nthV a kk).getD []) ((nthV a kk).getD []) (hI.slOf (List.mem_of_getElem? (i := 1) rfl)) (hI.slOf (List.mem_of_getElem? (i := 3) rfl)) hnl
        rw [decide_eq_true rfl] at h9
        exact h9))
    refine TO.guarded rfl rfl rfl (l_call ent16 (CallT.of_pure hk75) rfl ?_)
    clear hk75
    rintro vr O' ⟨N, rfl, rfl, rfl⟩
    refine TO.guarded rfl rfl rfl (LT.of_quiet rfl rfl (q_not rfl) ?_)
    refine TO.quiet (q_pick0 rfl rfl) (TO.quiet (q_move rfl) ?_)
    refine TO.guarded rfl rfl rfl (LT.of_quiet rfl rfl (q_move rfl) ?_)
    refine TO.guarded rfl rfl rfl (LT.of_quiet rfl rfl (q_move rfl) ?_)
    have hk81 := fun (w1 : World) (hI : Inv w [wlI 29 5 lb2 lc2 ws2, rowI wb2 wc2 5 1 (byts ((nthV a kk).getD [])), wlI 29 5 lb1 lc1 ws1, rowI wb1 wc1 5 1 (byts ((nthV a kk).getD [])), oI z1 25 (dC a k)] w1) => (haveI := Inv.tab (P := Tryd.prog) hI; (show PureT _ _ _ _ _ from by
        have h7 := wlO hI (T2 := 29) (T1 := 5) (ws := ws2) (List.mem_of_getElem? (i := 0) rfl)
        have h8 := wlO hI (T2 := 29) (T1 := 5) (ws := ws1) (List.mem_of_getElem? (i := 2) rfl)
        have h9 := equalWords w1 lb2 lb1 lc2 lc1 ws2 ws1 h7.1 h7.2 (wds_cnt hw2) h8.1 h8.2 (wds_cnt hw1) (wds_lt hw2)
        rw [decide_eq_true (hw2.trans hw1.symm)] at h9
        exact h9))
    refine TO.guarded rfl rfl rfl (l_call ent17 (CallT.of_pure hk81) rfl ?_)
    clear hk81
    rintro vr O' ⟨N, rfl, rfl, rfl⟩
    refine TO.guarded rfl rfl rfl (LT.of_quiet rfl rfl (q_not rfl) ?_)
    refine TO.quiet (q_pick0 rfl rfl) ?_
    refine TO.nil ?_
    refine T.cond0 rfl ?_
    refine T.skip (T.seq (T.region ?_))
    refine TO.quiet (q_move rfl) ?_
    have hk85 := CallT.under (A := [rowI wb2 wc2 5 1 (byts ((nthV a kk).getD []))]) (B := [wlI 29 5 lb2 lc2 ws2, wlI 29 5 lb1 lc1 ws1, rowI wb1 wc1 5 1 (byts ((nthV a kk).getD [])), oI z1 25 (dC a k)]) (O := [wlI 29 5 lb2 lc2 ws2, rowI wb2 wc2 5 1 (byts ((nthV a kk).getD [])), wlI 29 5 lb1 lc1 ws1, rowI wb1 wc1 5 1 (byts ((nthV a kk).getD [])), oI z1 25 (dC a k)]) (overBytes w wb2 wc2 wc2 ((nthV a kk).getD []) hnl) (by exact Sub.pull [wlI 29 5 lb2 lc2 ws2] _ (.k (.k (.k (.k .z)))))
    refine TO.loud rfl (l_call ent18 hk85 rfl ?_)
    clear hk85
    rintro vr O' ⟨A1, rfl, rfl⟩
    refine TO.nil (T.region ?_)
    refine TO.quiet (q_move rfl) ?_
    have hk87 := CallT.under (A := [wlI 29 5 lb2 lc2 ws2]) (B := [wlI 29 5 lb1 lc1 ws1, rowI wb1 wc1 5 1 (byts ((nthV a kk).getD [])), oI z1 25 (dC a k)]) (O := [wlI 29 5 lb2 lc2 ws2, wlI 29 5 lb1 lc1 ws1, rowI wb1 wc1 5 1 (byts ((nthV a kk).getD [])), oI z1 25 (dC a k)]) (overWords w lb2 lc2 ws2 (wds_cnt hw2) (wds_lt hw2)) (by exact Sub.rf)
    refine TO.loud rfl (l_call ent19 hk87 rfl ?_)
    clear hk87
    rintro vr O' ⟨A1, rfl, rfl⟩
    refine TO.nil (T.region ?_)
    refine TO.quiet (q_move rfl) (TO.quiet (q_addN (a := r) (b := 1) rfl rfl (by omega)) (TO.quiet (q_assign rfl) ?_))
    refine TO.nil ?_
    exact ⟨r + 1, by omega, [wlI 29 5 lb1 lc1 ws1, rowI wb1 wc1 5 1 (byts ((nthV a kk).getD [])), oI z1 25 (dC a k)], (by exact Sub.rf), rfl, by omega, ⟨rfl, rfl, rfl, rfl, rfl, rfl, rfl, rfl, rfl, rfl, trivial⟩⟩
  have hge43 : ¬ r < 2 := by omega
  refine T.exit ?_
  refine T.seq (T.region ?_)
  have hk88 := fun (w1 : World) (hI : Inv w [wlI 29 5 lb1 lc1 ws1, rowI wb1 wc1 5 1 (byts ((nthV a kk).getD [])), oI z1 25 (dC a k)] w1) => (haveI := Inv.tab (P := Tryd.prog) hI; awakeC w1)
  refine TO.loud rfl (l_call ent11 (CallT.of_pure hk88) rfl ?_)
  clear hk88
  rintro vr O' ⟨N, rfl, rfl, rfl⟩
  refine TO.quiet (q_assign rfl) ?_
  refine TO.nil (T.ret (Res.drop ?_))
  refine Res.one (.bool true) Tryd.results3 rfl ?_
  exact ⟨[], Sub.z, rfl, rfl⟩
theorem listsLaw (w : World) [Tab Tryd.prog w] (a : DFA) (nba fba : Option Addr) (nca fca : Nat) (vsa : List Value) (ha : DfaAt w a nba vsa fba) (haa : a.next.length < 9223372036854775807) (haar : ∀ r ∈ a.next, r.length < 9223372036854775807) (haaf : a.final.length < 9223372036854775807) (kk : Int) (hk : 0 ≤ kk) (m : Int) :
    PureT Tryd.prog 3 [.agg (dfaCells a nba nca fba fca).toArray, .int .u64 kk, .int .i64 m] w fun v N => v = .bool true ∧ N = [] := by
  obtain ⟨ja, ga, ea⟩ := ha.dk nca fca
  rw [ea]
  obtain ⟨kk, rfl⟩ : ∃ n : Nat, kk = (n : Int) := ⟨kk.toNat, by omega⟩
  exact listsW w a ja ga haa haar haaf kk m
end Go.Proofs.YtnmfefmhfkhihaaDoor

