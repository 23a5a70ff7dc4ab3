/- Contracts of functions of the program (QcS): what each call answers and that it leaves memory as it was. Conditions: those each theorem names. -/
import Derived.Test.YtnpehjpookcfkaaDoorDR
import Derived.Test.YtnpehjpookcfkaaDoorEndC
import Derived.Test.YtnpehjpookcfkaaDoorC5
set_option linter.unusedSectionVars false
set_option linter.unusedSimpArgs false
set_option linter.unusedVariables false
set_option linter.unnecessarySimpa false
namespace Go.Proofs.YtnpehjpookcfkaaDoor
open Go.Lx Go.RowKit
set_option linter.unusedVariables false
set_option linter.unusedSimpArgs false
set_option maxHeartbeats 8000000 in
set_option maxRecDepth 20000 in
theorem saturatesW (w : World) [Tab Tryd.prog w] (d : DFA) (jd : DK) (hd : At w d jd) (bd : BdA d) (a g : DFA) (ja jg : DK) (ha : At w a ja) (hg : At w g jg) (ba : BdA a) (bg : BdA g) :
    PureT Tryd.prog 6 [dV d jd, cV a g ja jg] w fun v N => v = .bool true ∧ N = [] := by
  refine CallT.enter Tryd.func6 rfl Tryd.ntmps6 rfl ?_
  obtain ⟨z, X, A, G, M, N, px, p, q, bI, h⟩ := sat_x d a g
  refine T.seq (T.region ?_)
  refine TO.loud rfl (l_box (v := (dV d jd)) (cs := (dC d jd)) rfl rfl (fun z1 => ?_))
  refine TO.loud rfl (l_box (v := (cV a g ja jg)) (cs := (cC a g ja jg)) rfl rfl (fun z2 => ?_))
  refine TO.quiet (q_assign rfl) ?_
  refine TO.nil ?_
  refine T.cut (fun ρ O => ∃ (b5 : Nat) (kX : DK) (b6 : Nat) (kA : DK) (kG : DK), O = [oI b5 25 (dC X kX), oI b6 27 (cC A G kA kG), dI 54 4 3 X kX, dI 54 4 3 A kA, dI 54 4 3 G kG, oI z2 27 (cC a g ja jg), oI z1 25 (dC d jd)] ∧ Heads [(0, (dV d jd)), (1, (cV a g ja jg)), (2, (.pointer (some ⟨z1, 0, none⟩))), (3, (.pointer (some ⟨z2, 0, none⟩))), (4, .bool false), (5, (.pointer (some ⟨b5, 0, none⟩))), (6, (.pointer (some ⟨b6, 0, none⟩)))] ρ) ?_ ?_
  · refine T.treeT [oI z2 27 (cC a g ja jg), oI z1 25 (dC d jd)] [6, 7] 8 mixed rfl (by exact Sub.rf) (fun _ _ _ h => h) ?_
    refine RO.quietTT 0 rfl (by kernel_rfl) (q_load_boxAgg 1 Tryd.underlying25 rfl inf25 rfl rfl rfl) ?_
    refine RO.quietTT 2 rfl (by kernel_rfl) (q_load_boxAgg 0 Tryd.underlying27 rfl inf27 rfl rfl rfl) ?_
    refine RO.makers (Wt := WtM) (fuel := 2) [⟨1, 15, fun x => (dV X x.k), fun x => [dI 54 4 3 X x.k]⟩, ⟨4, 5, fun x => (.pointer (some ⟨x.n, 0, none⟩)), fun x => [oI x.n 25 [(.int .i64 0), (.int .i64 0), (.slice none 0 0), (.slice none 0 0)]]⟩, ⟨3, 17, fun x => (cV A G x.k x.k2), fun x => [dI 54 4 3 A x.k, dI 54 4 3 G x.k2]⟩, ⟨5, 6, fun x => (.pointer (some ⟨x.n, 0, none⟩)), fun x => [oI x.n 27 [(.int .i64 0), (.int .i64 0), (.slice none 0 0), (.slice none 0 0), (.int .i64 0), (.int .i64 0), (.slice none 0 0), (.slice none 0 0)]]⟩] [(0, (dV d jd)), (1, (cV a g ja jg)), (2, (.pointer (some ⟨z1, 0, none⟩))), (3, (.pointer (some ⟨z2, 0, none⟩))), (4, .bool false), (14, (dV d jd)), (16, (cV a g ja jg))] (fun _ => WtM.z) (by kernel_rfl) (by exact Sub.rf) ?_ ?_ ⟨rfl, rfl, rfl, rfl, rfl, rfl, rfl, trivial⟩
    · intro q hq
      simp only [List.mem_cons, List.not_mem_nil, or_false] at hq
      rcases hq with rfl | rfl | rfl | rfl
      · refine ⟨_, rfl, rfl, fun ρ O hS hH => ?_⟩
        obtain ⟨ρ0, rfl⟩ := hH.elim
        clear hH
        have hk15 := fun (w1 : World) (hI : Inv w O w1) => (haveI := Inv.tab (P := Tryd.prog) hI; subE w1 d jd (hI.atB hd) bd 4 (by decide) (by decide) h.eX)
        refine l_call ent9 (CallT.of_pure hk15) rfl ?_
        clear hk15
        rintro vr O' ⟨N, rfl, kX, rfl, rfl⟩
        exact ⟨{ WtM.z with k := kX }, rfl, rfl⟩
      · refine ⟨_, rfl, rfl, fun ρ O hS hH => ?_⟩
        obtain ⟨ρ0, rfl⟩ := hH.elim
        clear hH
        exact l_alloc inf25 rfl (fun b5 => ⟨{ WtM.z with n := b5 }, rfl, rfl⟩)
      · refine ⟨_, rfl, rfl, fun ρ O hS hH => ?_⟩
        obtain ⟨ρ0, rfl⟩ := hH.elim
        clear hH
        have hk17 := fun (w1 : World) (hI : Inv w O w1) => (haveI := Inv.tab (P := Tryd.prog) hI; tameC w1 a g ja jg (hI.atB ha) (hI.atB hg) ba bg h.eA h.eG)
        refine l_call ent10 (CallT.of_pure hk17) rfl ?_
        clear hk17
        rintro vr O' ⟨N, rfl, kA, kG, rfl, rfl⟩
        exact ⟨{ WtM.z with k := kA, k2 := kG }, rfl, rfl⟩
      · refine ⟨_, rfl, rfl, fun ρ O hS hH => ?_⟩
        obtain ⟨ρ0, rfl⟩ := hH.elim
        clear hH
        exact l_alloc inf27 rfl (fun b6 => ⟨{ WtM.z with n := b6 }, rfl, rfl⟩)
    intro wm ρ hH
    obtain ⟨kX, e9kX⟩ : ∃ x, x = (wm 1).k := ⟨_, rfl⟩
    obtain ⟨b5, e9b5⟩ : ∃ x, x = (wm 4).n := ⟨_, rfl⟩
    obtain ⟨kA, e9kA⟩ : ∃ x, x = (wm 3).k := ⟨_, rfl⟩
    obtain ⟨kG, e9kG⟩ : ∃ x, x = (wm 3).k2 := ⟨_, rfl⟩
    obtain ⟨b6, e9b6⟩ : ∃ x, x = (wm 5).n := ⟨_, rfl⟩
    have hH2 : Heads [(15, (dV X kX)), (5, (.pointer (some ⟨b5, 0, none⟩))), (17, (cV A G kA kG)), (6, (.pointer (some ⟨b6, 0, none⟩))), (0, (dV d jd)), (1, (cV a g ja jg)), (2, (.pointer (some ⟨z1, 0, none⟩))), (3, (.pointer (some ⟨z2, 0, none⟩))), (4, .bool false), (14, (dV d jd)), (16, (cV a g ja jg))] ρ := by subst e9kX e9b5 e9kA e9kG e9b6; exact hH
    refine RO.sub (O' := [dI 54 4 3 X kX, oI b5 25 [(.int .i64 0), (.int .i64 0), (.slice none 0 0), (.slice none 0 0)], dI 54 4 3 A kA, dI 54 4 3 G kG, oI b6 27 [(.int .i64 0), (.int .i64 0), (.slice none 0 0), (.slice none 0 0), (.int .i64 0), (.int .i64 0), (.slice none 0 0), (.slice none 0 0)], oI z2 27 (cC a g ja jg), oI z1 25 (dC d jd)]) (by subst e9kX e9b5 e9kA e9kG e9b6; exact Sub.rf) ?_
    clear hH e9kX e9b5 e9kA e9kG e9b6
    obtain ⟨ρ0, rfl⟩ := hH2.elim
    clear hH2
    refine RO.forkT [6] (by kernel_rfl) rfl ⟨⟨_, rfl, rfl, l_store_box (v := (dV X kX)) (vs := (dC X kX)) 1 inf25 rfl rfl rfl rfl rfl rfl (by simp [putL]) ⟨.inl (by decide), ?_⟩⟩, trivial⟩ (by kernel_rfl)
    refine RO.sub (O' := [dI 54 4 3 X kX, oI b5 25 (dC X kX), dI 54 4 3 A kA, dI 54 4 3 G kG, oI b6 27 [(.int .i64 0), (.int .i64 0), (.slice none 0 0), (.slice none 0 0), (.int .i64 0), (.int .i64 0), (.slice none 0 0), (.slice none 0 0)], oI z2 27 (cC a g ja jg), oI z1 25 (dC d jd)]) (by exact Sub.rf) ?_
    refine RO.forkT [7] (by kernel_rfl) rfl ⟨⟨_, rfl, rfl, l_store_box (v := (cV A G kA kG)) (vs := (cC A G kA kG)) 4 inf27 rfl rfl rfl rfl rfl rfl (by simp [putL]) ⟨.inl (by decide), ?_⟩⟩, trivial⟩ (by kernel_rfl)
    refine RO.sub (O' := [dI 54 4 3 X kX, oI b5 25 (dC X kX), dI 54 4 3 A kA, dI 54 4 3 G kG, oI b6 27 (cC A G kA kG), oI z2 27 (cC a g ja jg), oI z1 25 (dC d jd)]) (by exact Sub.rf) ?_
    exact RO.fin (by kernel_rfl) ⟨b5, kX, b6, kA, kG, rfl, ⟨rfl, rfl, rfl, rfl, rfl, rfl, rfl, trivial⟩⟩ (Sub.pick [1, 3, 0, 0, 0, 0, 0] rfl)
  rintro ρ O ⟨b5, kX, b6, kA, kG, rfl, hH⟩
  obtain ⟨ρ0, rfl⟩ := hH.elim
  clear hH
  refine T.seq (T.region ?_)
  refine TO.quiet (q_load_boxAgg 1 Tryd.underlying27 rfl inf27 rfl rfl rfl) ?_
  have hk20 := fun (w1 : World) (hI : Inv w [oI b5 25 (dC X kX), oI b6 27 (cC A G kA kG), dI 54 4 3 X kX, dI 54 4 3 A kA, dI 54 4 3 G kG, oI z2 27 (cC a g ja jg), oI z1 25 (dC d jd)] w1) => (haveI := Inv.tab (P := Tryd.prog) hI; satX w1 h.hz h.a h.g kA kG (hI.at (k := kA) (List.mem_of_getElem? (i := 3) rfl)) (hI.at (k := kG) (List.mem_of_getElem? (i := 4) rfl)) h.eM h.eN)
  refine TO.loud rfl (l_call ent23 (CallT.of_pure hk20) rfl ?_)
  clear hk20
  rintro vr O' ⟨N, rfl, kM, kN, rfl, rfl⟩
  refine TO.quiet (q_move rfl) (TO.quiet (q_extract (vs := _) rfl rfl) (TO.quiet (q_extract (vs := _) rfl rfl) ?_))
  refine TO.loud rfl (l_alloc inf27 rfl (fun z3 => ?_))
  refine TO.loud rfl (l_store_box (v := (cV M N kM kN)) (vs := (cC M N kM kN)) 0 inf27 rfl rfl rfl rfl rfl rfl (by simp [putL]) ?_)
  refine TO.quiet (q_assign rfl) ?_
  refine TO.nil (T.seq (T.region ?_))
  refine TO.quiet (q_load_boxAgg 0 Tryd.underlying27 rfl inf27 rfl rfl rfl) ?_
  have hk25 := fun (w1 : World) (hI : Inv w [oI z3 27 (cC M N kM kN), dI 54 4 3 M kM, dI 54 4 3 N kN, oI b5 25 (dC X kX), oI b6 27 (cC A G kA kG), dI 54 4 3 X kX, dI 54 4 3 A kA, dI 54 4 3 G kG, oI z2 27 (cC a g ja jg), oI z1 25 (dC d jd)] w1) => (haveI := Inv.tab (P := Tryd.prog) hI; satX w1 h.hz h.m h.n kM kN (hI.at (k := kM) (List.mem_of_getElem? (i := 1) rfl)) (hI.at (k := kN) (List.mem_of_getElem? (i := 2) rfl)) h.eM2 h.eN2)
  refine TO.loud rfl (l_call ent23 (CallT.of_pure hk25) rfl ?_)
  clear hk25
  rintro vr O' ⟨N, rfl, kM2, kN2, rfl, rfl⟩
  refine TO.quiet (q_move rfl) (TO.quiet (q_extract (vs := _) rfl rfl) (TO.quiet (q_extract (vs := _) rfl rfl) ?_))
  refine TO.loud rfl (l_alloc inf27 rfl (fun z4 => ?_))
  refine TO.loud rfl (l_store_box (v := (cV M N kM2 kN2)) (vs := (cC M N kM2 kN2)) 0 inf27 rfl rfl rfl rfl rfl rfl (by simp [putL]) ?_)
  refine TO.quiet (q_assign rfl) ?_
  refine TO.nil ?_
  refine T.reset [oI z4 27 (cC M N kM2 kN2), dI 54 4 3 M kM2, dI 54 4 3 N kN2, oI z3 27 (cC M N kM kN), dI 54 4 3 M kM, dI 54 4 3 N kN, oI b5 25 (dC X kX), oI b6 27 (cC A G kA kG), dI 54 4 3 X kX, dI 54 4 3 A kA, dI 54 4 3 G kG, oI z2 27 (cC a g ja jg), oI z1 25 (dC d jd)] [(0, (dV d jd)), (1, (cV a g ja jg)), (2, (.pointer (some ⟨z1, 0, none⟩))), (3, (.pointer (some ⟨z2, 0, none⟩))), (4, .bool false), (5, (.pointer (some ⟨b5, 0, none⟩))), (6, (.pointer (some ⟨b6, 0, none⟩))), (7, (.pointer (some ⟨z3, 0, none⟩))), (8, .int .i64 0), (9, (.pointer (some ⟨z4, 0, none⟩))), (10, .int .i64 0)] rfl ⟨rfl, rfl, rfl, rfl, rfl, rfl, rfl, rfl, rfl, rfl, rfl, trivial⟩ (fun ρ0 => ?_)
  refine T.seq (T.region ?_)
  refine TO.quiet (q_load_boxAgg 6 Tryd.underlying25 rfl inf25 rfl rfl rfl) (TO.quiet (q_fieldAddr Tryd.underlying27 rfl inf25 rfl rfl) (TO.quiet (q_load_part 3 (vs := (dC N kN)) Tryd.underlying25 rfl inf25 rfl rfl rfl rfl) ?_))
  have hk32 := fun (w1 : World) (hI : Inv w [oI z4 27 (cC M N kM2 kN2), dI 54 4 3 M kM2, dI 54 4 3 N kN2, oI z3 27 (cC M N kM kN), dI 54 4 3 M kM, dI 54 4 3 N kN, oI b5 25 (dC X kX), oI b6 27 (cC A G kA kG), dI 54 4 3 X kX, dI 54 4 3 A kA, dI 54 4 3 G kG, oI z2 27 (cC a g ja jg), oI z1 25 (dC d jd)] w1) => (haveI := Inv.tab (P := Tryd.prog) hI; inclR w1 h.hz h.zl h.x h.n kX kN (hI.at (k := kX) (List.mem_of_getElem? (i := 8) rfl)) (hI.at (k := kN) (List.mem_of_getElem? (i := 5) rfl)) h.b3)
  refine TO.loud rfl (l_call ent24 (CallT.of_pure hk32) rfl ?_)
  clear hk32
  rintro vr O' ⟨N, rfl, res1, wb1, wc1, hL1, he1, rfl, rfl⟩
  refine TO.quiet (q_move rfl) (TO.quiet (q_extract (vs := _) rfl rfl) (TO.quiet (q_extract (vs := _) rfl rfl) (TO.quiet (q_extract (vs := _) rfl rfl) ?_)))
  refine TO.quiet (q_assign rfl) (TO.quiet (q_assign rfl) (TO.quiet (q_assign rfl) ?_))
  refine TO.sub (O' := [oI z4 27 (cC M N kM2 kN2), dI 54 4 3 M kM2, dI 54 4 3 N kN2, oI z3 27 (cC M N kM kN), dI 54 4 3 M kM, dI 54 4 3 N kN, oI b5 25 (dC X kX), oI b6 27 (cC A G kA kG), dI 54 4 3 X kX, dI 54 4 3 A kA, dI 54 4 3 G kG]) (by exact Sub.d (.k (.k (.k (.k (.k (.k (.k (.k (.k (.k (.k .z)))))))))))) ?_
  refine TO.nil (T.seq ?_)
  refine T.draws [oI z4 27 (cC M N kM2 kN2), oI z3 27 (cC M N kM kN), oI b5 25 (dC X kX), oI b6 27 (cC A G kA kG)] [(0, 0), (1, 0), (2, 0), (3, 0), (4, 0), (5, 0), (6, 0), (7, 0), (8, 0), (9, 0), (10, 0), (11, 0), (12, 0), (13, 1), (14, 0), (15, 0), (16, 0), (17, 0), (19, 0), (20, 0), (18, 1), (21, 1), (22, 0), (23, 0), (24, 0), (25, 0), (26, 0), (28, 0), (27, 1), (29, 0), (30, 0), (31, 0), (32, 0), (33, 0), (34, 0), (35, 1), (36, 0), (37, 0), (38, 0), (39, 0), (40, 1), (41, 0), (42, 0), (43, 0), (44, 0), (45, 2), (46, 2), (47, 2), (48, 2), (49, 2), (50, 2)] mixed (drawF_ok (by kernel_rfl)) (by exact Sub.k (.d (.d (.k (.d (.d (.k (.k .z)))))))) (fun _ _ _ h => h) ?_
  refine DO.quiet rfl (q_move rfl) (DO.quiet rfl (QT.toB (q_eql rfl rfl) (decide_eq_true rfl)) (DO.quiet rfl (q_move rfl) ?_))
  refine DO.guarded rfl rfl rfl (q_move rfl) ?_
  refine DO.guarded rfl rfl rfl (QT.toB (q_eql rfl rfl) (decide_eq_true rfl)) ?_
  refine DO.quiet rfl (q_pick1 rfl rfl) (DO.quiet rfl (q_move rfl) ?_)
  refine DO.guarded rfl rfl rfl (q_move rfl) ?_
  refine DO.guarded rfl rfl rfl (QT.toB (q_eql rfl rfl) (decide_eq_true rfl)) ?_
  refine DO.quiet rfl (q_pick1 rfl rfl) (DO.quiet rfl (q_move rfl) ?_)
  refine DO.guarded rfl rfl rfl (q_load_boxAgg 1 Tryd.underlying27 rfl inf27 rfl rfl rfl) ?_
  refine DO.guarded rfl rfl rfl (q_load_boxAgg 0 Tryd.underlying27 rfl inf27 rfl rfl rfl) ?_
  have hk49 := fun (w1 : World) (hI : Inv w [oI z4 27 (cC M N kM2 kN2), dI 54 4 3 M kM2, dI 54 4 3 N kN2, oI z3 27 (cC M N kM kN), dI 54 4 3 M kM, dI 54 4 3 N kN, oI b5 25 (dC X kX), oI b6 27 (cC A G kA kG), dI 54 4 3 X kX, dI 54 4 3 A kA, dI 54 4 3 G kG] w1) => (haveI := Inv.tab (P := Tryd.prog) hI; equalC w1 M N kM kN kM2 kN2 (hI.at (k := kM) (List.mem_of_getElem? (i := 4) rfl)) (hI.at (k := kN) (List.mem_of_getElem? (i := 5) rfl)) (hI.at (k := kM2) (List.mem_of_getElem? (i := 1) rfl)) (hI.at (k := kN2) (List.mem_of_getElem? (i := 2) rfl)) h.m.bds h.n.bds)
  refine DO.loudG rfl rfl rfl rfl (l_call ent18 (CallT.of_pure hk49) rfl ?_)
  clear hk49
  rintro vr O' ⟨N, rfl, rfl, rfl⟩
  refine ⟨by exact Sub.k (.d (.d (.k (.d (.d (.k (.k .z))))))), ?_⟩
  refine DO.quiet rfl (q_pick1 rfl rfl) (DO.quiet rfl (q_move rfl) ?_)
  refine DO.guarded rfl rfl rfl (q_load_boxAgg 2 Tryd.underlying25 rfl inf25 rfl rfl rfl) ?_
  refine DO.guarded rfl rfl rfl (q_load_boxAgg 3 Tryd.underlying27 rfl inf27 rfl rfl rfl) ?_
  refine DO.guarded rfl rfl rfl (q_load_boxAgg 2 Tryd.underlying25 rfl inf25 rfl rfl rfl) ?_
  refine DO.guarded rfl rfl rfl (q_load_boxAgg 1 Tryd.underlying27 rfl inf27 rfl rfl rfl) ?_
  have hk54 := fun (w1 : World) (hI : Inv w [oI z4 27 (cC M N kM2 kN2), dI 54 4 3 M kM2, dI 54 4 3 N kN2, oI z3 27 (cC M N kM kN), dI 54 4 3 M kM, dI 54 4 3 N kN, oI b5 25 (dC X kX), oI b6 27 (cC A G kA kG), dI 54 4 3 X kX, dI 54 4 3 A kA, dI 54 4 3 G kG] w1) => (haveI := Inv.tab (P := Tryd.prog) hI; implZ w1 h.hz h.x h.a h.g kX kA kG (hI.at (k := kX) (List.mem_of_getElem? (i := 8) rfl)) (hI.at (k := kA) (List.mem_of_getElem? (i := 9) rfl)) (hI.at (k := kG) (List.mem_of_getElem? (i := 10) rfl)) h.b1)
  refine DO.loudG rfl rfl rfl rfl (l_call ent22 (CallT.of_pure hk54) rfl ?_)
  clear hk54
  rintro vr O' ⟨N, rfl, rfl, rfl⟩
  refine ⟨by exact Sub.k (.d (.d (.k (.d (.d (.k (.k .z))))))), ?_⟩
  have hk57 := fun (w1 : World) (hI : Inv w [oI z4 27 (cC M N kM2 kN2), dI 54 4 3 M kM2, dI 54 4 3 N kN2, oI z3 27 (cC M N kM kN), dI 54 4 3 M kM, dI 54 4 3 N kN, oI b5 25 (dC X kX), oI b6 27 (cC A G kA kG), dI 54 4 3 X kX, dI 54 4 3 A kA, dI 54 4 3 G kG] w1) => (haveI := Inv.tab (P := Tryd.prog) hI; implZ w1 h.hz h.x h.m h.n kX kM kN (hI.at (k := kX) (List.mem_of_getElem? (i := 8) rfl)) (hI.at (k := kM) (List.mem_of_getElem? (i := 4) rfl)) (hI.at (k := kN) (List.mem_of_getElem? (i := 5) rfl)) h.b2)
  refine DO.loudG rfl rfl rfl rfl (l_call ent22 (CallT.of_pure hk57) rfl ?_)
  clear hk57
  rintro vr O' ⟨N, rfl, rfl, rfl⟩
  refine ⟨by exact Sub.k (.d (.d (.k (.d (.d (.k (.k .z))))))), ?_⟩
  refine DO.guarded rfl rfl rfl (QT.cast (q_beql Tryd.underlying4 rfl rfl) (v' := .bool true) (congrArg Value.bool (beq_self_eq_true _))) ?_
  refine DO.quiet rfl (q_pick1 rfl rfl) (DO.quiet rfl (q_move rfl) ?_)
  refine DO.guarded rfl rfl rfl (q_load_boxAgg 2 Tryd.underlying25 rfl inf25 rfl rfl rfl) ?_
  refine DO.guarded rfl rfl rfl (q_load_boxAgg 3 Tryd.underlying27 rfl inf27 rfl rfl rfl) ?_
  refine DO.guarded rfl rfl rfl (q_move rfl) ?_
  have hk63 := fun (w1 : World) (hI : Inv w [oI z4 27 (cC M N kM2 kN2), dI 54 4 3 M kM2, dI 54 4 3 N kN2, oI z3 27 (cC M N kM kN), dI 54 4 3 M kM, dI 54 4 3 N kN, oI b5 25 (dC X kX), oI b6 27 (cC A G kA kG), dI 54 4 3 X kX, dI 54 4 3 A kA, dI 54 4 3 G kG] w1) => (haveI := Inv.tab (P := Tryd.prog) hI; implZ w1 h.hz h.x h.a h.g kX kA kG (hI.at (k := kX) (List.mem_of_getElem? (i := 8) rfl)) (hI.at (k := kA) (List.mem_of_getElem? (i := 9) rfl)) (hI.at (k := kG) (List.mem_of_getElem? (i := 10) rfl)) h.b1)
  refine DO.loudG rfl rfl rfl rfl (l_call ent22 (CallT.of_pure hk63) rfl ?_)
  clear hk63
  rintro vr O' ⟨N, rfl, rfl, rfl⟩
  refine ⟨by exact Sub.k (.d (.d (.k (.d (.d (.k (.k .z))))))), ?_⟩
  refine DO.guarded rfl rfl rfl (QT.cast (q_beql Tryd.underlying4 rfl rfl) (v' := .bool true) (congrArg Value.bool (beq_self_eq_true _))) ?_
  refine DO.quiet rfl (q_pick1 rfl rfl) (DO.quiet rfl (q_move rfl) ?_)
  refine DO.guarded rfl rfl rfl (q_fieldAddr Tryd.underlying27 rfl inf25 rfl rfl) ?_
  refine DO.guarded rfl rfl rfl (q_load_part 1 (vs := (dC N kN)) Tryd.underlying25 rfl inf25 rfl rfl rfl rfl) ?_
  refine DO.guarded rfl rfl rfl (q_load_boxAgg 3 Tryd.underlying27 rfl inf27 rfl rfl rfl) ?_
  have hk71 := fun (w1 : World) (hI : Inv w [oI z4 27 (cC M N kM2 kN2), dI 54 4 3 M kM2, dI 54 4 3 N kN2, oI z3 27 (cC M N kM kN), dI 54 4 3 M kM, dI 54 4 3 N kN, oI b5 25 (dC X kX), oI b6 27 (cC A G kA kG), dI 54 4 3 X kX, dI 54 4 3 A kA, dI 54 4 3 G kG] w1) => (haveI := Inv.tab (P := Tryd.prog) hI; implZ w1 h.hz h.n h.a h.g kN kA kG (hI.at (k := kN) (List.mem_of_getElem? (i := 5) rfl)) (hI.at (k := kA) (List.mem_of_getElem? (i := 9) rfl)) (hI.at (k := kG) (List.mem_of_getElem? (i := 10) rfl)) h.b4)
  refine DO.loudG rfl rfl rfl rfl (l_call ent22 (CallT.of_pure hk71) rfl ?_)
  clear hk71
  rintro vr O' ⟨N, rfl, rfl, rfl⟩
  refine ⟨by exact Sub.k (.d (.d (.k (.d (.d (.k (.k .z))))))), ?_⟩
  refine DO.quiet rfl (q_pick1 rfl rfl) (DO.quiet rfl (q_move rfl) ?_)
  refine DO.guarded rfl rfl rfl (q_load_boxAgg 3 Tryd.underlying27 rfl inf27 rfl rfl rfl) ?_
  refine DO.guarded rfl rfl rfl (q_load_boxAgg 1 Tryd.underlying27 rfl inf27 rfl rfl rfl) ?_
  have hk76 := fun (w1 : World) (hI : Inv w [oI z4 27 (cC M N kM2 kN2), dI 54 4 3 M kM2, dI 54 4 3 N kN2, oI z3 27 (cC M N kM kN), dI 54 4 3 M kM, dI 54 4 3 N kN, oI b5 25 (dC X kX), oI b6 27 (cC A G kA kG), dI 54 4 3 X kX, dI 54 4 3 A kA, dI 54 4 3 G kG] w1) => (haveI := Inv.tab (P := Tryd.prog) hI; refZ w1 h.hz h.a h.g h.m h.n kA kG kM kN (hI.at (k := kA) (List.mem_of_getElem? (i := 9) rfl)) (hI.at (k := kG) (List.mem_of_getElem? (i := 10) rfl)) (hI.at (k := kM) (List.mem_of_getElem? (i := 4) rfl)) (hI.at (k := kN) (List.mem_of_getElem? (i := 5) rfl)) h.r1)
  refine DO.loudG rfl rfl rfl rfl (l_call ent19 (CallT.of_pure hk76) rfl ?_)
  clear hk76
  rintro vr O' ⟨N, rfl, rfl, rfl⟩
  refine ⟨by exact Sub.k (.d (.d (.k (.d (.d (.k (.k .z))))))), ?_⟩
  refine DO.quiet rfl (q_pick1 rfl rfl) (DO.quiet rfl (q_move rfl) ?_)
  refine DO.guarded rfl rfl rfl (q_load_boxAgg 1 Tryd.underlying27 rfl inf27 rfl rfl rfl) ?_
  refine DO.guarded rfl rfl rfl (q_load_boxAgg 3 Tryd.underlying27 rfl inf27 rfl rfl rfl) ?_
  have hk81 := fun (w1 : World) (hI : Inv w [oI z4 27 (cC M N kM2 kN2), dI 54 4 3 M kM2, dI 54 4 3 N kN2, oI z3 27 (cC M N kM kN), dI 54 4 3 M kM, dI 54 4 3 N kN, oI b5 25 (dC X kX), oI b6 27 (cC A G kA kG), dI 54 4 3 X kX, dI 54 4 3 A kA, dI 54 4 3 G kG] w1) => (haveI := Inv.tab (P := Tryd.prog) hI; refZ w1 h.hz h.m h.n h.a h.g kM kN kA kG (hI.at (k := kM) (List.mem_of_getElem? (i := 4) rfl)) (hI.at (k := kN) (List.mem_of_getElem? (i := 5) rfl)) (hI.at (k := kA) (List.mem_of_getElem? (i := 9) rfl)) (hI.at (k := kG) (List.mem_of_getElem? (i := 10) rfl)) h.r2)
  refine DO.lastG rfl rfl rfl rfl (l_call ent19 (CallT.of_pure hk81) rfl ?_)
  clear hk81
  rintro vr O' ⟨N, rfl, rfl, rfl⟩
  refine DO.last rfl rfl (LT.of_quiet rfl rfl (q_pick1 rfl rfl) ?_)
  refine DO.last rfl rfl (LT.of_quiet rfl rfl (q_move rfl) ?_)
  have hk84 := fun (w1 : World) (hI : Inv w [oI z4 27 (cC M N kM2 kN2), dI 54 4 3 M kM2, dI 54 4 3 N kN2, oI z3 27 (cC M N kM kN), dI 54 4 3 M kM, dI 54 4 3 N kN, oI b5 25 (dC X kX), oI b6 27 (cC A G kA kG), dI 54 4 3 X kX, dI 54 4 3 A kA, dI 54 4 3 G kG] w1) => (haveI := Inv.tab (P := Tryd.prog) hI; awakeC w1)
  refine DO.lastG rfl rfl rfl rfl (l_call ent15 (CallT.of_pure hk84) rfl ?_)
  clear hk84
  rintro vr O' ⟨N, rfl, rfl, rfl⟩
  refine DO.last rfl rfl (LT.of_quiet rfl rfl (q_pick1 rfl rfl) ?_)
  refine DO.last rfl rfl (LT.of_quiet rfl rfl (q_assign rfl) ?_)
  refine DO.done ?_
  refine T.ret (Res.drop ?_)
  refine Res.one (.bool true) Tryd.results6 rfl ?_
  exact ⟨[], Sub.z, rfl, rfl⟩
end Go.Proofs.YtnpehjpookcfkaaDoor
