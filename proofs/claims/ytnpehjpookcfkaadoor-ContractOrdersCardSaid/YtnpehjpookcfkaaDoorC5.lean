/- Contracts of functions of the program (C3, Run, Cml, Caw, C4, Cax, C5): what each call answers and that it leaves memory as it was. Conditions: those each theorem names. -/
import Derived.Test.YtnpehjpookcfkaaDoorDR
import Derived.Test.YtnpehjpookcfkaaDoorC2
import Derived.Test.YtnpehjpookcfkaaDoorRen
import Derived.Test.YtnpehjpookcfkaaDoorFacts
set_option linter.unusedSectionVars false
set_option linter.unusedSimpArgs false
set_option linter.unusedVariables false
set_option linter.unnecessarySimpa false
namespace Go.Proofs.YtnpehjpookcfkaaDoor
open Go.Lx Go.RowKit
set_option linter.unusedVariables false
set_option linter.unusedSimpArgs false
set_option maxHeartbeats 8000000 in
set_option maxRecDepth 20000 in
theorem implC (w : World) [Tab Tryd.prog w] {z x a g : DFA} {px p q : List Nat → Bool} (hz : Valid z) (hx : InL z x px) (ha : InL z a p) (hg : InL z g q) (i j k : DK) (hi : At w x i) (hj : At w a j) (hk : At w g k) :
    PureT Tryd.prog 12 [dV x i, cV a g j k] w fun v N => ∃ res wb wc, LeastA (opD minusB (opD andB x a) g) res ∧ v = .tuple #[.slice wb (res.getD []).length wc, .bool (!res.isSome), .int .i64 0] ∧ N = [rowI wb wc 5 1 (byts (res.getD []))] := by
  refine CallT.enter Tryd.func12 rfl Tryd.ntmps12 rfl ?_
  have hm1 := (InL.op (f := andB) hz hx ha).2
  obtain ⟨m1, em1⟩ : ∃ m, opD andB x a = m := ⟨_, rfl⟩
  rw [em1] at hm1
  have hm2 := (InL.op (f := minusB) hz hm1 hg).2
  obtain ⟨m2, em2⟩ : ∃ m, opD minusB m1 g = m := ⟨_, rfl⟩
  rw [em2] at hm2
  refine T.seq (T.region ?_)
  refine TO.loud rfl (l_box (v := (dV x i)) (cs := (dC x i)) rfl rfl (fun y1 => ?_))
  refine TO.loud rfl (l_box (v := (cV a g j k)) (cs := (cC a g j k)) rfl rfl (fun y2 => ?_))
  refine TO.quiet (q_assign rfl) (TO.quiet (q_assign rfl) (TO.quiet (q_assign rfl) ?_))
  refine TO.nil (T.seq (T.seq (T.region ?_)))
  refine TO.quiet (q_load_boxAgg 1 Tryd.underlying25 rfl inf25 rfl rfl rfl) ?_
  have hk12 := fun (w1 : World) (hI : Inv w [oI y2 27 (cC a g j k), oI y1 25 (dC x i)] w1) => (haveI := Inv.tab (P := Tryd.prog) hI; (show PureT _ _ _ _ _ from by
      have h9 := subsetCheck w1 x i.nb i.fb i.nc i.fc (vals i.qs) (hI.dfa hi) hx.bds.1 hx.bds.2.1 hx.bds.2.2
      rw [checkD_zero.2 hx.has.valid] at h9
      exact h9))
  refine TO.loud rfl (l_call ent26 (CallT.of_pure hk12) rfl ?_)
  clear hk12
  rintro vr O' ⟨N, rfl, rfl, rfl⟩
  refine TO.quiet (q_assign rfl) ?_
  refine TO.nil (T.seq (T.region ?_))
  refine TO.quiet (q_move rfl) (TO.quiet (QT.toB (q_neq rfl rfl) (decide_eq_false (fun h => h rfl))) ?_)
  refine TO.nil ?_
  refine T.cond0 rfl ?_
  refine T.skip (T.seq (T.seq (T.region ?_)))
  refine TO.quiet (q_load_boxAgg 0 Tryd.underlying27 rfl inf27 rfl rfl rfl) ?_
  have hk17 := fun (w1 : World) (hI : Inv w [oI y2 27 (cC a g j k), oI y1 25 (dC x i)] w1) => (haveI := Inv.tab (P := Tryd.prog) hI; (show PureT _ _ _ _ _ from by
      have h9 := conCheck w1 a g j k (hI.atB hj) (hI.atB hk) ha.bds hg.bds
      rw [cE_ok (checkD_zero.2 ha.has.valid) (checkD_zero.2 hg.has.valid) (by rw [ha.has.vars, hg.has.vars])] at h9
      exact h9))
  refine TO.loud rfl (l_call ent27 (CallT.of_pure hk17) rfl ?_)
  clear hk17
  rintro vr O' ⟨N, rfl, rfl, rfl⟩
  refine TO.quiet (q_assign rfl) ?_
  refine TO.nil (T.seq (T.region ?_))
  refine TO.quiet (q_move rfl) (TO.quiet (QT.toB (q_neq rfl rfl) (decide_eq_false (fun h => h rfl))) ?_)
  refine TO.nil ?_
  refine T.cond0 rfl ?_
  refine T.skip (T.seq (T.seq (T.region ?_)))
  refine TO.quiet (q_fieldAddr Tryd.underlying25 rfl inf3 rfl rfl) (TO.quiet (q_load_box 1 Tryd.underlying3 rfl rfl rfl rfl) (TO.quiet (q_fieldAddr Tryd.underlying27 rfl inf25 rfl rfl) (TO.quiet (q_fieldAddr Tryd.underlying25 rfl inf3 rfl rfl) ?_)))
  refine TO.quiet (q_load_box 0 Tryd.underlying3 rfl rfl rfl rfl) (TO.quiet (QT.toB (q_neq rfl rfl) (decide_eq_false (fun h => h (by rw [hx.has.vars, ha.has.vars])))) ?_)
  refine TO.nil ?_
  refine T.cond0 rfl ?_
  refine T.skip (T.seq (T.region ?_))
  refine TO.quiet (q_build plan59 inf59 rfl) ?_
  refine TO.loud rfl (l_box (v := (.agg #[(.int .i64 0)])) (cs := [(.int .i64 0)]) rfl rfl (fun y3 => ?_))
  refine TO.quiet (q_assign rfl) ?_
  refine TO.nil (T.seq (T.region ?_))
  refine TO.quiet (q_move rfl) (TO.quiet (q_load_boxAgg 2 Tryd.underlying25 rfl inf25 rfl rfl rfl) (TO.quiet (q_fieldAddr Tryd.underlying27 rfl inf25 rfl rfl) (TO.quiet (q_load_part 1 (vs := (dC a j)) Tryd.underlying25 rfl inf25 rfl rfl rfl rfl) ?_)))
  have hk33 := CallT.under (A := [oI y3 59 [(.int .i64 0)]]) (B := [oI y2 27 (cC a g j k), oI y1 25 (dC x i)]) (O := [oI y3 59 [(.int .i64 0)], oI y2 27 (cC a g j k), oI y1 25 (dC x i)]) (doS w [] y3 x a i j 25 ent25 (fun w1 hI => haveI := Inv.tab (P := Tryd.prog) hI; andZ w1 hz hx ha i j (hI.atB hi) (hI.atB hj) em1)) (by exact Sub.rf)
  refine TO.loud rfl (l_call ent28 hk33 rfl ?_)
  clear hk33
  rintro vr O' ⟨A1, rfl, k1, rfl, rfl⟩
  
  refine TO.loud rfl (l_alloc inf25 rfl (fun y4 => ?_))
  refine TO.loud rfl (l_store_box (v := (dV m1 k1)) (vs := (dC m1 k1)) 0 inf25 rfl rfl rfl rfl rfl rfl (by simp [putL]) ?_)
  refine TO.nil (T.seq (T.region ?_))
  refine TO.quiet (q_move rfl) (TO.quiet (q_move rfl) (TO.quiet (q_load_boxAgg 0 Tryd.underlying25 rfl inf25 rfl rfl rfl) (TO.quiet (q_fieldAddr Tryd.underlying27 rfl inf25 rfl rfl) ?_)))
  refine TO.quiet (q_load_part 3 (vs := (dC g k)) Tryd.underlying25 rfl inf25 rfl rfl rfl rfl) ?_
  have hk39 := CallT.under (A := [oI y3 59 [(.int .i64 0)], dI 54 4 3 m1 k1]) (B := [oI y4 25 (dC m1 k1), oI y2 27 (cC a g j k), oI y1 25 (dC x i)]) (O := [oI y4 25 (dC m1 k1), dI 54 4 3 m1 k1, oI y3 59 [(.int .i64 0)], oI y2 27 (cC a g j k), oI y1 25 (dC x i)]) (doS w [dI 54 4 3 m1 k1] y3 m1 g k1 k 30 ent30 (fun w1 hI => haveI := Inv.tab (P := Tryd.prog) hI; minusZ w1 hz hm1 hg k1 k (hI.at (k := k1) (List.mem_of_getElem? (i := 0) rfl)) (hI.atB hk) em2)) (by exact Sub.pull [oI y4 25 (dC m1 k1), dI 54 4 3 m1 k1] _ (.pull [oI y4 25 (dC m1 k1)] _ (.k (.k (.k .z)))))
  refine TO.loud rfl (l_call ent28 hk39 rfl ?_)
  clear hk39
  rintro vr O' ⟨A1, rfl, k2, rfl, rfl⟩
  
  have hk40 := CallT.under (A := [oI y3 59 [(.int .i64 0)], dI 54 4 3 m2 k2]) (B := [dI 54 4 3 m1 k1, oI y4 25 (dC m1 k1), oI y2 27 (cC a g j k), oI y1 25 (dC x i)]) (O := [dI 54 4 3 m2 k2, oI y3 59 [(.int .i64 0)], dI 54 4 3 m1 k1, oI y4 25 (dC m1 k1), oI y2 27 (cC a g j k), oI y1 25 (dC x i)]) (ansS w [dI 54 4 3 m2 k2] y3 m2 hm2.has.valid k2 (fun w1 hI => haveI := Inv.tab (P := Tryd.prog) hI; (hI.at (k := k2) (List.mem_of_getElem? (i := 0) rfl)))) (by exact Sub.pull [dI 54 4 3 m2 k2] _ (.k (.k (.k (.k (.k .z))))))
  refine TO.loud rfl (l_call ent29 hk40 rfl ?_)
  clear hk40
  rintro vr O' ⟨A1, rfl, res, wb, wc, hL, rfl, rfl⟩
  refine TO.quiet (q_extract (vs := _) rfl rfl) (TO.quiet (q_extract (vs := _) rfl rfl) (TO.quiet (q_extract (vs := _) rfl rfl) (TO.quiet (q_assign rfl) ?_)))
  refine TO.quiet (q_assign rfl) (TO.quiet (q_assign rfl) ?_)
  refine TO.nil (T.ret (Res.drop ?_))
  refine Res.three (.slice wb ((res.getD []).length) wc) (.bool (!res.isSome)) (.int .i64 0) Tryd.results12 rfl rfl rfl ?_
  subst em2
  subst em1
  exact ⟨[rowI wb wc 5 1 (byts (res.getD []))], (Sub.pick [0] rfl), res, wb, wc, hL, rfl, rfl⟩
set_option maxHeartbeats 8000000 in
set_option maxRecDepth 20000 in
theorem refC (w : World) [Tab Tryd.prog w] {z a b c d : DFA} {p q p2 q2 : List Nat → Bool} (hz : Valid z) (ha : InL z a p) (hb : InL z b q) (hc : InL z c p2) (hd : InL z d q2) (j1 j2 j3 j4 : DK) (hj1 : At w a j1) (hj2 : At w b j2) (hj3 : At w c j3) (hj4 : At w d j4) :
    PureT Tryd.prog 13 [cV a b j1 j2, cV c d j3 j4] w fun v N => ∃ res wb wc, LeastA (opD orB (opD minusB c a) (opD minusB (satD a b) (satD c d))) res ∧ v = .tuple #[.slice wb (res.getD []).length wc, .bool (!res.isSome), .int .i64 0] ∧ N = [rowI wb wc 5 1 (byts (res.getD []))] := by
  refine CallT.enter Tryd.func13 rfl Tryd.ntmps13 rfl ?_
  have hS1 := (InL.sat hz ha hb).2
  obtain ⟨S1, eS1⟩ : ∃ m, satD a b = m := ⟨_, rfl⟩
  rw [eS1] at hS1
  have hS2 := (InL.sat hz hc hd).2
  obtain ⟨S2, eS2⟩ : ∃ m, satD c d = m := ⟨_, rfl⟩
  rw [eS2] at hS2
  have hm1 := (InL.op (f := minusB) hz hc ha).2
  obtain ⟨m1, em1⟩ : ∃ m, opD minusB c a = m := ⟨_, rfl⟩
  rw [em1] at hm1
  have hm2 := (InL.op (f := minusB) hz hS1 hS2).2
  obtain ⟨m2, em2⟩ : ∃ m, opD minusB S1 S2 = m := ⟨_, rfl⟩
  rw [em2] at hm2
  have hm3 := (InL.op (f := orB) hz hm1 hm2).2
  obtain ⟨m3, em3⟩ : ∃ m, opD orB m1 m2 = m := ⟨_, rfl⟩
  rw [em3] at hm3
  refine T.seq (T.region ?_)
  refine TO.loud rfl (l_box (v := (cV a b j1 j2)) (cs := (cC a b j1 j2)) rfl rfl (fun y1 => ?_))
  refine TO.loud rfl (l_box (v := (cV c d j3 j4)) (cs := (cC c d j3 j4)) rfl rfl (fun y2 => ?_))
  refine TO.quiet (q_assign rfl) (TO.quiet (q_assign rfl) (TO.quiet (q_assign rfl) ?_))
  refine TO.nil (T.seq (T.region ?_))
  refine TO.quiet (q_load_boxAgg 1 Tryd.underlying27 rfl inf27 rfl rfl rfl) (TO.quiet (q_load_boxAgg 0 Tryd.underlying27 rfl inf27 rfl rfl rfl) ?_)
  have hk12 := fun (w1 : World) (hI : Inv w [oI y2 27 (cC c d j3 j4), oI y1 27 (cC a b j1 j2)] w1) => (haveI := Inv.tab (P := Tryd.prog) hI; startC w1 hz ha hb hc hd j1 j2 j3 j4 (hI.atB hj1) (hI.atB hj2) (hI.atB hj3) (hI.atB hj4) eS1 eS2)
  refine TO.loud rfl (l_call ent31 (CallT.of_pure hk12) rfl ?_)
  clear hk12
  rintro vr O' ⟨N, rfl, bp, s1, s2, rfl, rfl⟩
  refine TO.quiet (q_assign rfl) ?_
  refine TO.nil ?_
  refine T.cut (fun ρ O => ∃ (b8 : Nat) (k1 : DK), O = [oI b8 25 (dC m1 k1), dI 54 4 3 m1 k1, oI bp 65 (bC (.int .i64 0) S1 S2 s1 s2), dI 54 4 3 S1 s1, dI 54 4 3 S2 s2, oI y2 27 (cC c d j3 j4), oI y1 27 (cC a b j1 j2)] ∧ Heads [(0, (cV a b j1 j2)), (1, (cV c d j3 j4)), (2, (.pointer (some ⟨y1, 0, none⟩))), (3, (.pointer (some ⟨y2, 0, none⟩))), (4, (.slice none 0 0)), (5, .bool false), (6, .int .i64 0), (7, (.pointer (some ⟨bp, 0, none⟩))), (8, (.pointer (some ⟨b8, 0, none⟩)))] ρ) ?_ ?_
  · refine T.treeT [oI bp 65 (bC (.int .i64 0) S1 S2 s1 s2), dI 54 4 3 S1 s1, dI 54 4 3 S2 s2, oI y2 27 (cC c d j3 j4), oI y1 27 (cC a b j1 j2)] [9] 10 mixed rfl (by exact Sub.rf) (fun _ _ _ h => h) ?_
    refine RO.quietTT 0 rfl (by kernel_rfl) (q_move rfl) ?_
    refine RO.quietTT 1 rfl (by kernel_rfl) (q_nilCheck rfl) ?_
    refine RO.quietTT 2 rfl (by kernel_rfl) (q_fieldAddr Tryd.underlying65 rfl inf59 rfl rfl) ?_
    refine RO.quietTT 3 rfl (by kernel_rfl) (q_fieldAddr Tryd.underlying27 rfl inf25 rfl rfl) ?_
    refine RO.quietTT 4 rfl (by kernel_rfl) (q_load_part 3 (vs := (dC c j3)) Tryd.underlying25 rfl inf25 rfl rfl rfl rfl) ?_
    refine RO.quietTT 5 rfl (by kernel_rfl) (q_fieldAddr Tryd.underlying27 rfl inf25 rfl rfl) ?_
    refine RO.quietTT 6 rfl (by kernel_rfl) (q_load_part 4 (vs := (dC a j1)) Tryd.underlying25 rfl inf25 rfl rfl rfl rfl) ?_
    have hk20 := CallT.under (A := [oI bp 65 (bC (.int .i64 0) S1 S2 s1 s2)]) (B := [dI 54 4 3 S1 s1, dI 54 4 3 S2 s2, oI y2 27 (cC c d j3 j4), oI y1 27 (cC a b j1 j2)]) (O := [oI bp 65 (bC (.int .i64 0) S1 S2 s1 s2), dI 54 4 3 S1 s1, dI 54 4 3 S2 s2, oI y2 27 (cC c d j3 j4), oI y1 27 (cC a b j1 j2)]) (doB w [] bp S1 S2 s1 s2 c a j3 j1 30 ent30 (fun w1 hI => haveI := Inv.tab (P := Tryd.prog) hI; minusZ w1 hz hc ha j3 j1 (hI.atB hj3) (hI.atB hj1) em1)) (by exact Sub.rf)
    refine RO.forkT [7, 8] (by kernel_rfl) rfl ⟨⟨_, rfl, rfl, l_call ent28 hk20 rfl ?_⟩, ⟨_, rfl, rfl, l_alloc inf25 rfl (fun b8 => ⟨.inr (by exact Sub.d (.k (.k (.k (.k (.k .z)))))), ?_⟩)⟩, trivial⟩ (by kernel_rfl)
    · clear hk20
      rintro vr O' ⟨A1, rfl, k1, rfl, rfl⟩
      
      refine ⟨.inr (by exact Sub.d (.k (.k (.k (.k (.k .z)))))), ?_⟩
      refine RO.forkT [8] (by kernel_rfl) rfl ⟨⟨_, rfl, rfl, l_alloc inf25 rfl (fun b8 => ⟨.inr (by exact Sub.d (.d (.k (.k (.k (.k (.k .z))))))), ?_⟩)⟩, trivial⟩ (by kernel_rfl)
      refine RO.forkT [9] (by kernel_rfl) rfl ⟨⟨_, rfl, rfl, l_store_box (v := (dV m1 k1)) (vs := (dC m1 k1)) 0 inf25 rfl rfl rfl rfl rfl rfl (by simp [putL]) ⟨.inl (by decide), ?_⟩⟩, trivial⟩ (by kernel_rfl)
      exact RO.fin (by kernel_rfl) ⟨b8, k1, rfl, ⟨rfl, rfl, rfl, rfl, rfl, rfl, rfl, rfl, rfl, trivial⟩⟩ (Sub.pick [0, 0, 0, 0, 0, 0, 0] rfl)
    have hk20 := CallT.under (A := [oI bp 65 (bC (.int .i64 0) S1 S2 s1 s2)]) (B := [oI b8 25 [(.int .i64 0), (.int .i64 0), (.slice none 0 0), (.slice none 0 0)], dI 54 4 3 S1 s1, dI 54 4 3 S2 s2, oI y2 27 (cC c d j3 j4), oI y1 27 (cC a b j1 j2)]) (O := [oI b8 25 [(.int .i64 0), (.int .i64 0), (.slice none 0 0), (.slice none 0 0)], oI bp 65 (bC (.int .i64 0) S1 S2 s1 s2), dI 54 4 3 S1 s1, dI 54 4 3 S2 s2, oI y2 27 (cC c d j3 j4), oI y1 27 (cC a b j1 j2)]) (doB w [] bp S1 S2 s1 s2 c a j3 j1 30 ent30 (fun w1 hI => haveI := Inv.tab (P := Tryd.prog) hI; minusZ w1 hz hc ha j3 j1 (hI.atB hj3) (hI.atB hj1) em1)) (by exact Sub.pull [oI b8 25 [(.int .i64 0), (.int .i64 0), (.slice none 0 0), (.slice none 0 0)]] _ (.k (.k (.k (.k (.k .z))))))
    refine RO.forkT [7] (by kernel_rfl) rfl ⟨⟨_, rfl, rfl, l_call ent28 hk20 rfl ?_⟩, trivial⟩ (by kernel_rfl)
    clear hk20
    rintro vr O' ⟨A1, rfl, k1, rfl, rfl⟩
    
    refine ⟨.inr (by exact Sub.d (.k (.d (.k (.k (.k (.k .z))))))), ?_⟩
    refine RO.forkT [9] (by kernel_rfl) rfl ⟨⟨_, rfl, rfl, l_store_box (v := (dV m1 k1)) (vs := (dC m1 k1)) 2 inf25 rfl rfl rfl rfl rfl rfl (by simp [putL]) ⟨.inl (by decide), ?_⟩⟩, trivial⟩ (by kernel_rfl)
    exact RO.fin (by kernel_rfl) ⟨b8, k1, rfl, ⟨rfl, rfl, rfl, rfl, rfl, rfl, rfl, rfl, rfl, trivial⟩⟩ (Sub.pick [2, 0, 0, 0, 0, 0, 0] rfl)
  rintro ρ O ⟨b8, k1, rfl, hH⟩
  obtain ⟨ρ0, rfl⟩ := hH.elim
  clear hH
  refine T.cut (fun ρ O => ∃ (b9 : Nat) (k2 : DK), O = [oI b9 25 (dC m2 k2), dI 54 4 3 m2 k2, oI b8 25 (dC m1 k1), dI 54 4 3 m1 k1, oI bp 65 (bC (.int .i64 0) S1 S2 s1 s2), dI 54 4 3 S1 s1, dI 54 4 3 S2 s2, oI y2 27 (cC c d j3 j4), oI y1 27 (cC a b j1 j2)] ∧ Heads [(0, (cV a b j1 j2)), (1, (cV c d j3 j4)), (2, (.pointer (some ⟨y1, 0, none⟩))), (3, (.pointer (some ⟨y2, 0, none⟩))), (4, (.slice none 0 0)), (5, .bool false), (6, .int .i64 0), (7, (.pointer (some ⟨bp, 0, none⟩))), (8, (.pointer (some ⟨b8, 0, none⟩))), (9, (.pointer (some ⟨b9, 0, none⟩)))] ρ) ?_ ?_
  · refine T.treeT [oI b8 25 (dC m1 k1), dI 54 4 3 m1 k1, oI bp 65 (bC (.int .i64 0) S1 S2 s1 s2), dI 54 4 3 S1 s1, dI 54 4 3 S2 s2, oI y2 27 (cC c d j3 j4), oI y1 27 (cC a b j1 j2)] [13] 14 mixed rfl (by exact Sub.rf) (fun _ _ _ h => h) ?_
    refine RO.quietTT 0 rfl (by kernel_rfl) (q_move rfl) ?_
    refine RO.quietTT 1 rfl (by kernel_rfl) (q_nilCheck rfl) ?_
    refine RO.quietTT 2 rfl (by kernel_rfl) (q_fieldAddr Tryd.underlying65 rfl inf59 rfl rfl) ?_
    refine RO.quietTT 3 rfl (by kernel_rfl) (q_move rfl) ?_
    refine RO.quietTT 4 rfl (by kernel_rfl) (q_nilCheck rfl) ?_
    refine RO.quietTT 5 rfl (by kernel_rfl) (q_fieldAddr Tryd.underlying65 rfl inf25 rfl rfl) ?_
    refine RO.quietTT 6 rfl (by kernel_rfl) (q_load_part 2 (vs := (dC S1 s1)) Tryd.underlying25 rfl inf25 rfl rfl rfl rfl) ?_
    refine RO.quietTT 7 rfl (by kernel_rfl) (q_move rfl) ?_
    refine RO.quietTT 8 rfl (by kernel_rfl) (q_nilCheck rfl) ?_
    refine RO.quietTT 9 rfl (by kernel_rfl) (q_fieldAddr Tryd.underlying65 rfl inf25 rfl rfl) ?_
    refine RO.quietTT 10 rfl (by kernel_rfl) (q_load_part 2 (vs := (dC S2 s2)) Tryd.underlying25 rfl inf25 rfl rfl rfl rfl) ?_
    have hk32 := CallT.under (A := [oI bp 65 (bC (.int .i64 0) S1 S2 s1 s2), dI 54 4 3 S1 s1, dI 54 4 3 S2 s2]) (B := [oI b8 25 (dC m1 k1), dI 54 4 3 m1 k1, oI y2 27 (cC c d j3 j4), oI y1 27 (cC a b j1 j2)]) (O := [oI b8 25 (dC m1 k1), dI 54 4 3 m1 k1, oI bp 65 (bC (.int .i64 0) S1 S2 s1 s2), dI 54 4 3 S1 s1, dI 54 4 3 S2 s2, oI y2 27 (cC c d j3 j4), oI y1 27 (cC a b j1 j2)]) (doB w [dI 54 4 3 S1 s1, dI 54 4 3 S2 s2] bp S1 S2 s1 s2 S1 S2 s1 s2 30 ent30 (fun w1 hI => haveI := Inv.tab (P := Tryd.prog) hI; minusZ w1 hz hS1 hS2 s1 s2 (hI.at (k := s1) (List.mem_of_getElem? (i := 0) rfl)) (hI.at (k := s2) (List.mem_of_getElem? (i := 1) rfl)) em2)) (by exact Sub.pull [oI b8 25 (dC m1 k1), dI 54 4 3 m1 k1] _ (.pull [oI b8 25 (dC m1 k1), dI 54 4 3 m1 k1] _ (.pull [oI b8 25 (dC m1 k1), dI 54 4 3 m1 k1] _ (.k (.k (.k (.k .z)))))))
    refine RO.forkT [11, 12] (by kernel_rfl) rfl ⟨⟨_, rfl, rfl, l_call ent28 hk32 rfl ?_⟩, ⟨_, rfl, rfl, l_alloc inf25 rfl (fun b9 => ⟨.inr (by exact Sub.d (.k (.k (.k (.k (.k (.k (.k .z)))))))), ?_⟩)⟩, trivial⟩ (by kernel_rfl)
    · clear hk32
      rintro vr O' ⟨A1, rfl, k2, rfl, rfl⟩
      
      refine ⟨.inr (by exact Sub.d (.pull [oI bp 65 (bC (.int .i64 0) S1 S2 s1 s2), dI 54 4 3 S1 s1, dI 54 4 3 S2 s2] _ (.pull [oI bp 65 (bC (.int .i64 0) S1 S2 s1 s2), dI 54 4 3 S1 s1, dI 54 4 3 S2 s2] _ (.k (.k (.k (.k (.k .z)))))))), ?_⟩
      refine RO.forkT [12] (by kernel_rfl) rfl ⟨⟨_, rfl, rfl, l_alloc inf25 rfl (fun b9 => ⟨.inr (by exact Sub.d (.d (.pull [oI bp 65 (bC (.int .i64 0) S1 S2 s1 s2), dI 54 4 3 S1 s1, dI 54 4 3 S2 s2] _ (.pull [oI bp 65 (bC (.int .i64 0) S1 S2 s1 s2), dI 54 4 3 S1 s1, dI 54 4 3 S2 s2] _ (.k (.k (.k (.k (.k .z))))))))), ?_⟩)⟩, trivial⟩ (by kernel_rfl)
      refine RO.forkT [13] (by kernel_rfl) rfl ⟨⟨_, rfl, rfl, l_store_box (v := (dV m2 k2)) (vs := (dC m2 k2)) 0 inf25 rfl rfl rfl rfl rfl rfl (by simp [putL]) ⟨.inl (by decide), ?_⟩⟩, trivial⟩ (by kernel_rfl)
      exact RO.fin (by kernel_rfl) ⟨b9, k2, rfl, ⟨rfl, rfl, rfl, rfl, rfl, rfl, rfl, rfl, rfl, rfl, trivial⟩⟩ (Sub.pick [0, 0, 3, 3, 0, 0, 0, 0, 0] rfl)
    have hk32 := CallT.under (A := [oI bp 65 (bC (.int .i64 0) S1 S2 s1 s2), dI 54 4 3 S1 s1, dI 54 4 3 S2 s2]) (B := [oI b9 25 [(.int .i64 0), (.int .i64 0), (.slice none 0 0), (.slice none 0 0)], oI b8 25 (dC m1 k1), dI 54 4 3 m1 k1, oI y2 27 (cC c d j3 j4), oI y1 27 (cC a b j1 j2)]) (O := [oI b9 25 [(.int .i64 0), (.int .i64 0), (.slice none 0 0), (.slice none 0 0)], oI b8 25 (dC m1 k1), dI 54 4 3 m1 k1, oI bp 65 (bC (.int .i64 0) S1 S2 s1 s2), dI 54 4 3 S1 s1, dI 54 4 3 S2 s2, oI y2 27 (cC c d j3 j4), oI y1 27 (cC a b j1 j2)]) (doB w [dI 54 4 3 S1 s1, dI 54 4 3 S2 s2] bp S1 S2 s1 s2 S1 S2 s1 s2 30 ent30 (fun w1 hI => haveI := Inv.tab (P := Tryd.prog) hI; minusZ w1 hz hS1 hS2 s1 s2 (hI.at (k := s1) (List.mem_of_getElem? (i := 0) rfl)) (hI.at (k := s2) (List.mem_of_getElem? (i := 1) rfl)) em2)) (by exact Sub.pull [oI b9 25 [(.int .i64 0), (.int .i64 0), (.slice none 0 0), (.slice none 0 0)], oI b8 25 (dC m1 k1), dI 54 4 3 m1 k1] _ (.pull [oI b9 25 [(.int .i64 0), (.int .i64 0), (.slice none 0 0), (.slice none 0 0)], oI b8 25 (dC m1 k1), dI 54 4 3 m1 k1] _ (.pull [oI b9 25 [(.int .i64 0), (.int .i64 0), (.slice none 0 0), (.slice none 0 0)], oI b8 25 (dC m1 k1), dI 54 4 3 m1 k1] _ (.k (.k (.k (.k (.k .z))))))))
    refine RO.forkT [11] (by kernel_rfl) rfl ⟨⟨_, rfl, rfl, l_call ent28 hk32 rfl ?_⟩, trivial⟩ (by kernel_rfl)
    clear hk32
    rintro vr O' ⟨A1, rfl, k2, rfl, rfl⟩
    
    refine ⟨.inr (by exact Sub.d (.pull [oI bp 65 (bC (.int .i64 0) S1 S2 s1 s2), dI 54 4 3 S1 s1, dI 54 4 3 S2 s2, oI b9 25 [(.int .i64 0), (.int .i64 0), (.slice none 0 0), (.slice none 0 0)]] _ (.pull [oI bp 65 (bC (.int .i64 0) S1 S2 s1 s2), dI 54 4 3 S1 s1, dI 54 4 3 S2 s2, oI b9 25 [(.int .i64 0), (.int .i64 0), (.slice none 0 0), (.slice none 0 0)]] _ (.k (.k (.k (.d (.k (.k .z))))))))), ?_⟩
    refine RO.forkT [13] (by kernel_rfl) rfl ⟨⟨_, rfl, rfl, l_store_box (v := (dV m2 k2)) (vs := (dC m2 k2)) 4 inf25 rfl rfl rfl rfl rfl rfl (by simp [putL]) ⟨.inl (by decide), ?_⟩⟩, trivial⟩ (by kernel_rfl)
    exact RO.fin (by kernel_rfl) ⟨b9, k2, rfl, ⟨rfl, rfl, rfl, rfl, rfl, rfl, rfl, rfl, rfl, rfl, trivial⟩⟩ (Sub.pick [4, 0, 3, 3, 0, 0, 0, 0, 0] rfl)
  rintro ρ O ⟨b9, k2, rfl, hH⟩
  obtain ⟨ρ0, rfl⟩ := hH.elim
  clear hH
  refine T.seq ?_
  refine T.draws _ [(0, 0), (1, 0), (2, 0), (3, 0), (4, 0), (5, 0), (6, 0), (7, 0), (8, 1), (9, 1), (10, 0), (11, 0), (12, 0), (13, 0), (14, 0), (15, 0)] mixed (by kernel_rfl) (Sub.of (List.Sublist.refl _)) (fun _ _ _ h => h) ?_
  refine DO.quiet rfl (q_move rfl) (DO.quiet rfl (q_nilCheck rfl) (DO.quiet rfl (q_fieldAddr Tryd.underlying65 rfl inf59 rfl rfl) (DO.quiet rfl (q_move rfl) ?_)))
  refine DO.quiet rfl (q_nilCheck rfl) (DO.quiet rfl (q_fieldAddr Tryd.underlying65 rfl inf59 rfl rfl) (DO.quiet rfl (q_load_boxAgg 2 Tryd.underlying25 rfl inf25 rfl rfl rfl) (DO.quiet rfl (q_load_boxAgg 0 Tryd.underlying25 rfl inf25 rfl rfl rfl) ?_)))
  have hk41 := CallT.under (A := [oI bp 65 (bC (.int .i64 0) S1 S2 s1 s2), dI 54 4 3 m1 k1, dI 54 4 3 m2 k2]) (B := [oI b9 25 (dC m2 k2), oI b8 25 (dC m1 k1), dI 54 4 3 S1 s1, dI 54 4 3 S2 s2, oI y2 27 (cC c d j3 j4), oI y1 27 (cC a b j1 j2)]) (O := [oI b9 25 (dC m2 k2), dI 54 4 3 m2 k2, oI b8 25 (dC m1 k1), dI 54 4 3 m1 k1, oI bp 65 (bC (.int .i64 0) S1 S2 s1 s2), dI 54 4 3 S1 s1, dI 54 4 3 S2 s2, oI y2 27 (cC c d j3 j4), oI y1 27 (cC a b j1 j2)]) (doB w [dI 54 4 3 m1 k1, dI 54 4 3 m2 k2] bp S1 S2 s1 s2 m1 m2 k1 k2 32 ent32 (fun w1 hI => haveI := Inv.tab (P := Tryd.prog) hI; orZ w1 hz hm1 hm2 k1 k2 (hI.at (k := k1) (List.mem_of_getElem? (i := 0) rfl)) (hI.at (k := k2) (List.mem_of_getElem? (i := 1) rfl)) em3)) (by exact Sub.pull [oI b9 25 (dC m2 k2), dI 54 4 3 m2 k2, oI b8 25 (dC m1 k1), dI 54 4 3 m1 k1] _ (.pull [oI b9 25 (dC m2 k2), dI 54 4 3 m2 k2, oI b8 25 (dC m1 k1)] _ (.pull [oI b9 25 (dC m2 k2)] _ (.k (.k (.k (.k (.k (.k .z)))))))))
  refine DO.loud rfl rfl (l_call ent28 hk41 rfl ?_)
  clear hk41
  rintro vr O' ⟨A1, rfl, k3, rfl, rfl⟩
  refine ⟨by exact Sub.d (.pull [oI bp 65 (bC (.int .i64 0) S1 S2 s1 s2), dI 54 4 3 m1 k1, dI 54 4 3 m2 k2] _ (.pull [oI bp 65 (bC (.int .i64 0) S1 S2 s1 s2), dI 54 4 3 m1 k1] _ (.pull [oI bp 65 (bC (.int .i64 0) S1 S2 s1 s2), dI 54 4 3 m1 k1] _ (.pull [oI bp 65 (bC (.int .i64 0) S1 S2 s1 s2)] _ (.k (.k (.k (.k (.k .z))))))))), ?_⟩
  
  have hk42 := CallT.under (A := [oI bp 65 (bC (.int .i64 0) S1 S2 s1 s2), dI 54 4 3 m3 k3]) (B := [dI 54 4 3 m1 k1, dI 54 4 3 m2 k2, oI b9 25 (dC m2 k2), oI b8 25 (dC m1 k1), dI 54 4 3 S1 s1, dI 54 4 3 S2 s2, oI y2 27 (cC c d j3 j4), oI y1 27 (cC a b j1 j2)]) (O := [dI 54 4 3 m3 k3, oI bp 65 (bC (.int .i64 0) S1 S2 s1 s2), dI 54 4 3 m1 k1, dI 54 4 3 m2 k2, oI b9 25 (dC m2 k2), oI b8 25 (dC m1 k1), dI 54 4 3 S1 s1, dI 54 4 3 S2 s2, oI y2 27 (cC c d j3 j4), oI y1 27 (cC a b j1 j2)]) (ansB w [dI 54 4 3 m3 k3] bp S1 S2 s1 s2 m3 hm3.has.valid k3 (fun w1 hI => haveI := Inv.tab (P := Tryd.prog) hI; (hI.at (k := k3) (List.mem_of_getElem? (i := 0) rfl)))) (by exact Sub.pull [dI 54 4 3 m3 k3] _ (.k (.k (.k (.k (.k (.k (.k (.k (.k .z))))))))))
  refine DO.loud rfl rfl (l_call ent29 hk42 rfl ?_)
  clear hk42
  rintro vr O' ⟨A1, rfl, res, wb, wc, hL, rfl, rfl⟩
  refine ⟨by exact Sub.d (.pull [oI bp 65 (bC (.int .i64 0) S1 S2 s1 s2), dI 54 4 3 m3 k3, dI 54 4 3 m1 k1, dI 54 4 3 m2 k2] _ (.pull [oI bp 65 (bC (.int .i64 0) S1 S2 s1 s2), dI 54 4 3 m3 k3, dI 54 4 3 m1 k1] _ (.pull [oI bp 65 (bC (.int .i64 0) S1 S2 s1 s2), dI 54 4 3 m3 k3, dI 54 4 3 m1 k1] _ (.pull [oI bp 65 (bC (.int .i64 0) S1 S2 s1 s2), dI 54 4 3 m3 k3] _ (.k (.d (.k (.k (.k (.k .z)))))))))), ?_⟩
  refine DO.quiet rfl (q_extract (vs := _) rfl rfl) (DO.quiet rfl (q_extract (vs := _) rfl rfl) (DO.quiet rfl (q_extract (vs := _) rfl rfl) (DO.quiet rfl (q_assign rfl) ?_)))
  refine DO.quiet rfl (q_assign rfl) (DO.quiet rfl (q_assign rfl) ?_)
  refine DO.done ?_
  refine T.ret (Res.drop ?_)
  refine Res.three (.slice wb ((res.getD []).length) wc) (.bool (!res.isSome)) (.int .i64 0) Tryd.results13 rfl rfl rfl ?_
  subst em3
  subst em2
  subst em1
  subst eS2
  subst eS1
  exact ⟨[rowI wb wc 5 1 (byts (res.getD []))], (Sub.pick [0] rfl), res, wb, wc, hL, rfl, rfl⟩
set_option maxHeartbeats 8000000 in
set_option maxRecDepth 20000 in
theorem meetC (w : World) [Tab Tryd.prog w] {z a b c d : DFA} {p q p2 q2 : List Nat → Bool} (hz : Valid z) (ha : InL z a p) (hb : InL z b q) (hc : InL z c p2) (hd : InL z d q2) (j1 j2 j3 j4 : DK) (hj1 : At w a j1) (hj2 : At w b j2) (hj3 : At w c j3) (hj4 : At w d j4) :
    PureT Tryd.prog 20 [cV a b j1 j2, cV c d j3 j4] w fun v N => ∃ k1 k2 : DK, v = .tuple #[cV (opD orB a c) (opD andB (satD a b) (satD c d)) k1 k2, .int .i64 0] ∧ N = [dI 54 4 3 (opD orB a c) k1, dI 54 4 3 (opD andB (satD a b) (satD c d)) k2] := by
  refine CallT.enter Tryd.func20 rfl Tryd.ntmps20 rfl ?_
  have hS1 := (InL.sat hz ha hb).2
  obtain ⟨S1, eS1⟩ : ∃ m, satD a b = m := ⟨_, rfl⟩
  rw [eS1] at hS1
  have hS2 := (InL.sat hz hc hd).2
  obtain ⟨S2, eS2⟩ : ∃ m, satD c d = m := ⟨_, rfl⟩
  rw [eS2] at hS2
  have hm1 := (InL.op (f := andB) hz hS1 hS2).2
  obtain ⟨m1, em1⟩ : ∃ m, opD andB S1 S2 = m := ⟨_, rfl⟩
  rw [em1] at hm1
  have hm2 := (InL.op (f := orB) hz ha hc).2
  obtain ⟨m2, em2⟩ : ∃ m, opD orB a c = m := ⟨_, rfl⟩
  rw [em2] at hm2
  refine T.seq (T.region ?_)
  refine TO.loud rfl (l_box (v := (cV a b j1 j2)) (cs := (cC a b j1 j2)) rfl rfl (fun y1 => ?_))
  refine TO.loud rfl (l_box (v := (cV c d j3 j4)) (cs := (cC c d j3 j4)) rfl rfl (fun y2 => ?_))
  refine TO.loud rfl (l_alloc inf27 rfl (fun y3 => ?_))
  refine TO.quiet (q_assign rfl) ?_
  refine TO.nil (T.seq (T.region ?_))
  refine TO.quiet (q_load_boxAgg 2 Tryd.underlying27 rfl inf27 rfl rfl rfl) (TO.quiet (q_load_boxAgg 1 Tryd.underlying27 rfl inf27 rfl rfl rfl) ?_)
  have hk10 := fun (w1 : World) (hI : Inv w [oI y3 27 [(.int .i64 0), (.int .i64 0), (.slice none 0 0), (.slice none 0 0), (.int .i64 0), (.int .i64 0), (.slice none 0 0), (.slice none 0 0)], oI y2 27 (cC c d j3 j4), oI y1 27 (cC a b j1 j2)] w1) => (haveI := Inv.tab (P := Tryd.prog) hI; startC w1 hz ha hb hc hd j1 j2 j3 j4 (hI.atB hj1) (hI.atB hj2) (hI.atB hj3) (hI.atB hj4) eS1 eS2)
  refine TO.loud rfl (l_call ent31 (CallT.of_pure hk10) rfl ?_)
  clear hk10
  rintro vr O' ⟨N, rfl, bp, s1, s2, rfl, rfl⟩
  refine TO.quiet (q_assign rfl) ?_
  refine TO.nil ?_
  refine T.cut (fun ρ O => ∃ (b8 : Nat) (k1 : DK), O = [oI b8 25 (dC m1 k1), dI 54 4 3 m1 k1, oI bp 65 (bC (.int .i64 0) S1 S2 s1 s2), dI 54 4 3 S1 s1, dI 54 4 3 S2 s2, oI y3 27 [(.int .i64 0), (.int .i64 0), (.slice none 0 0), (.slice none 0 0), (.int .i64 0), (.int .i64 0), (.slice none 0 0), (.slice none 0 0)], oI y2 27 (cC c d j3 j4), oI y1 27 (cC a b j1 j2)] ∧ Heads [(0, (cV a b j1 j2)), (1, (cV c d j3 j4)), (2, (.pointer (some ⟨y1, 0, none⟩))), (3, (.pointer (some ⟨y2, 0, none⟩))), (4, (.pointer (some ⟨y3, 0, none⟩))), (5, .int .i64 0), (6, (.pointer (some ⟨bp, 0, none⟩))), (7, (.pointer (some ⟨b8, 0, none⟩)))] ρ) ?_ ?_
  · refine T.treeT [oI bp 65 (bC (.int .i64 0) S1 S2 s1 s2), dI 54 4 3 S1 s1, dI 54 4 3 S2 s2, oI y3 27 [(.int .i64 0), (.int .i64 0), (.slice none 0 0), (.slice none 0 0), (.int .i64 0), (.int .i64 0), (.slice none 0 0), (.slice none 0 0)], oI y2 27 (cC c d j3 j4), oI y1 27 (cC a b j1 j2)] [13] 14 mixed rfl (by exact Sub.rf) (fun _ _ _ h => h) ?_
    refine RO.quietTT 0 rfl (by kernel_rfl) (q_move rfl) ?_
    refine RO.quietTT 1 rfl (by kernel_rfl) (q_nilCheck rfl) ?_
    refine RO.quietTT 2 rfl (by kernel_rfl) (q_fieldAddr Tryd.underlying65 rfl inf59 rfl rfl) ?_
    refine RO.quietTT 3 rfl (by kernel_rfl) (q_move rfl) ?_
    refine RO.quietTT 4 rfl (by kernel_rfl) (q_nilCheck rfl) ?_
    refine RO.quietTT 5 rfl (by kernel_rfl) (q_fieldAddr Tryd.underlying65 rfl inf25 rfl rfl) ?_
    refine RO.quietTT 6 rfl (by kernel_rfl) (q_load_part 0 (vs := (dC S1 s1)) Tryd.underlying25 rfl inf25 rfl rfl rfl rfl) ?_
    refine RO.quietTT 7 rfl (by kernel_rfl) (q_move rfl) ?_
    refine RO.quietTT 8 rfl (by kernel_rfl) (q_nilCheck rfl) ?_
    refine RO.quietTT 9 rfl (by kernel_rfl) (q_fieldAddr Tryd.underlying65 rfl inf25 rfl rfl) ?_
    refine RO.quietTT 10 rfl (by kernel_rfl) (q_load_part 0 (vs := (dC S2 s2)) Tryd.underlying25 rfl inf25 rfl rfl rfl rfl) ?_
    have hk22 := CallT.under (A := [oI bp 65 (bC (.int .i64 0) S1 S2 s1 s2), dI 54 4 3 S1 s1, dI 54 4 3 S2 s2]) (B := [oI y3 27 [(.int .i64 0), (.int .i64 0), (.slice none 0 0), (.slice none 0 0), (.int .i64 0), (.int .i64 0), (.slice none 0 0), (.slice none 0 0)], oI y2 27 (cC c d j3 j4), oI y1 27 (cC a b j1 j2)]) (O := [oI bp 65 (bC (.int .i64 0) S1 S2 s1 s2), dI 54 4 3 S1 s1, dI 54 4 3 S2 s2, oI y3 27 [(.int .i64 0), (.int .i64 0), (.slice none 0 0), (.slice none 0 0), (.int .i64 0), (.int .i64 0), (.slice none 0 0), (.slice none 0 0)], oI y2 27 (cC c d j3 j4), oI y1 27 (cC a b j1 j2)]) (doB w [dI 54 4 3 S1 s1, dI 54 4 3 S2 s2] bp S1 S2 s1 s2 S1 S2 s1 s2 25 ent25 (fun w1 hI => haveI := Inv.tab (P := Tryd.prog) hI; andZ w1 hz hS1 hS2 s1 s2 (hI.at (k := s1) (List.mem_of_getElem? (i := 0) rfl)) (hI.at (k := s2) (List.mem_of_getElem? (i := 1) rfl)) em1)) (by exact Sub.rf)
    refine RO.forkT [11, 12] (by kernel_rfl) rfl ⟨⟨_, rfl, rfl, l_call ent28 hk22 rfl ?_⟩, ⟨_, rfl, rfl, l_alloc inf25 rfl (fun b8 => ⟨.inr (by exact Sub.d (.k (.k (.k (.k (.k (.k .z))))))), ?_⟩)⟩, trivial⟩ (by kernel_rfl)
    · clear hk22
      rintro vr O' ⟨A1, rfl, k1, rfl, rfl⟩
      
      refine ⟨.inr (by exact Sub.d (.k (.k (.k (.k (.k (.k .z))))))), ?_⟩
      refine RO.forkT [12] (by kernel_rfl) rfl ⟨⟨_, rfl, rfl, l_alloc inf25 rfl (fun b8 => ⟨.inr (by exact Sub.d (.d (.k (.k (.k (.k (.k (.k .z)))))))), ?_⟩)⟩, trivial⟩ (by kernel_rfl)
      refine RO.forkT [13] (by kernel_rfl) rfl ⟨⟨_, rfl, rfl, l_store_box (v := (dV m1 k1)) (vs := (dC m1 k1)) 0 inf25 rfl rfl rfl rfl rfl rfl (by simp [putL]) ⟨.inl (by decide), ?_⟩⟩, trivial⟩ (by kernel_rfl)
      exact RO.fin (by kernel_rfl) ⟨b8, k1, rfl, ⟨rfl, rfl, rfl, rfl, rfl, rfl, rfl, rfl, trivial⟩⟩ (Sub.pick [0, 0, 0, 0, 0, 0, 0, 0] rfl)
    have hk22 := CallT.under (A := [oI bp 65 (bC (.int .i64 0) S1 S2 s1 s2), dI 54 4 3 S1 s1, dI 54 4 3 S2 s2]) (B := [oI b8 25 [(.int .i64 0), (.int .i64 0), (.slice none 0 0), (.slice none 0 0)], oI y3 27 [(.int .i64 0), (.int .i64 0), (.slice none 0 0), (.slice none 0 0), (.int .i64 0), (.int .i64 0), (.slice none 0 0), (.slice none 0 0)], oI y2 27 (cC c d j3 j4), oI y1 27 (cC a b j1 j2)]) (O := [oI b8 25 [(.int .i64 0), (.int .i64 0), (.slice none 0 0), (.slice none 0 0)], oI bp 65 (bC (.int .i64 0) S1 S2 s1 s2), dI 54 4 3 S1 s1, dI 54 4 3 S2 s2, oI y3 27 [(.int .i64 0), (.int .i64 0), (.slice none 0 0), (.slice none 0 0), (.int .i64 0), (.int .i64 0), (.slice none 0 0), (.slice none 0 0)], oI y2 27 (cC c d j3 j4), oI y1 27 (cC a b j1 j2)]) (doB w [dI 54 4 3 S1 s1, dI 54 4 3 S2 s2] bp S1 S2 s1 s2 S1 S2 s1 s2 25 ent25 (fun w1 hI => haveI := Inv.tab (P := Tryd.prog) hI; andZ w1 hz hS1 hS2 s1 s2 (hI.at (k := s1) (List.mem_of_getElem? (i := 0) rfl)) (hI.at (k := s2) (List.mem_of_getElem? (i := 1) rfl)) em1)) (by exact Sub.pull [oI b8 25 [(.int .i64 0), (.int .i64 0), (.slice none 0 0), (.slice none 0 0)]] _ (.pull [oI b8 25 [(.int .i64 0), (.int .i64 0), (.slice none 0 0), (.slice none 0 0)]] _ (.pull [oI b8 25 [(.int .i64 0), (.int .i64 0), (.slice none 0 0), (.slice none 0 0)]] _ (.k (.k (.k (.k .z)))))))
    refine RO.forkT [11] (by kernel_rfl) rfl ⟨⟨_, rfl, rfl, l_call ent28 hk22 rfl ?_⟩, trivial⟩ (by kernel_rfl)
    clear hk22
    rintro vr O' ⟨A1, rfl, k1, rfl, rfl⟩
    
    refine ⟨.inr (by exact Sub.d (.k (.k (.k (.d (.k (.k (.k .z)))))))), ?_⟩
    refine RO.forkT [13] (by kernel_rfl) rfl ⟨⟨_, rfl, rfl, l_store_box (v := (dV m1 k1)) (vs := (dC m1 k1)) 4 inf25 rfl rfl rfl rfl rfl rfl (by simp [putL]) ⟨.inl (by decide), ?_⟩⟩, trivial⟩ (by kernel_rfl)
    exact RO.fin (by kernel_rfl) ⟨b8, k1, rfl, ⟨rfl, rfl, rfl, rfl, rfl, rfl, rfl, rfl, trivial⟩⟩ (Sub.pick [4, 0, 0, 0, 0, 0, 0, 0] rfl)
  rintro ρ O ⟨b8, k1, rfl, hH⟩
  obtain ⟨ρ0, rfl⟩ := hH.elim
  clear hH
  refine T.seq ?_
  refine T.draws _ [(0, 0), (1, 0), (2, 0), (3, 0), (4, 0), (5, 0), (6, 0), (7, 0), (9, 0), (8, 1), (10, 1), (11, 0), (12, 0), (13, 2), (14, 2)] mixed (by kernel_rfl) (Sub.of (List.Sublist.refl _)) (fun _ _ _ h => h) ?_
  refine DO.quiet rfl (q_move rfl) (DO.quiet rfl (q_move rfl) (DO.quiet rfl (q_nilCheck rfl) (DO.quiet rfl (q_fieldAddr Tryd.underlying65 rfl inf59 rfl rfl) ?_)))
  refine DO.quiet rfl (q_fieldAddr Tryd.underlying27 rfl inf25 rfl rfl) (DO.quiet rfl (q_load_part 7 (vs := (dC a j1)) Tryd.underlying25 rfl inf25 rfl rfl rfl rfl) (DO.quiet rfl (q_fieldAddr Tryd.underlying27 rfl inf25 rfl rfl) (DO.quiet rfl (q_load_part 6 (vs := (dC c j3)) Tryd.underlying25 rfl inf25 rfl rfl rfl rfl) ?_)))
  refine DO.quiet rfl (q_load_boxAgg 0 Tryd.underlying25 rfl inf25 rfl rfl rfl) ?_
  have hk31 := CallT.under (A := [oI bp 65 (bC (.int .i64 0) S1 S2 s1 s2)]) (B := [oI b8 25 (dC m1 k1), dI 54 4 3 m1 k1, dI 54 4 3 S1 s1, dI 54 4 3 S2 s2, oI y3 27 [(.int .i64 0), (.int .i64 0), (.slice none 0 0), (.slice none 0 0), (.int .i64 0), (.int .i64 0), (.slice none 0 0), (.slice none 0 0)], oI y2 27 (cC c d j3 j4), oI y1 27 (cC a b j1 j2)]) (O := [oI b8 25 (dC m1 k1), dI 54 4 3 m1 k1, oI bp 65 (bC (.int .i64 0) S1 S2 s1 s2), dI 54 4 3 S1 s1, dI 54 4 3 S2 s2, oI y3 27 [(.int .i64 0), (.int .i64 0), (.slice none 0 0), (.slice none 0 0), (.int .i64 0), (.int .i64 0), (.slice none 0 0), (.slice none 0 0)], oI y2 27 (cC c d j3 j4), oI y1 27 (cC a b j1 j2)]) (doB w [] bp S1 S2 s1 s2 a c j1 j3 32 ent32 (fun w1 hI => haveI := Inv.tab (P := Tryd.prog) hI; orZ w1 hz ha hc j1 j3 (hI.atB hj1) (hI.atB hj3) em2)) (by exact Sub.pull [oI b8 25 (dC m1 k1), dI 54 4 3 m1 k1] _ (.k (.k (.k (.k (.k (.k (.k .z))))))))
  refine DO.loud rfl rfl (l_call ent28 hk31 rfl ?_)
  clear hk31
  rintro vr O' ⟨A1, rfl, k2, rfl, rfl⟩
  refine ⟨by exact Sub.d (.pull [oI bp 65 (bC (.int .i64 0) S1 S2 s1 s2)] _ (.pull [oI bp 65 (bC (.int .i64 0) S1 S2 s1 s2)] _ (.k (.k (.k (.k (.k (.k .z)))))))), ?_⟩
  
  have hk33 := CallT.under (A := [oI bp 65 (bC (.int .i64 0) S1 S2 s1 s2)]) (B := [dI 54 4 3 m2 k2, oI b8 25 (dC m1 k1), dI 54 4 3 m1 k1, dI 54 4 3 S1 s1, dI 54 4 3 S2 s2, oI y3 27 [(.int .i64 0), (.int .i64 0), (.slice none 0 0), (.slice none 0 0), (.int .i64 0), (.int .i64 0), (.slice none 0 0), (.slice none 0 0)], oI y2 27 (cC c d j3 j4), oI y1 27 (cC a b j1 j2)]) (O := [dI 54 4 3 m2 k2, oI bp 65 (bC (.int .i64 0) S1 S2 s1 s2), oI b8 25 (dC m1 k1), dI 54 4 3 m1 k1, dI 54 4 3 S1 s1, dI 54 4 3 S2 s2, oI y3 27 [(.int .i64 0), (.int .i64 0), (.slice none 0 0), (.slice none 0 0), (.int .i64 0), (.int .i64 0), (.slice none 0 0), (.slice none 0 0)], oI y2 27 (cC c d j3 j4), oI y1 27 (cC a b j1 j2)]) (built w [] bp S1 S2 s1 s2 m2 m1 k2 k1) (by exact Sub.pull [dI 54 4 3 m2 k2] _ (.k (.k (.k (.k (.k (.k (.k (.k .z)))))))))
  refine DO.loud rfl rfl (l_call ent40 hk33 rfl ?_)
  clear hk33
  rintro vr O' ⟨A1, rfl, rfl, rfl⟩
  refine ⟨by exact Sub.pull [oI bp 65 (bC (.int .i64 0) S1 S2 s1 s2), dI 54 4 3 m2 k2] _ (.pull [oI bp 65 (bC (.int .i64 0) S1 S2 s1 s2), dI 54 4 3 m2 k2] _ (.k (.d (.k (.k (.k (.k (.k .z)))))))), ?_⟩
  refine DO.quiet rfl (q_extract (vs := _) rfl rfl) (DO.quiet rfl (q_extract (vs := _) rfl rfl) ?_)
  refine DO.last rfl rfl (l_store_box (v := (cV m2 m1 k2 k1)) (vs := (cC m2 m1 k2 k1)) 6 inf27 rfl rfl rfl rfl rfl rfl (by simp [putL]) ?_)
  refine DO.last rfl rfl (LT.of_quiet rfl rfl (q_assign rfl) ?_)
  refine DO.done ?_
  refine T.ret (Res.drop ?_)
  refine Res.cell1b (.int .i64 0) (i := 6) Tryd.results20 Tryd.underlying27 rfl inf27 rfl rfl rfl rfl ?_
  exact ⟨[dI 54 4 3 m2 k2, dI 54 4 3 m1 k1], (Sub.pick [1, 2] rfl), k2, k1, by subst em2; subst em1; subst eS2; subst eS1; rfl, by subst em2; subst em1; subst eS2; subst eS1; rfl⟩
set_option maxHeartbeats 8000000 in
set_option maxRecDepth 20000 in
theorem joinC (w : World) [Tab Tryd.prog w] {z a b c d : DFA} {p q p2 q2 : List Nat → Bool} (hz : Valid z) (ha : InL z a p) (hb : InL z b q) (hc : InL z c p2) (hd : InL z d q2) (j1 j2 j3 j4 : DK) (hj1 : At w a j1) (hj2 : At w b j2) (hj3 : At w c j3) (hj4 : At w d j4) :
    PureT Tryd.prog 21 [cV a b j1 j2, cV c d j3 j4] w fun v N => ∃ k1 k2 : DK, v = .tuple #[cV (opD andB a c) (opD orB (satD a b) (satD c d)) k1 k2, .int .i64 0] ∧ N = [dI 54 4 3 (opD andB a c) k1, dI 54 4 3 (opD orB (satD a b) (satD c d)) k2] := by
  refine CallT.enter Tryd.func21 rfl Tryd.ntmps21 rfl ?_
  have hS1 := (InL.sat hz ha hb).2
  obtain ⟨S1, eS1⟩ : ∃ m, satD a b = m := ⟨_, rfl⟩
  rw [eS1] at hS1
  have hS2 := (InL.sat hz hc hd).2
  obtain ⟨S2, eS2⟩ : ∃ m, satD c d = m := ⟨_, rfl⟩
  rw [eS2] at hS2
  have hm1 := (InL.op (f := orB) hz hS1 hS2).2
  obtain ⟨m1, em1⟩ : ∃ m, opD orB S1 S2 = m := ⟨_, rfl⟩
  rw [em1] at hm1
  have hm2 := (InL.op (f := andB) hz ha hc).2
  obtain ⟨m2, em2⟩ : ∃ m, opD andB a c = m := ⟨_, rfl⟩
  rw [em2] at hm2
  refine T.seq (T.region ?_)
  refine TO.loud rfl (l_box (v := (cV a b j1 j2)) (cs := (cC a b j1 j2)) rfl rfl (fun y1 => ?_))
  refine TO.loud rfl (l_box (v := (cV c d j3 j4)) (cs := (cC c d j3 j4)) rfl rfl (fun y2 => ?_))
  refine TO.loud rfl (l_alloc inf27 rfl (fun y3 => ?_))
  refine TO.quiet (q_assign rfl) ?_
  refine TO.nil (T.seq (T.region ?_))
  refine TO.quiet (q_load_boxAgg 2 Tryd.underlying27 rfl inf27 rfl rfl rfl) (TO.quiet (q_load_boxAgg 1 Tryd.underlying27 rfl inf27 rfl rfl rfl) ?_)
  have hk10 := fun (w1 : World) (hI : Inv w [oI y3 27 [(.int .i64 0), (.int .i64 0), (.slice none 0 0), (.slice none 0 0), (.int .i64 0), (.int .i64 0), (.slice none 0 0), (.slice none 0 0)], oI y2 27 (cC c d j3 j4), oI y1 27 (cC a b j1 j2)] w1) => (haveI := Inv.tab (P := Tryd.prog) hI; startC w1 hz ha hb hc hd j1 j2 j3 j4 (hI.atB hj1) (hI.atB hj2) (hI.atB hj3) (hI.atB hj4) eS1 eS2)
  refine TO.loud rfl (l_call ent31 (CallT.of_pure hk10) rfl ?_)
  clear hk10
  rintro vr O' ⟨N, rfl, bp, s1, s2, rfl, rfl⟩
  refine TO.quiet (q_assign rfl) ?_
  refine TO.nil ?_
  refine T.cut (fun ρ O => ∃ (b8 : Nat) (k1 : DK), O = [oI b8 25 (dC m1 k1), dI 54 4 3 m1 k1, oI bp 65 (bC (.int .i64 0) S1 S2 s1 s2), dI 54 4 3 S1 s1, dI 54 4 3 S2 s2, oI y3 27 [(.int .i64 0), (.int .i64 0), (.slice none 0 0), (.slice none 0 0), (.int .i64 0), (.int .i64 0), (.slice none 0 0), (.slice none 0 0)], oI y2 27 (cC c d j3 j4), oI y1 27 (cC a b j1 j2)] ∧ Heads [(0, (cV a b j1 j2)), (1, (cV c d j3 j4)), (2, (.pointer (some ⟨y1, 0, none⟩))), (3, (.pointer (some ⟨y2, 0, none⟩))), (4, (.pointer (some ⟨y3, 0, none⟩))), (5, .int .i64 0), (6, (.pointer (some ⟨bp, 0, none⟩))), (7, (.pointer (some ⟨b8, 0, none⟩)))] ρ) ?_ ?_
  · refine T.treeT [oI bp 65 (bC (.int .i64 0) S1 S2 s1 s2), dI 54 4 3 S1 s1, dI 54 4 3 S2 s2, oI y3 27 [(.int .i64 0), (.int .i64 0), (.slice none 0 0), (.slice none 0 0), (.int .i64 0), (.int .i64 0), (.slice none 0 0), (.slice none 0 0)], oI y2 27 (cC c d j3 j4), oI y1 27 (cC a b j1 j2)] [13] 14 mixed rfl (by exact Sub.rf) (fun _ _ _ h => h) ?_
    refine RO.quietTT 0 rfl (by kernel_rfl) (q_move rfl) ?_
    refine RO.quietTT 1 rfl (by kernel_rfl) (q_nilCheck rfl) ?_
    refine RO.quietTT 2 rfl (by kernel_rfl) (q_fieldAddr Tryd.underlying65 rfl inf59 rfl rfl) ?_
    refine RO.quietTT 3 rfl (by kernel_rfl) (q_move rfl) ?_
    refine RO.quietTT 4 rfl (by kernel_rfl) (q_nilCheck rfl) ?_
    refine RO.quietTT 5 rfl (by kernel_rfl) (q_fieldAddr Tryd.underlying65 rfl inf25 rfl rfl) ?_
    refine RO.quietTT 6 rfl (by kernel_rfl) (q_load_part 0 (vs := (dC S1 s1)) Tryd.underlying25 rfl inf25 rfl rfl rfl rfl) ?_
    refine RO.quietTT 7 rfl (by kernel_rfl) (q_move rfl) ?_
    refine RO.quietTT 8 rfl (by kernel_rfl) (q_nilCheck rfl) ?_
    refine RO.quietTT 9 rfl (by kernel_rfl) (q_fieldAddr Tryd.underlying65 rfl inf25 rfl rfl) ?_
    refine RO.quietTT 10 rfl (by kernel_rfl) (q_load_part 0 (vs := (dC S2 s2)) Tryd.underlying25 rfl inf25 rfl rfl rfl rfl) ?_
    have hk22 := CallT.under (A := [oI bp 65 (bC (.int .i64 0) S1 S2 s1 s2), dI 54 4 3 S1 s1, dI 54 4 3 S2 s2]) (B := [oI y3 27 [(.int .i64 0), (.int .i64 0), (.slice none 0 0), (.slice none 0 0), (.int .i64 0), (.int .i64 0), (.slice none 0 0), (.slice none 0 0)], oI y2 27 (cC c d j3 j4), oI y1 27 (cC a b j1 j2)]) (O := [oI bp 65 (bC (.int .i64 0) S1 S2 s1 s2), dI 54 4 3 S1 s1, dI 54 4 3 S2 s2, oI y3 27 [(.int .i64 0), (.int .i64 0), (.slice none 0 0), (.slice none 0 0), (.int .i64 0), (.int .i64 0), (.slice none 0 0), (.slice none 0 0)], oI y2 27 (cC c d j3 j4), oI y1 27 (cC a b j1 j2)]) (doB w [dI 54 4 3 S1 s1, dI 54 4 3 S2 s2] bp S1 S2 s1 s2 S1 S2 s1 s2 32 ent32 (fun w1 hI => haveI := Inv.tab (P := Tryd.prog) hI; orZ w1 hz hS1 hS2 s1 s2 (hI.at (k := s1) (List.mem_of_getElem? (i := 0) rfl)) (hI.at (k := s2) (List.mem_of_getElem? (i := 1) rfl)) em1)) (by exact Sub.rf)
    refine RO.forkT [11, 12] (by kernel_rfl) rfl ⟨⟨_, rfl, rfl, l_call ent28 hk22 rfl ?_⟩, ⟨_, rfl, rfl, l_alloc inf25 rfl (fun b8 => ⟨.inr (by exact Sub.d (.k (.k (.k (.k (.k (.k .z))))))), ?_⟩)⟩, trivial⟩ (by kernel_rfl)
    · clear hk22
      rintro vr O' ⟨A1, rfl, k1, rfl, rfl⟩
      
      refine ⟨.inr (by exact Sub.d (.k (.k (.k (.k (.k (.k .z))))))), ?_⟩
      refine RO.forkT [12] (by kernel_rfl) rfl ⟨⟨_, rfl, rfl, l_alloc inf25 rfl (fun b8 => ⟨.inr (by exact Sub.d (.d (.k (.k (.k (.k (.k (.k .z)))))))), ?_⟩)⟩, trivial⟩ (by kernel_rfl)
      refine RO.forkT [13] (by kernel_rfl) rfl ⟨⟨_, rfl, rfl, l_store_box (v := (dV m1 k1)) (vs := (dC m1 k1)) 0 inf25 rfl rfl rfl rfl rfl rfl (by simp [putL]) ⟨.inl (by decide), ?_⟩⟩, trivial⟩ (by kernel_rfl)
      exact RO.fin (by kernel_rfl) ⟨b8, k1, rfl, ⟨rfl, rfl, rfl, rfl, rfl, rfl, rfl, rfl, trivial⟩⟩ (Sub.pick [0, 0, 0, 0, 0, 0, 0, 0] rfl)
    have hk22 := CallT.under (A := [oI bp 65 (bC (.int .i64 0) S1 S2 s1 s2), dI 54 4 3 S1 s1, dI 54 4 3 S2 s2]) (B := [oI b8 25 [(.int .i64 0), (.int .i64 0), (.slice none 0 0), (.slice none 0 0)], oI y3 27 [(.int .i64 0), (.int .i64 0), (.slice none 0 0), (.slice none 0 0), (.int .i64 0), (.int .i64 0), (.slice none 0 0), (.slice none 0 0)], oI y2 27 (cC c d j3 j4), oI y1 27 (cC a b j1 j2)]) (O := [oI b8 25 [(.int .i64 0), (.int .i64 0), (.slice none 0 0), (.slice none 0 0)], oI bp 65 (bC (.int .i64 0) S1 S2 s1 s2), dI 54 4 3 S1 s1, dI 54 4 3 S2 s2, oI y3 27 [(.int .i64 0), (.int .i64 0), (.slice none 0 0), (.slice none 0 0), (.int .i64 0), (.int .i64 0), (.slice none 0 0), (.slice none 0 0)], oI y2 27 (cC c d j3 j4), oI y1 27 (cC a b j1 j2)]) (doB w [dI 54 4 3 S1 s1, dI 54 4 3 S2 s2] bp S1 S2 s1 s2 S1 S2 s1 s2 32 ent32 (fun w1 hI => haveI := Inv.tab (P := Tryd.prog) hI; orZ w1 hz hS1 hS2 s1 s2 (hI.at (k := s1) (List.mem_of_getElem? (i := 0) rfl)) (hI.at (k := s2) (List.mem_of_getElem? (i := 1) rfl)) em1)) (by exact Sub.pull [oI b8 25 [(.int .i64 0), (.int .i64 0), (.slice none 0 0), (.slice none 0 0)]] _ (.pull [oI b8 25 [(.int .i64 0), (.int .i64 0), (.slice none 0 0), (.slice none 0 0)]] _ (.pull [oI b8 25 [(.int .i64 0), (.int .i64 0), (.slice none 0 0), (.slice none 0 0)]] _ (.k (.k (.k (.k .z)))))))
    refine RO.forkT [11] (by kernel_rfl) rfl ⟨⟨_, rfl, rfl, l_call ent28 hk22 rfl ?_⟩, trivial⟩ (by kernel_rfl)
    clear hk22
    rintro vr O' ⟨A1, rfl, k1, rfl, rfl⟩
    
    refine ⟨.inr (by exact Sub.d (.k (.k (.k (.d (.k (.k (.k .z)))))))), ?_⟩
    refine RO.forkT [13] (by kernel_rfl) rfl ⟨⟨_, rfl, rfl, l_store_box (v := (dV m1 k1)) (vs := (dC m1 k1)) 4 inf25 rfl rfl rfl rfl rfl rfl (by simp [putL]) ⟨.inl (by decide), ?_⟩⟩, trivial⟩ (by kernel_rfl)
    exact RO.fin (by kernel_rfl) ⟨b8, k1, rfl, ⟨rfl, rfl, rfl, rfl, rfl, rfl, rfl, rfl, trivial⟩⟩ (Sub.pick [4, 0, 0, 0, 0, 0, 0, 0] rfl)
  rintro ρ O ⟨b8, k1, rfl, hH⟩
  obtain ⟨ρ0, rfl⟩ := hH.elim
  clear hH
  refine T.seq ?_
  refine T.draws _ [(0, 0), (1, 0), (2, 0), (3, 0), (4, 0), (5, 0), (6, 0), (7, 0), (9, 0), (8, 1), (10, 1), (11, 0), (12, 0), (13, 2), (14, 2)] mixed (by kernel_rfl) (Sub.of (List.Sublist.refl _)) (fun _ _ _ h => h) ?_
  refine DO.quiet rfl (q_move rfl) (DO.quiet rfl (q_move rfl) (DO.quiet rfl (q_nilCheck rfl) (DO.quiet rfl (q_fieldAddr Tryd.underlying65 rfl inf59 rfl rfl) ?_)))
  refine DO.quiet rfl (q_fieldAddr Tryd.underlying27 rfl inf25 rfl rfl) (DO.quiet rfl (q_load_part 7 (vs := (dC a j1)) Tryd.underlying25 rfl inf25 rfl rfl rfl rfl) (DO.quiet rfl (q_fieldAddr Tryd.underlying27 rfl inf25 rfl rfl) (DO.quiet rfl (q_load_part 6 (vs := (dC c j3)) Tryd.underlying25 rfl inf25 rfl rfl rfl rfl) ?_)))
  refine DO.quiet rfl (q_load_boxAgg 0 Tryd.underlying25 rfl inf25 rfl rfl rfl) ?_
  have hk31 := CallT.under (A := [oI bp 65 (bC (.int .i64 0) S1 S2 s1 s2)]) (B := [oI b8 25 (dC m1 k1), dI 54 4 3 m1 k1, dI 54 4 3 S1 s1, dI 54 4 3 S2 s2, oI y3 27 [(.int .i64 0), (.int .i64 0), (.slice none 0 0), (.slice none 0 0), (.int .i64 0), (.int .i64 0), (.slice none 0 0), (.slice none 0 0)], oI y2 27 (cC c d j3 j4), oI y1 27 (cC a b j1 j2)]) (O := [oI b8 25 (dC m1 k1), dI 54 4 3 m1 k1, oI bp 65 (bC (.int .i64 0) S1 S2 s1 s2), dI 54 4 3 S1 s1, dI 54 4 3 S2 s2, oI y3 27 [(.int .i64 0), (.int .i64 0), (.slice none 0 0), (.slice none 0 0), (.int .i64 0), (.int .i64 0), (.slice none 0 0), (.slice none 0 0)], oI y2 27 (cC c d j3 j4), oI y1 27 (cC a b j1 j2)]) (doB w [] bp S1 S2 s1 s2 a c j1 j3 25 ent25 (fun w1 hI => haveI := Inv.tab (P := Tryd.prog) hI; andZ w1 hz ha hc j1 j3 (hI.atB hj1) (hI.atB hj3) em2)) (by exact Sub.pull [oI b8 25 (dC m1 k1), dI 54 4 3 m1 k1] _ (.k (.k (.k (.k (.k (.k (.k .z))))))))
  refine DO.loud rfl rfl (l_call ent28 hk31 rfl ?_)
  clear hk31
  rintro vr O' ⟨A1, rfl, k2, rfl, rfl⟩
  refine ⟨by exact Sub.d (.pull [oI bp 65 (bC (.int .i64 0) S1 S2 s1 s2)] _ (.pull [oI bp 65 (bC (.int .i64 0) S1 S2 s1 s2)] _ (.k (.k (.k (.k (.k (.k .z)))))))), ?_⟩
  
  have hk33 := CallT.under (A := [oI bp 65 (bC (.int .i64 0) S1 S2 s1 s2)]) (B := [dI 54 4 3 m2 k2, oI b8 25 (dC m1 k1), dI 54 4 3 m1 k1, dI 54 4 3 S1 s1, dI 54 4 3 S2 s2, oI y3 27 [(.int .i64 0), (.int .i64 0), (.slice none 0 0), (.slice none 0 0), (.int .i64 0), (.int .i64 0), (.slice none 0 0), (.slice none 0 0)], oI y2 27 (cC c d j3 j4), oI y1 27 (cC a b j1 j2)]) (O := [dI 54 4 3 m2 k2, oI bp 65 (bC (.int .i64 0) S1 S2 s1 s2), oI b8 25 (dC m1 k1), dI 54 4 3 m1 k1, dI 54 4 3 S1 s1, dI 54 4 3 S2 s2, oI y3 27 [(.int .i64 0), (.int .i64 0), (.slice none 0 0), (.slice none 0 0), (.int .i64 0), (.int .i64 0), (.slice none 0 0), (.slice none 0 0)], oI y2 27 (cC c d j3 j4), oI y1 27 (cC a b j1 j2)]) (built w [] bp S1 S2 s1 s2 m2 m1 k2 k1) (by exact Sub.pull [dI 54 4 3 m2 k2] _ (.k (.k (.k (.k (.k (.k (.k (.k .z)))))))))
  refine DO.loud rfl rfl (l_call ent40 hk33 rfl ?_)
  clear hk33
  rintro vr O' ⟨A1, rfl, rfl, rfl⟩
  refine ⟨by exact Sub.pull [oI bp 65 (bC (.int .i64 0) S1 S2 s1 s2), dI 54 4 3 m2 k2] _ (.pull [oI bp 65 (bC (.int .i64 0) S1 S2 s1 s2), dI 54 4 3 m2 k2] _ (.k (.d (.k (.k (.k (.k (.k .z)))))))), ?_⟩
  refine DO.quiet rfl (q_extract (vs := _) rfl rfl) (DO.quiet rfl (q_extract (vs := _) rfl rfl) ?_)
  refine DO.last rfl rfl (l_store_box (v := (cV m2 m1 k2 k1)) (vs := (cC m2 m1 k2 k1)) 6 inf27 rfl rfl rfl rfl rfl rfl (by simp [putL]) ?_)
  refine DO.last rfl rfl (LT.of_quiet rfl rfl (q_assign rfl) ?_)
  refine DO.done ?_
  refine T.ret (Res.drop ?_)
  refine Res.cell1b (.int .i64 0) (i := 6) Tryd.results21 Tryd.underlying27 rfl inf27 rfl rfl rfl rfl ?_
  exact ⟨[dI 54 4 3 m2 k2, dI 54 4 3 m1 k1], (Sub.pick [1, 2] rfl), k2, k1, by subst em2; subst em1; subst eS2; subst eS1; rfl, by subst em2; subst em1; subst eS2; subst eS1; rfl⟩
set_option maxHeartbeats 8000000 in
set_option maxRecDepth 20000 in
theorem compC (w : World) [Tab Tryd.prog w] {z a b c d : DFA} {p q p2 q2 : List Nat → Bool} (hz : Valid z) (ha : InL z a p) (hb : InL z b q) (hc : InL z c p2) (hd : InL z d q2) (j1 j2 j3 j4 : DK) (hj1 : At w a j1) (hj2 : At w b j2) (hj3 : At w c j3) (hj4 : At w d j4) :
    PureT Tryd.prog 16 [cV a b j1 j2, cV c d j3 j4] w fun v N => ∃ k1 k2 : DK, v = .tuple #[cV (opD orB (opD andB a c) (notD (opD andB (satD a b) (satD c d)))) (opD andB (satD a b) (satD c d)) k1 k2, .int .i64 0] ∧ N = [dI 54 4 3 (opD orB (opD andB a c) (notD (opD andB (satD a b) (satD c d)))) k1, dI 54 4 3 (opD andB (satD a b) (satD c d)) k2] := by
  refine CallT.enter Tryd.func16 rfl Tryd.ntmps16 rfl ?_
  have hS1 := (InL.sat hz ha hb).2
  obtain ⟨S1, eS1⟩ : ∃ m, satD a b = m := ⟨_, rfl⟩
  rw [eS1] at hS1
  have hS2 := (InL.sat hz hc hd).2
  obtain ⟨S2, eS2⟩ : ∃ m, satD c d = m := ⟨_, rfl⟩
  rw [eS2] at hS2
  have hm1 := (InL.op (f := andB) hz hS1 hS2).2
  obtain ⟨m1, em1⟩ : ∃ m, opD andB S1 S2 = m := ⟨_, rfl⟩
  rw [em1] at hm1
  have hm2 := (InL.op (f := andB) hz ha hc).2
  obtain ⟨m2, em2⟩ : ∃ m, opD andB a c = m := ⟨_, rfl⟩
  rw [em2] at hm2
  have hm3 := (InL.not hz hm1).2
  obtain ⟨m3, em3⟩ : ∃ m, notD m1 = m := ⟨_, rfl⟩
  rw [em3] at hm3
  have hm4 := (InL.op (f := orB) hz hm2 hm3).2
  obtain ⟨m4, em4⟩ : ∃ m, opD orB m2 m3 = m := ⟨_, rfl⟩
  rw [em4] at hm4
  refine T.seq (T.region ?_)
  refine TO.loud rfl (l_box (v := (cV a b j1 j2)) (cs := (cC a b j1 j2)) rfl rfl (fun y1 => ?_))
  refine TO.loud rfl (l_box (v := (cV c d j3 j4)) (cs := (cC c d j3 j4)) rfl rfl (fun y2 => ?_))
  refine TO.loud rfl (l_alloc inf27 rfl (fun y3 => ?_))
  refine TO.quiet (q_assign rfl) ?_
  refine TO.nil (T.seq (T.region ?_))
  refine TO.quiet (q_load_boxAgg 2 Tryd.underlying27 rfl inf27 rfl rfl rfl) (TO.quiet (q_load_boxAgg 1 Tryd.underlying27 rfl inf27 rfl rfl rfl) ?_)
  have hk12 := fun (w1 : World) (hI : Inv w [oI y3 27 [(.int .i64 0), (.int .i64 0), (.slice none 0 0), (.slice none 0 0), (.int .i64 0), (.int .i64 0), (.slice none 0 0), (.slice none 0 0)], oI y2 27 (cC c d j3 j4), oI y1 27 (cC a b j1 j2)] w1) => (haveI := Inv.tab (P := Tryd.prog) hI; startC w1 hz ha hb hc hd j1 j2 j3 j4 (hI.atB hj1) (hI.atB hj2) (hI.atB hj3) (hI.atB hj4) eS1 eS2)
  refine TO.loud rfl (l_call ent31 (CallT.of_pure hk12) rfl ?_)
  clear hk12
  rintro vr O' ⟨N, rfl, bp, s1, s2, rfl, rfl⟩
  refine TO.quiet (q_assign rfl) ?_
  refine TO.nil ?_
  refine T.cut (fun ρ O => ∃ (b7 : Nat) (k1 : DK), O = [oI b7 25 (dC m1 k1), dI 54 4 3 m1 k1, oI bp 65 (bC (.int .i64 0) S1 S2 s1 s2), dI 54 4 3 S1 s1, dI 54 4 3 S2 s2, oI y3 27 [(.int .i64 0), (.int .i64 0), (.slice none 0 0), (.slice none 0 0), (.int .i64 0), (.int .i64 0), (.slice none 0 0), (.slice none 0 0)], oI y2 27 (cC c d j3 j4), oI y1 27 (cC a b j1 j2)] ∧ Heads [(0, (cV a b j1 j2)), (1, (cV c d j3 j4)), (2, (.pointer (some ⟨y1, 0, none⟩))), (3, (.pointer (some ⟨y2, 0, none⟩))), (4, (.pointer (some ⟨y3, 0, none⟩))), (5, .int .i64 0), (6, (.pointer (some ⟨bp, 0, none⟩))), (7, (.pointer (some ⟨b7, 0, none⟩)))] ρ) ?_ ?_
  · refine T.treeT [oI bp 65 (bC (.int .i64 0) S1 S2 s1 s2), dI 54 4 3 S1 s1, dI 54 4 3 S2 s2, oI y3 27 [(.int .i64 0), (.int .i64 0), (.slice none 0 0), (.slice none 0 0), (.int .i64 0), (.int .i64 0), (.slice none 0 0), (.slice none 0 0)], oI y2 27 (cC c d j3 j4), oI y1 27 (cC a b j1 j2)] [13] 14 mixed rfl (by exact Sub.rf) (fun _ _ _ h => h) ?_
    refine RO.quietTT 0 rfl (by kernel_rfl) (q_move rfl) ?_
    refine RO.quietTT 1 rfl (by kernel_rfl) (q_nilCheck rfl) ?_
    refine RO.quietTT 2 rfl (by kernel_rfl) (q_fieldAddr Tryd.underlying65 rfl inf59 rfl rfl) ?_
    refine RO.quietTT 3 rfl (by kernel_rfl) (q_move rfl) ?_
    refine RO.quietTT 4 rfl (by kernel_rfl) (q_nilCheck rfl) ?_
    refine RO.quietTT 5 rfl (by kernel_rfl) (q_fieldAddr Tryd.underlying65 rfl inf25 rfl rfl) ?_
    refine RO.quietTT 6 rfl (by kernel_rfl) (q_load_part 0 (vs := (dC S1 s1)) Tryd.underlying25 rfl inf25 rfl rfl rfl rfl) ?_
    refine RO.quietTT 7 rfl (by kernel_rfl) (q_move rfl) ?_
    refine RO.quietTT 8 rfl (by kernel_rfl) (q_nilCheck rfl) ?_
    refine RO.quietTT 9 rfl (by kernel_rfl) (q_fieldAddr Tryd.underlying65 rfl inf25 rfl rfl) ?_
    refine RO.quietTT 10 rfl (by kernel_rfl) (q_load_part 0 (vs := (dC S2 s2)) Tryd.underlying25 rfl inf25 rfl rfl rfl rfl) ?_
    have hk24 := CallT.under (A := [oI bp 65 (bC (.int .i64 0) S1 S2 s1 s2), dI 54 4 3 S1 s1, dI 54 4 3 S2 s2]) (B := [oI y3 27 [(.int .i64 0), (.int .i64 0), (.slice none 0 0), (.slice none 0 0), (.int .i64 0), (.int .i64 0), (.slice none 0 0), (.slice none 0 0)], oI y2 27 (cC c d j3 j4), oI y1 27 (cC a b j1 j2)]) (O := [oI bp 65 (bC (.int .i64 0) S1 S2 s1 s2), dI 54 4 3 S1 s1, dI 54 4 3 S2 s2, oI y3 27 [(.int .i64 0), (.int .i64 0), (.slice none 0 0), (.slice none 0 0), (.int .i64 0), (.int .i64 0), (.slice none 0 0), (.slice none 0 0)], oI y2 27 (cC c d j3 j4), oI y1 27 (cC a b j1 j2)]) (doB w [dI 54 4 3 S1 s1, dI 54 4 3 S2 s2] bp S1 S2 s1 s2 S1 S2 s1 s2 25 ent25 (fun w1 hI => haveI := Inv.tab (P := Tryd.prog) hI; andZ w1 hz hS1 hS2 s1 s2 (hI.at (k := s1) (List.mem_of_getElem? (i := 0) rfl)) (hI.at (k := s2) (List.mem_of_getElem? (i := 1) rfl)) em1)) (by exact Sub.rf)
    refine RO.forkT [11, 12] (by kernel_rfl) rfl ⟨⟨_, rfl, rfl, l_call ent28 hk24 rfl ?_⟩, ⟨_, rfl, rfl, l_alloc inf25 rfl (fun b7 => ⟨.inr (by exact Sub.d (.k (.k (.k (.k (.k (.k .z))))))), ?_⟩)⟩, trivial⟩ (by kernel_rfl)
    · clear hk24
      rintro vr O' ⟨A1, rfl, k1, rfl, rfl⟩
      
      refine ⟨.inr (by exact Sub.d (.k (.k (.k (.k (.k (.k .z))))))), ?_⟩
      refine RO.forkT [12] (by kernel_rfl) rfl ⟨⟨_, rfl, rfl, l_alloc inf25 rfl (fun b7 => ⟨.inr (by exact Sub.d (.d (.k (.k (.k (.k (.k (.k .z)))))))), ?_⟩)⟩, trivial⟩ (by kernel_rfl)
      refine RO.forkT [13] (by kernel_rfl) rfl ⟨⟨_, rfl, rfl, l_store_box (v := (dV m1 k1)) (vs := (dC m1 k1)) 0 inf25 rfl rfl rfl rfl rfl rfl (by simp [putL]) ⟨.inl (by decide), ?_⟩⟩, trivial⟩ (by kernel_rfl)
      exact RO.fin (by kernel_rfl) ⟨b7, k1, rfl, ⟨rfl, rfl, rfl, rfl, rfl, rfl, rfl, rfl, trivial⟩⟩ (Sub.pick [0, 0, 0, 0, 0, 0, 0, 0] rfl)
    have hk24 := CallT.under (A := [oI bp 65 (bC (.int .i64 0) S1 S2 s1 s2), dI 54 4 3 S1 s1, dI 54 4 3 S2 s2]) (B := [oI b7 25 [(.int .i64 0), (.int .i64 0), (.slice none 0 0), (.slice none 0 0)], oI y3 27 [(.int .i64 0), (.int .i64 0), (.slice none 0 0), (.slice none 0 0), (.int .i64 0), (.int .i64 0), (.slice none 0 0), (.slice none 0 0)], oI y2 27 (cC c d j3 j4), oI y1 27 (cC a b j1 j2)]) (O := [oI b7 25 [(.int .i64 0), (.int .i64 0), (.slice none 0 0), (.slice none 0 0)], oI bp 65 (bC (.int .i64 0) S1 S2 s1 s2), dI 54 4 3 S1 s1, dI 54 4 3 S2 s2, oI y3 27 [(.int .i64 0), (.int .i64 0), (.slice none 0 0), (.slice none 0 0), (.int .i64 0), (.int .i64 0), (.slice none 0 0), (.slice none 0 0)], oI y2 27 (cC c d j3 j4), oI y1 27 (cC a b j1 j2)]) (doB w [dI 54 4 3 S1 s1, dI 54 4 3 S2 s2] bp S1 S2 s1 s2 S1 S2 s1 s2 25 ent25 (fun w1 hI => haveI := Inv.tab (P := Tryd.prog) hI; andZ w1 hz hS1 hS2 s1 s2 (hI.at (k := s1) (List.mem_of_getElem? (i := 0) rfl)) (hI.at (k := s2) (List.mem_of_getElem? (i := 1) rfl)) em1)) (by exact Sub.pull [oI b7 25 [(.int .i64 0), (.int .i64 0), (.slice none 0 0), (.slice none 0 0)]] _ (.pull [oI b7 25 [(.int .i64 0), (.int .i64 0), (.slice none 0 0), (.slice none 0 0)]] _ (.pull [oI b7 25 [(.int .i64 0), (.int .i64 0), (.slice none 0 0), (.slice none 0 0)]] _ (.k (.k (.k (.k .z)))))))
    refine RO.forkT [11] (by kernel_rfl) rfl ⟨⟨_, rfl, rfl, l_call ent28 hk24 rfl ?_⟩, trivial⟩ (by kernel_rfl)
    clear hk24
    rintro vr O' ⟨A1, rfl, k1, rfl, rfl⟩
    
    refine ⟨.inr (by exact Sub.d (.k (.k (.k (.d (.k (.k (.k .z)))))))), ?_⟩
    refine RO.forkT [13] (by kernel_rfl) rfl ⟨⟨_, rfl, rfl, l_store_box (v := (dV m1 k1)) (vs := (dC m1 k1)) 4 inf25 rfl rfl rfl rfl rfl rfl (by simp [putL]) ⟨.inl (by decide), ?_⟩⟩, trivial⟩ (by kernel_rfl)
    exact RO.fin (by kernel_rfl) ⟨b7, k1, rfl, ⟨rfl, rfl, rfl, rfl, rfl, rfl, rfl, rfl, trivial⟩⟩ (Sub.pick [4, 0, 0, 0, 0, 0, 0, 0] rfl)
  rintro ρ O ⟨b7, k1, rfl, hH⟩
  obtain ⟨ρ0, rfl⟩ := hH.elim
  clear hH
  refine T.cut (fun ρ O => ∃ (b8 : Nat) (k2 : DK), O = [oI b8 25 (dC m2 k2), dI 54 4 3 m2 k2, oI b7 25 (dC m1 k1), dI 54 4 3 m1 k1, oI bp 65 (bC (.int .i64 0) S1 S2 s1 s2), dI 54 4 3 S1 s1, dI 54 4 3 S2 s2, oI y3 27 [(.int .i64 0), (.int .i64 0), (.slice none 0 0), (.slice none 0 0), (.int .i64 0), (.int .i64 0), (.slice none 0 0), (.slice none 0 0)], oI y2 27 (cC c d j3 j4), oI y1 27 (cC a b j1 j2)] ∧ Heads [(0, (cV a b j1 j2)), (1, (cV c d j3 j4)), (2, (.pointer (some ⟨y1, 0, none⟩))), (3, (.pointer (some ⟨y2, 0, none⟩))), (4, (.pointer (some ⟨y3, 0, none⟩))), (5, .int .i64 0), (6, (.pointer (some ⟨bp, 0, none⟩))), (7, (.pointer (some ⟨b7, 0, none⟩))), (8, (.pointer (some ⟨b8, 0, none⟩)))] ρ) ?_ ?_
  · refine T.treeT [oI b7 25 (dC m1 k1), dI 54 4 3 m1 k1, oI bp 65 (bC (.int .i64 0) S1 S2 s1 s2), dI 54 4 3 S1 s1, dI 54 4 3 S2 s2, oI y3 27 [(.int .i64 0), (.int .i64 0), (.slice none 0 0), (.slice none 0 0), (.int .i64 0), (.int .i64 0), (.slice none 0 0), (.slice none 0 0)], oI y2 27 (cC c d j3 j4), oI y1 27 (cC a b j1 j2)] [9] 10 mixed rfl (by exact Sub.rf) (fun _ _ _ h => h) ?_
    refine RO.quietTT 0 rfl (by kernel_rfl) (q_move rfl) ?_
    refine RO.quietTT 1 rfl (by kernel_rfl) (q_nilCheck rfl) ?_
    refine RO.quietTT 2 rfl (by kernel_rfl) (q_fieldAddr Tryd.underlying65 rfl inf59 rfl rfl) ?_
    refine RO.quietTT 3 rfl (by kernel_rfl) (q_fieldAddr Tryd.underlying27 rfl inf25 rfl rfl) ?_
    refine RO.quietTT 4 rfl (by kernel_rfl) (q_load_part 7 (vs := (dC a j1)) Tryd.underlying25 rfl inf25 rfl rfl rfl rfl) ?_
    refine RO.quietTT 5 rfl (by kernel_rfl) (q_fieldAddr Tryd.underlying27 rfl inf25 rfl rfl) ?_
    refine RO.quietTT 6 rfl (by kernel_rfl) (q_load_part 6 (vs := (dC c j3)) Tryd.underlying25 rfl inf25 rfl rfl rfl rfl) ?_
    have hk32 := CallT.under (A := [oI bp 65 (bC (.int .i64 0) S1 S2 s1 s2)]) (B := [oI b7 25 (dC m1 k1), dI 54 4 3 m1 k1, dI 54 4 3 S1 s1, dI 54 4 3 S2 s2, oI y3 27 [(.int .i64 0), (.int .i64 0), (.slice none 0 0), (.slice none 0 0), (.int .i64 0), (.int .i64 0), (.slice none 0 0), (.slice none 0 0)], oI y2 27 (cC c d j3 j4), oI y1 27 (cC a b j1 j2)]) (O := [oI b7 25 (dC m1 k1), dI 54 4 3 m1 k1, oI bp 65 (bC (.int .i64 0) S1 S2 s1 s2), dI 54 4 3 S1 s1, dI 54 4 3 S2 s2, oI y3 27 [(.int .i64 0), (.int .i64 0), (.slice none 0 0), (.slice none 0 0), (.int .i64 0), (.int .i64 0), (.slice none 0 0), (.slice none 0 0)], oI y2 27 (cC c d j3 j4), oI y1 27 (cC a b j1 j2)]) (doB w [] bp S1 S2 s1 s2 a c j1 j3 25 ent25 (fun w1 hI => haveI := Inv.tab (P := Tryd.prog) hI; andZ w1 hz ha hc j1 j3 (hI.atB hj1) (hI.atB hj3) em2)) (by exact Sub.pull [oI b7 25 (dC m1 k1), dI 54 4 3 m1 k1] _ (.k (.k (.k (.k (.k (.k (.k .z))))))))
    refine RO.forkT [7, 8] (by kernel_rfl) rfl ⟨⟨_, rfl, rfl, l_call ent28 hk32 rfl ?_⟩, ⟨_, rfl, rfl, l_alloc inf25 rfl (fun b8 => ⟨.inr (by exact Sub.d (.k (.k (.k (.k (.k (.k (.k (.k .z))))))))), ?_⟩)⟩, trivial⟩ (by kernel_rfl)
    · clear hk32
      rintro vr O' ⟨A1, rfl, k2, rfl, rfl⟩
      
      refine ⟨.inr (by exact Sub.d (.pull [oI bp 65 (bC (.int .i64 0) S1 S2 s1 s2)] _ (.pull [oI bp 65 (bC (.int .i64 0) S1 S2 s1 s2)] _ (.k (.k (.k (.k (.k (.k .z))))))))), ?_⟩
      refine RO.forkT [8] (by kernel_rfl) rfl ⟨⟨_, rfl, rfl, l_alloc inf25 rfl (fun b8 => ⟨.inr (by exact Sub.d (.d (.pull [oI bp 65 (bC (.int .i64 0) S1 S2 s1 s2)] _ (.pull [oI bp 65 (bC (.int .i64 0) S1 S2 s1 s2)] _ (.k (.k (.k (.k (.k (.k .z)))))))))), ?_⟩)⟩, trivial⟩ (by kernel_rfl)
      refine RO.forkT [9] (by kernel_rfl) rfl ⟨⟨_, rfl, rfl, l_store_box (v := (dV m2 k2)) (vs := (dC m2 k2)) 0 inf25 rfl rfl rfl rfl rfl rfl (by simp [putL]) ⟨.inl (by decide), ?_⟩⟩, trivial⟩ (by kernel_rfl)
      exact RO.fin (by kernel_rfl) ⟨b8, k2, rfl, ⟨rfl, rfl, rfl, rfl, rfl, rfl, rfl, rfl, rfl, trivial⟩⟩ (Sub.pick [0, 0, 1, 1, 0, 0, 0, 0, 0, 0] rfl)
    have hk32 := CallT.under (A := [oI bp 65 (bC (.int .i64 0) S1 S2 s1 s2)]) (B := [oI b8 25 [(.int .i64 0), (.int .i64 0), (.slice none 0 0), (.slice none 0 0)], oI b7 25 (dC m1 k1), dI 54 4 3 m1 k1, dI 54 4 3 S1 s1, dI 54 4 3 S2 s2, oI y3 27 [(.int .i64 0), (.int .i64 0), (.slice none 0 0), (.slice none 0 0), (.int .i64 0), (.int .i64 0), (.slice none 0 0), (.slice none 0 0)], oI y2 27 (cC c d j3 j4), oI y1 27 (cC a b j1 j2)]) (O := [oI b8 25 [(.int .i64 0), (.int .i64 0), (.slice none 0 0), (.slice none 0 0)], oI b7 25 (dC m1 k1), dI 54 4 3 m1 k1, oI bp 65 (bC (.int .i64 0) S1 S2 s1 s2), dI 54 4 3 S1 s1, dI 54 4 3 S2 s2, oI y3 27 [(.int .i64 0), (.int .i64 0), (.slice none 0 0), (.slice none 0 0), (.int .i64 0), (.int .i64 0), (.slice none 0 0), (.slice none 0 0)], oI y2 27 (cC c d j3 j4), oI y1 27 (cC a b j1 j2)]) (doB w [] bp S1 S2 s1 s2 a c j1 j3 25 ent25 (fun w1 hI => haveI := Inv.tab (P := Tryd.prog) hI; andZ w1 hz ha hc j1 j3 (hI.atB hj1) (hI.atB hj3) em2)) (by exact Sub.pull [oI b8 25 [(.int .i64 0), (.int .i64 0), (.slice none 0 0), (.slice none 0 0)], oI b7 25 (dC m1 k1), dI 54 4 3 m1 k1] _ (.k (.k (.k (.k (.k (.k (.k (.k .z)))))))))
    refine RO.forkT [7] (by kernel_rfl) rfl ⟨⟨_, rfl, rfl, l_call ent28 hk32 rfl ?_⟩, trivial⟩ (by kernel_rfl)
    clear hk32
    rintro vr O' ⟨A1, rfl, k2, rfl, rfl⟩
    
    refine ⟨.inr (by exact Sub.d (.pull [oI bp 65 (bC (.int .i64 0) S1 S2 s1 s2), oI b8 25 [(.int .i64 0), (.int .i64 0), (.slice none 0 0), (.slice none 0 0)]] _ (.pull [oI bp 65 (bC (.int .i64 0) S1 S2 s1 s2), oI b8 25 [(.int .i64 0), (.int .i64 0), (.slice none 0 0), (.slice none 0 0)]] _ (.k (.d (.k (.k (.k (.k (.k .z)))))))))), ?_⟩
    refine RO.forkT [9] (by kernel_rfl) rfl ⟨⟨_, rfl, rfl, l_store_box (v := (dV m2 k2)) (vs := (dC m2 k2)) 2 inf25 rfl rfl rfl rfl rfl rfl (by simp [putL]) ⟨.inl (by decide), ?_⟩⟩, trivial⟩ (by kernel_rfl)
    exact RO.fin (by kernel_rfl) ⟨b8, k2, rfl, ⟨rfl, rfl, rfl, rfl, rfl, rfl, rfl, rfl, rfl, trivial⟩⟩ (Sub.pick [2, 0, 1, 1, 0, 0, 0, 0, 0, 0] rfl)
  rintro ρ O ⟨b8, k2, rfl, hH⟩
  obtain ⟨ρ0, rfl⟩ := hH.elim
  clear hH
  refine T.cut (fun ρ O => ∃ (b9 : Nat) (k3 : DK), O = [oI b9 25 (dC m3 k3), dI 54 4 3 m3 k3, oI b8 25 (dC m2 k2), dI 54 4 3 m2 k2, oI b7 25 (dC m1 k1), dI 54 4 3 m1 k1, oI bp 65 (bC (.int .i64 0) S1 S2 s1 s2), dI 54 4 3 S1 s1, dI 54 4 3 S2 s2, oI y3 27 [(.int .i64 0), (.int .i64 0), (.slice none 0 0), (.slice none 0 0), (.int .i64 0), (.int .i64 0), (.slice none 0 0), (.slice none 0 0)], oI y2 27 (cC c d j3 j4), oI y1 27 (cC a b j1 j2)] ∧ Heads [(0, (cV a b j1 j2)), (1, (cV c d j3 j4)), (2, (.pointer (some ⟨y1, 0, none⟩))), (3, (.pointer (some ⟨y2, 0, none⟩))), (4, (.pointer (some ⟨y3, 0, none⟩))), (5, .int .i64 0), (6, (.pointer (some ⟨bp, 0, none⟩))), (7, (.pointer (some ⟨b7, 0, none⟩))), (8, (.pointer (some ⟨b8, 0, none⟩))), (9, (.pointer (some ⟨b9, 0, none⟩)))] ρ) ?_ ?_
  · refine T.treeT [oI b8 25 (dC m2 k2), dI 54 4 3 m2 k2, oI b7 25 (dC m1 k1), dI 54 4 3 m1 k1, oI bp 65 (bC (.int .i64 0) S1 S2 s1 s2), dI 54 4 3 S1 s1, dI 54 4 3 S2 s2, oI y3 27 [(.int .i64 0), (.int .i64 0), (.slice none 0 0), (.slice none 0 0), (.int .i64 0), (.int .i64 0), (.slice none 0 0), (.slice none 0 0)], oI y2 27 (cC c d j3 j4), oI y1 27 (cC a b j1 j2)] [6] 7 mixed rfl (by exact Sub.rf) (fun _ _ _ h => h) ?_
    refine RO.quietTT 0 rfl (by kernel_rfl) (q_move rfl) ?_
    refine RO.quietTT 1 rfl (by kernel_rfl) (q_nilCheck rfl) ?_
    refine RO.quietTT 2 rfl (by kernel_rfl) (q_fieldAddr Tryd.underlying65 rfl inf59 rfl rfl) ?_
    refine RO.quietTT 3 rfl (by kernel_rfl) (q_load_boxAgg 2 Tryd.underlying25 rfl inf25 rfl rfl rfl) ?_
    have hk37 := CallT.under (A := [oI bp 65 (bC (.int .i64 0) S1 S2 s1 s2), dI 54 4 3 m1 k1]) (B := [oI b8 25 (dC m2 k2), dI 54 4 3 m2 k2, oI b7 25 (dC m1 k1), dI 54 4 3 S1 s1, dI 54 4 3 S2 s2, oI y3 27 [(.int .i64 0), (.int .i64 0), (.slice none 0 0), (.slice none 0 0), (.int .i64 0), (.int .i64 0), (.slice none 0 0), (.slice none 0 0)], oI y2 27 (cC c d j3 j4), oI y1 27 (cC a b j1 j2)]) (O := [oI b8 25 (dC m2 k2), dI 54 4 3 m2 k2, oI b7 25 (dC m1 k1), dI 54 4 3 m1 k1, oI bp 65 (bC (.int .i64 0) S1 S2 s1 s2), dI 54 4 3 S1 s1, dI 54 4 3 S2 s2, oI y3 27 [(.int .i64 0), (.int .i64 0), (.slice none 0 0), (.slice none 0 0), (.int .i64 0), (.int .i64 0), (.slice none 0 0), (.slice none 0 0)], oI y2 27 (cC c d j3 j4), oI y1 27 (cC a b j1 j2)]) (notM w [dI 54 4 3 m1 k1] bp S1 S2 s1 s2 hz hm1 k1 (fun w1 hI => haveI := Inv.tab (P := Tryd.prog) hI; (hI.at (k := k1) (List.mem_of_getElem? (i := 0) rfl))) em3) (by exact Sub.pull [oI b8 25 (dC m2 k2), dI 54 4 3 m2 k2, oI b7 25 (dC m1 k1), dI 54 4 3 m1 k1] _ (.pull [oI b8 25 (dC m2 k2), dI 54 4 3 m2 k2, oI b7 25 (dC m1 k1)] _ (.k (.k (.k (.k (.k (.k (.k (.k .z))))))))))
    refine RO.forkT [4, 5] (by kernel_rfl) rfl ⟨⟨_, rfl, rfl, l_call ent39 hk37 rfl ?_⟩, ⟨_, rfl, rfl, l_alloc inf25 rfl (fun b9 => ⟨.inr (by exact Sub.d (.k (.k (.k (.k (.k (.k (.k (.k (.k (.k .z))))))))))), ?_⟩)⟩, trivial⟩ (by kernel_rfl)
    · clear hk37
      rintro vr O' ⟨A1, rfl, k3, rfl, rfl⟩
      refine ⟨.inr (by exact Sub.d (.pull [oI bp 65 (bC (.int .i64 0) S1 S2 s1 s2), dI 54 4 3 m1 k1] _ (.pull [oI bp 65 (bC (.int .i64 0) S1 S2 s1 s2), dI 54 4 3 m1 k1] _ (.pull [oI bp 65 (bC (.int .i64 0) S1 S2 s1 s2), dI 54 4 3 m1 k1] _ (.pull [oI bp 65 (bC (.int .i64 0) S1 S2 s1 s2)] _ (.k (.k (.k (.k (.k (.k .z))))))))))), ?_⟩
      refine RO.forkT [5] (by kernel_rfl) rfl ⟨⟨_, rfl, rfl, l_alloc inf25 rfl (fun b9 => ⟨.inr (by exact Sub.d (.d (.pull [oI bp 65 (bC (.int .i64 0) S1 S2 s1 s2), dI 54 4 3 m1 k1] _ (.pull [oI bp 65 (bC (.int .i64 0) S1 S2 s1 s2), dI 54 4 3 m1 k1] _ (.pull [oI bp 65 (bC (.int .i64 0) S1 S2 s1 s2), dI 54 4 3 m1 k1] _ (.pull [oI bp 65 (bC (.int .i64 0) S1 S2 s1 s2)] _ (.k (.k (.k (.k (.k (.k .z)))))))))))), ?_⟩)⟩, trivial⟩ (by kernel_rfl)
      refine RO.forkT [6] (by kernel_rfl) rfl ⟨⟨_, rfl, rfl, l_store_box (v := (dV m3 k3)) (vs := (dC m3 k3)) 0 inf25 rfl rfl rfl rfl rfl rfl (by simp [putL]) ⟨.inl (by decide), ?_⟩⟩, trivial⟩ (by kernel_rfl)
      exact RO.fin (by kernel_rfl) ⟨b9, k3, rfl, ⟨rfl, rfl, rfl, rfl, rfl, rfl, rfl, rfl, rfl, rfl, trivial⟩⟩ (Sub.pick [0, 0, 2, 2, 2, 1, 0, 0, 0, 0, 0, 0] rfl)
    have hk37 := CallT.under (A := [oI bp 65 (bC (.int .i64 0) S1 S2 s1 s2), dI 54 4 3 m1 k1]) (B := [oI b9 25 [(.int .i64 0), (.int .i64 0), (.slice none 0 0), (.slice none 0 0)], oI b8 25 (dC m2 k2), dI 54 4 3 m2 k2, oI b7 25 (dC m1 k1), dI 54 4 3 S1 s1, dI 54 4 3 S2 s2, oI y3 27 [(.int .i64 0), (.int .i64 0), (.slice none 0 0), (.slice none 0 0), (.int .i64 0), (.int .i64 0), (.slice none 0 0), (.slice none 0 0)], oI y2 27 (cC c d j3 j4), oI y1 27 (cC a b j1 j2)]) (O := [oI b9 25 [(.int .i64 0), (.int .i64 0), (.slice none 0 0), (.slice none 0 0)], oI b8 25 (dC m2 k2), dI 54 4 3 m2 k2, oI b7 25 (dC m1 k1), dI 54 4 3 m1 k1, oI bp 65 (bC (.int .i64 0) S1 S2 s1 s2), dI 54 4 3 S1 s1, dI 54 4 3 S2 s2, oI y3 27 [(.int .i64 0), (.int .i64 0), (.slice none 0 0), (.slice none 0 0), (.int .i64 0), (.int .i64 0), (.slice none 0 0), (.slice none 0 0)], oI y2 27 (cC c d j3 j4), oI y1 27 (cC a b j1 j2)]) (notM w [dI 54 4 3 m1 k1] bp S1 S2 s1 s2 hz hm1 k1 (fun w1 hI => haveI := Inv.tab (P := Tryd.prog) hI; (hI.at (k := k1) (List.mem_of_getElem? (i := 0) rfl))) em3) (by exact Sub.pull [oI b9 25 [(.int .i64 0), (.int .i64 0), (.slice none 0 0), (.slice none 0 0)], oI b8 25 (dC m2 k2), dI 54 4 3 m2 k2, oI b7 25 (dC m1 k1), dI 54 4 3 m1 k1] _ (.pull [oI b9 25 [(.int .i64 0), (.int .i64 0), (.slice none 0 0), (.slice none 0 0)], oI b8 25 (dC m2 k2), dI 54 4 3 m2 k2, oI b7 25 (dC m1 k1)] _ (.k (.k (.k (.k (.k (.k (.k (.k (.k .z)))))))))))
    refine RO.forkT [4] (by kernel_rfl) rfl ⟨⟨_, rfl, rfl, l_call ent39 hk37 rfl ?_⟩, trivial⟩ (by kernel_rfl)
    clear hk37
    rintro vr O' ⟨A1, rfl, k3, rfl, rfl⟩
    refine ⟨.inr (by exact Sub.d (.pull [oI bp 65 (bC (.int .i64 0) S1 S2 s1 s2), dI 54 4 3 m1 k1, oI b9 25 [(.int .i64 0), (.int .i64 0), (.slice none 0 0), (.slice none 0 0)]] _ (.pull [oI bp 65 (bC (.int .i64 0) S1 S2 s1 s2), dI 54 4 3 m1 k1, oI b9 25 [(.int .i64 0), (.int .i64 0), (.slice none 0 0), (.slice none 0 0)]] _ (.pull [oI bp 65 (bC (.int .i64 0) S1 S2 s1 s2), dI 54 4 3 m1 k1, oI b9 25 [(.int .i64 0), (.int .i64 0), (.slice none 0 0), (.slice none 0 0)]] _ (.pull [oI bp 65 (bC (.int .i64 0) S1 S2 s1 s2)] _ (.k (.d (.k (.k (.k (.k (.k .z)))))))))))), ?_⟩
    refine RO.forkT [6] (by kernel_rfl) rfl ⟨⟨_, rfl, rfl, l_store_box (v := (dV m3 k3)) (vs := (dC m3 k3)) 3 inf25 rfl rfl rfl rfl rfl rfl (by simp [putL]) ⟨.inl (by decide), ?_⟩⟩, trivial⟩ (by kernel_rfl)
    exact RO.fin (by kernel_rfl) ⟨b9, k3, rfl, ⟨rfl, rfl, rfl, rfl, rfl, rfl, rfl, rfl, rfl, rfl, trivial⟩⟩ (Sub.pick [3, 0, 2, 2, 2, 1, 0, 0, 0, 0, 0, 0] rfl)
  rintro ρ O ⟨b9, k3, rfl, hH⟩
  obtain ⟨ρ0, rfl⟩ := hH.elim
  clear hH
  refine T.seq ?_
  refine T.draws _ [(0, 0), (1, 0), (2, 0), (3, 0), (4, 0), (5, 0), (7, 0), (6, 1), (8, 1), (9, 0), (10, 0), (11, 2), (12, 2)] mixed (by kernel_rfl) (Sub.of (List.Sublist.refl _)) (fun _ _ _ h => h) ?_
  refine DO.quiet rfl (q_move rfl) (DO.quiet rfl (q_move rfl) (DO.quiet rfl (q_nilCheck rfl) (DO.quiet rfl (q_fieldAddr Tryd.underlying65 rfl inf59 rfl rfl) ?_)))
  refine DO.quiet rfl (q_load_boxAgg 2 Tryd.underlying25 rfl inf25 rfl rfl rfl) (DO.quiet rfl (q_load_boxAgg 0 Tryd.underlying25 rfl inf25 rfl rfl rfl) (DO.quiet rfl (q_load_boxAgg 4 Tryd.underlying25 rfl inf25 rfl rfl rfl) ?_))
  have hk44 := CallT.under (A := [oI bp 65 (bC (.int .i64 0) S1 S2 s1 s2), dI 54 4 3 m2 k2, dI 54 4 3 m3 k3]) (B := [oI b9 25 (dC m3 k3), oI b8 25 (dC m2 k2), oI b7 25 (dC m1 k1), dI 54 4 3 m1 k1, dI 54 4 3 S1 s1, dI 54 4 3 S2 s2, oI y3 27 [(.int .i64 0), (.int .i64 0), (.slice none 0 0), (.slice none 0 0), (.int .i64 0), (.int .i64 0), (.slice none 0 0), (.slice none 0 0)], oI y2 27 (cC c d j3 j4), oI y1 27 (cC a b j1 j2)]) (O := [oI b9 25 (dC m3 k3), dI 54 4 3 m3 k3, oI b8 25 (dC m2 k2), dI 54 4 3 m2 k2, oI b7 25 (dC m1 k1), dI 54 4 3 m1 k1, oI bp 65 (bC (.int .i64 0) S1 S2 s1 s2), dI 54 4 3 S1 s1, dI 54 4 3 S2 s2, oI y3 27 [(.int .i64 0), (.int .i64 0), (.slice none 0 0), (.slice none 0 0), (.int .i64 0), (.int .i64 0), (.slice none 0 0), (.slice none 0 0)], oI y2 27 (cC c d j3 j4), oI y1 27 (cC a b j1 j2)]) (doB w [dI 54 4 3 m2 k2, dI 54 4 3 m3 k3] bp S1 S2 s1 s2 m2 m3 k2 k3 32 ent32 (fun w1 hI => haveI := Inv.tab (P := Tryd.prog) hI; orZ w1 hz hm2 hm3 k2 k3 (hI.at (k := k2) (List.mem_of_getElem? (i := 0) rfl)) (hI.at (k := k3) (List.mem_of_getElem? (i := 1) rfl)) em4)) (by exact Sub.pull [oI b9 25 (dC m3 k3), dI 54 4 3 m3 k3, oI b8 25 (dC m2 k2), dI 54 4 3 m2 k2, oI b7 25 (dC m1 k1), dI 54 4 3 m1 k1] _ (.pull [oI b9 25 (dC m3 k3), dI 54 4 3 m3 k3, oI b8 25 (dC m2 k2)] _ (.pull [oI b9 25 (dC m3 k3)] _ (.k (.k (.k (.k (.k (.k (.k (.k (.k .z))))))))))))
  refine DO.loud rfl rfl (l_call ent28 hk44 rfl ?_)
  clear hk44
  rintro vr O' ⟨A1, rfl, k4, rfl, rfl⟩
  refine ⟨by exact Sub.d (.pull [oI bp 65 (bC (.int .i64 0) S1 S2 s1 s2), dI 54 4 3 m2 k2, dI 54 4 3 m3 k3] _ (.pull [oI bp 65 (bC (.int .i64 0) S1 S2 s1 s2), dI 54 4 3 m2 k2] _ (.pull [oI bp 65 (bC (.int .i64 0) S1 S2 s1 s2), dI 54 4 3 m2 k2] _ (.pull [oI bp 65 (bC (.int .i64 0) S1 S2 s1 s2)] _ (.pull [oI bp 65 (bC (.int .i64 0) S1 S2 s1 s2)] _ (.pull [oI bp 65 (bC (.int .i64 0) S1 S2 s1 s2)] _ (.k (.k (.k (.k (.k (.k .z)))))))))))), ?_⟩
  
  have hk46 := CallT.under (A := [oI bp 65 (bC (.int .i64 0) S1 S2 s1 s2)]) (B := [dI 54 4 3 m4 k4, dI 54 4 3 m2 k2, dI 54 4 3 m3 k3, oI b9 25 (dC m3 k3), oI b8 25 (dC m2 k2), oI b7 25 (dC m1 k1), dI 54 4 3 m1 k1, dI 54 4 3 S1 s1, dI 54 4 3 S2 s2, oI y3 27 [(.int .i64 0), (.int .i64 0), (.slice none 0 0), (.slice none 0 0), (.int .i64 0), (.int .i64 0), (.slice none 0 0), (.slice none 0 0)], oI y2 27 (cC c d j3 j4), oI y1 27 (cC a b j1 j2)]) (O := [dI 54 4 3 m4 k4, oI bp 65 (bC (.int .i64 0) S1 S2 s1 s2), dI 54 4 3 m2 k2, dI 54 4 3 m3 k3, oI b9 25 (dC m3 k3), oI b8 25 (dC m2 k2), oI b7 25 (dC m1 k1), dI 54 4 3 m1 k1, dI 54 4 3 S1 s1, dI 54 4 3 S2 s2, oI y3 27 [(.int .i64 0), (.int .i64 0), (.slice none 0 0), (.slice none 0 0), (.int .i64 0), (.int .i64 0), (.slice none 0 0), (.slice none 0 0)], oI y2 27 (cC c d j3 j4), oI y1 27 (cC a b j1 j2)]) (built w [] bp S1 S2 s1 s2 m4 m1 k4 k1) (by exact Sub.pull [dI 54 4 3 m4 k4] _ (.k (.k (.k (.k (.k (.k (.k (.k (.k (.k (.k (.k .z)))))))))))))
  refine DO.loud rfl rfl (l_call ent40 hk46 rfl ?_)
  clear hk46
  rintro vr O' ⟨A1, rfl, rfl, rfl⟩
  refine ⟨by exact Sub.pull [oI bp 65 (bC (.int .i64 0) S1 S2 s1 s2), dI 54 4 3 m4 k4, dI 54 4 3 m2 k2, dI 54 4 3 m3 k3] _ (.pull [oI bp 65 (bC (.int .i64 0) S1 S2 s1 s2), dI 54 4 3 m4 k4, dI 54 4 3 m2 k2] _ (.pull [oI bp 65 (bC (.int .i64 0) S1 S2 s1 s2), dI 54 4 3 m4 k4, dI 54 4 3 m2 k2] _ (.pull [oI bp 65 (bC (.int .i64 0) S1 S2 s1 s2), dI 54 4 3 m4 k4] _ (.pull [oI bp 65 (bC (.int .i64 0) S1 S2 s1 s2), dI 54 4 3 m4 k4] _ (.pull [oI bp 65 (bC (.int .i64 0) S1 S2 s1 s2), dI 54 4 3 m4 k4] _ (.k (.d (.k (.k (.k (.k (.k .z)))))))))))), ?_⟩
  refine DO.quiet rfl (q_extract (vs := _) rfl rfl) (DO.quiet rfl (q_extract (vs := _) rfl rfl) ?_)
  refine DO.last rfl rfl (l_store_box (v := (cV m4 m1 k4 k1)) (vs := (cC m4 m1 k4 k1)) 10 inf27 rfl rfl rfl rfl rfl rfl (by simp [putL]) ?_)
  refine DO.last rfl rfl (LT.of_quiet rfl rfl (q_assign rfl) ?_)
  refine DO.done ?_
  refine T.ret (Res.drop ?_)
  refine Res.cell1b (.int .i64 0) (i := 10) Tryd.results16 Tryd.underlying27 rfl inf27 rfl rfl rfl rfl ?_
  exact ⟨[dI 54 4 3 m4 k4, dI 54 4 3 m1 k1], (Sub.pick [1, 6] rfl), k4, k1, by subst em4; subst em3; subst em2; subst em1; subst eS2; subst eS1; rfl, by subst em4; subst em3; subst em2; subst em1; subst eS2; subst eS1; rfl⟩
set_option maxHeartbeats 8000000 in
set_option maxRecDepth 20000 in
theorem satC (w : World) [Tab Tryd.prog w] {z a b : DFA} {p q : List Nat → Bool} (hz : Valid z) (ha : InL z a p) (hb : InL z b q) (j1 j2 : DK) (hj1 : At w a j1) (hj2 : At w b j2) :
    PureT Tryd.prog 23 [cV a b j1 j2] w fun v N => ∃ k1 k2 : DK, v = .tuple #[cV (minD a) (satD a b) k1 k2, .int .i64 0] ∧ N = [dI 54 4 3 (minD a) k1, dI 54 4 3 (satD a b) k2] := by
  refine CallT.enter Tryd.func23 rfl Tryd.ntmps23 rfl ?_
  have hS1 := (InL.sat hz ha hb).2
  obtain ⟨S1, eS1⟩ : ∃ m, satD a b = m := ⟨_, rfl⟩
  rw [eS1] at hS1
  obtain ⟨mA, emA⟩ : ∃ m, minD a = m := ⟨_, rfl⟩
  refine T.seq (T.region ?_)
  refine TO.loud rfl (l_box (v := (cV a b j1 j2)) (cs := (cC a b j1 j2)) rfl rfl (fun y1 => ?_))
  refine TO.loud rfl (l_alloc inf27 rfl (fun y2 => ?_))
  refine TO.quiet (q_assign rfl) ?_
  refine TO.nil (T.seq (T.region ?_))
  refine TO.quiet (q_load_boxAgg 1 Tryd.underlying27 rfl inf27 rfl rfl rfl) (TO.quiet (q_load_boxAgg 1 Tryd.underlying27 rfl inf27 rfl rfl rfl) ?_)
  have hk7 := fun (w1 : World) (hI : Inv w [oI y2 27 [(.int .i64 0), (.int .i64 0), (.slice none 0 0), (.slice none 0 0), (.int .i64 0), (.int .i64 0), (.slice none 0 0), (.slice none 0 0)], oI y1 27 (cC a b j1 j2)] w1) => (haveI := Inv.tab (P := Tryd.prog) hI; startC w1 hz ha hb ha hb j1 j2 j1 j2 (hI.atB hj1) (hI.atB hj2) (hI.atB hj1) (hI.atB hj2) eS1 eS1)
  refine TO.loud rfl (l_call ent31 (CallT.of_pure hk7) rfl ?_)
  clear hk7
  rintro vr O' ⟨N, rfl, bp, s1, s2, rfl, rfl⟩
  refine TO.quiet (q_assign rfl) ?_
  refine TO.nil (T.seq ?_)
  refine T.draws _ [(0, 0), (1, 0), (2, 0), (3, 0), (4, 0), (5, 0), (6, 0), (7, 0), (9, 0), (10, 0), (11, 0), (12, 0), (8, 1), (13, 1), (14, 0), (15, 0), (16, 2), (17, 2)] mixed (by kernel_rfl) (Sub.of (List.Sublist.refl _)) (fun _ _ _ h => h) ?_
  refine DO.quiet rfl (q_move rfl) (DO.quiet rfl (q_move rfl) (DO.quiet rfl (q_nilCheck rfl) (DO.quiet rfl (q_fieldAddr Tryd.underlying65 rfl inf59 rfl rfl) ?_)))
  refine DO.quiet rfl (q_fieldAddr Tryd.underlying27 rfl inf25 rfl rfl) (DO.quiet rfl (q_load_part 4 (vs := (dC a j1)) Tryd.underlying25 rfl inf25 rfl rfl rfl rfl) (DO.quiet rfl (q_fieldAddr Tryd.underlying27 rfl inf25 rfl rfl) (DO.quiet rfl (q_load_part 4 (vs := (dC a j1)) Tryd.underlying25 rfl inf25 rfl rfl rfl rfl) ?_)))
  refine DO.quiet rfl (q_move rfl) (DO.quiet rfl (q_nilCheck rfl) (DO.quiet rfl (q_fieldAddr Tryd.underlying65 rfl inf25 rfl rfl) (DO.quiet rfl (q_load_part 0 (vs := (dC S1 s1)) Tryd.underlying25 rfl inf25 rfl rfl rfl rfl) ?_)))
  have hk16 := CallT.under (A := [oI bp 65 (bC (.int .i64 0) S1 S1 s1 s2)]) (B := [dI 54 4 3 S1 s1, dI 54 4 3 S1 s2, oI y2 27 [(.int .i64 0), (.int .i64 0), (.slice none 0 0), (.slice none 0 0), (.int .i64 0), (.int .i64 0), (.slice none 0 0), (.slice none 0 0)], oI y1 27 (cC a b j1 j2)]) (O := [oI bp 65 (bC (.int .i64 0) S1 S1 s1 s2), dI 54 4 3 S1 s1, dI 54 4 3 S1 s2, oI y2 27 [(.int .i64 0), (.int .i64 0), (.slice none 0 0), (.slice none 0 0), (.int .i64 0), (.int .i64 0), (.slice none 0 0), (.slice none 0 0)], oI y1 27 (cC a b j1 j2)]) (doB w [] bp S1 S1 s1 s2 a a j1 j1 44 ent44 (fun w1 hI => haveI := Inv.tab (P := Tryd.prog) hI; min1Z w1 a a ha.has.valid j1 j1 (hI.atB hj1) emA)) (by exact Sub.rf)
  refine DO.loud rfl rfl (l_call ent28 hk16 rfl ?_)
  clear hk16
  rintro vr O' ⟨A1, rfl, kA, rfl, rfl⟩
  refine ⟨by exact Sub.d (.k (.k (.k (.k (.k .z))))), ?_⟩
  have hk21 := CallT.under (A := [oI bp 65 (bC (.int .i64 0) S1 S1 s1 s2)]) (B := [dI 54 4 3 mA kA, dI 54 4 3 S1 s1, dI 54 4 3 S1 s2, oI y2 27 [(.int .i64 0), (.int .i64 0), (.slice none 0 0), (.slice none 0 0), (.int .i64 0), (.int .i64 0), (.slice none 0 0), (.slice none 0 0)], oI y1 27 (cC a b j1 j2)]) (O := [dI 54 4 3 mA kA, oI bp 65 (bC (.int .i64 0) S1 S1 s1 s2), dI 54 4 3 S1 s1, dI 54 4 3 S1 s2, oI y2 27 [(.int .i64 0), (.int .i64 0), (.slice none 0 0), (.slice none 0 0), (.int .i64 0), (.int .i64 0), (.slice none 0 0), (.slice none 0 0)], oI y1 27 (cC a b j1 j2)]) (built w [] bp S1 S1 s1 s2 mA S1 kA s1) (by exact Sub.pull [dI 54 4 3 mA kA] _ (.k (.k (.k (.k (.k .z))))))
  refine DO.loud rfl rfl (l_call ent40 hk21 rfl ?_)
  clear hk21
  rintro vr O' ⟨A1, rfl, rfl, rfl⟩
  refine ⟨by exact Sub.k (.d (.k (.k (.k (.k .z))))), ?_⟩
  refine DO.quiet rfl (q_extract (vs := _) rfl rfl) (DO.quiet rfl (q_extract (vs := _) rfl rfl) ?_)
  refine DO.last rfl rfl (l_store_box (v := (cV mA S1 kA s1)) (vs := (cC mA S1 kA s1)) 4 inf27 rfl rfl rfl rfl rfl rfl (by simp [putL]) ?_)
  refine DO.last rfl rfl (LT.of_quiet rfl rfl (q_assign rfl) ?_)
  refine DO.done ?_
  refine T.ret (Res.drop ?_)
  refine Res.cell1b (.int .i64 0) (i := 4) Tryd.results23 Tryd.underlying27 rfl inf27 rfl rfl rfl rfl ?_
  exact ⟨[dI 54 4 3 mA kA, dI 54 4 3 S1 s1], (Sub.pick [1, 1] rfl), kA, s1, by subst eS1; subst emA; rfl, by subst eS1; subst emA; rfl⟩
end Go.Proofs.YtnpehjpookcfkaaDoor

namespace Go.Proofs.YtnpehjpookcfkaaDoor
open Go.Lx Go.RowKit
set_option linter.unusedVariables false
set_option linter.unusedSimpArgs false
set_option maxHeartbeats 1000000 in
set_option maxRecDepth 20000 in
theorem indexFunc (base : World) [Tab Tryd.prog base] (b : Option Addr) (c : Nat) (xs : List Nat) (hS : Sl base b (byts xs)) (hb : xs.length < 9223372036854775807) (fv : Value) (p : Nat → Bool) (OO : List Lx.Item) (hy : ∀ x ∈ xs, CallV Tryd.prog base fv [.int .u8 (x : Int)] OO (fun v O' => v = .bool (p x) ∧ O' = OO)) :
    CallT Tryd.prog base 81 [.slice b xs.length c, fv] OO (fun v O' => ∃ i : Int, v = .int .i64 i ∧ decide (i ≥ 0) = xs.any p ∧ O' = OO) := by
  refine CallT.enter Tryd.func81 rfl Tryd.ntmps81 rfl ?_
  refine T.seq (T.region ?_)
  refine TO.quiet (q_assign rfl) ?_
  refine TO.nil (T.seq (T.seq (T.region ?_)))
  refine TO.quiet (q_move rfl) (TO.quiet (q_len Tryd.underlying29 rfl) (TO.quiet (q_move rfl) ?_))
  refine TO.nil (T.block ?_)
  refine T.loop (fun (k : Nat) ρ O => O = ([] ++ OO) ∧ k ≤ xs.length ∧ (xs.take k).any p = false ∧ Heads [(0, (.slice b xs.length c)), (1, fv), (7, .int .i64 (xs.length : Int)), (8, .int .i64 (k : Int))] ρ) (fun k => xs.length - k) 0 ?_ ?_
  · exact ⟨rfl, Nat.zero_le _, rfl, ⟨rfl, rfl, rfl, rfl, trivial⟩⟩
  rintro k ρ O ⟨rfl, hk, hany, hH⟩
  obtain ⟨ρ0, rfl⟩ := hH.elim
  clear hH
  refine T.seq (T.region ?_)
  refine TO.quiet (q_lss rfl rfl) ?_
  refine TO.nil (T.seq ?_)
  refine T.condP rfl (fun hc => ?_) (fun hc => ?_)
  · have hlt9 : k < xs.length := by omega
    refine T.skip (T.seq (T.block (T.seq (T.region ?_))))
    refine TO.quiet (q_move rfl) (TO.quiet (q_assign rfl) ?_)
    refine TO.nil (T.seq (T.region ?_))
    refine TO.quiet (q_move rfl) (TO.quiet (q_move rfl) (TO.quiet (q_move rfl) (TO.quiet (q_ix (i := k) Tryd.underlying29 inf5 rfl rfl (Sl.o hS) hlt9 (by rw [List.length_map]; exact hlt9)) ?_)))
    refine TO.quiet (q_ld Tryd.underlying5 rfl rfl (Sl.o hS) (byts_get hlt9)) ?_
    have hk16 := hy xs[k] (List.getElem_mem hlt9)
    refine TO.loud rfl (l_callG hk16 rfl rfl ?_)
    clear hk16
    rintro v O' ⟨rfl, rfl⟩
    refine TO.nil ?_
    refine T.cond rfl (fun hc => ?_) (fun hc => ?_)
    · refine T.seq ?_
      refine T.region ?_
      refine TO.quiet (q_move rfl) (TO.quiet (q_assign rfl) ?_)
      refine TO.nil (T.ret (Res.drop ?_))
      refine Res.one (.int .i64 (k : Int)) Tryd.results81 rfl ?_
      exact ⟨_, Sub.of (List.Sublist.refl _), k, rfl, by rw [any_at hlt9 hc]; exact decide_eq_true (by omega), rfl⟩
    refine T.skip (T.region ?_)
    refine TO.quiet (q_inc rfl rfl (by omega)) (TO.quiet (q_move rfl) ?_)
    refine TO.nil ?_
    exact ⟨k + 1, by omega, rfl, by omega, any_take hlt9 hany hc, ⟨rfl, rfl, rfl, rfl, trivial⟩⟩
  have hge9 : ¬ k < xs.length := by omega
  refine T.exit ?_
  refine T.seq (T.region ?_)
  refine TO.quiet (q_assign rfl) ?_
  refine TO.nil (T.ret (Res.drop ?_))
  refine Res.one (.int .i64 (-1)) Tryd.results81 rfl ?_
  exact ⟨_, Sub.of (List.Sublist.refl _), -1, rfl, by rw [List.take_of_length_le (by omega)] at hany; rw [hany]; decide, rfl⟩
set_option maxHeartbeats 1000000 in
set_option maxRecDepth 20000 in
theorem containsFunc (base : World) [Tab Tryd.prog base] (b : Option Addr) (c : Nat) (xs : List Nat) (hS : Sl base b (byts xs)) (hb : xs.length < 9223372036854775807) (fv : Value) (p : Nat → Bool) (OO : List Lx.Item) (hy : ∀ x ∈ xs, CallV Tryd.prog base fv [.int .u8 (x : Int)] OO (fun v O' => v = .bool (p x) ∧ O' = OO)) :
    CallT Tryd.prog base 69 [.slice b xs.length c, fv] OO (fun v O' => v = .bool (xs.any p) ∧ O' = OO) := by
  refine CallT.enter Tryd.func69 rfl Tryd.ntmps69 rfl ?_
  refine T.seq (T.region ?_)
  refine TO.quiet (q_assign rfl) ?_
  refine TO.nil (T.seq (T.region ?_))
  refine TO.quiet (q_move rfl) (TO.quiet (q_move rfl) ?_)
  have hk7 := indexFunc base b c xs hS hb fv p OO hy
  refine TO.loud rfl (l_call ent81 hk7 rfl ?_)
  clear hk7
  rintro v O' ⟨i, rfl, hi, rfl⟩
  refine TO.quiet (q_geq rfl rfl) (TO.quiet (q_assign rfl) ?_)
  refine TO.nil (T.ret (Res.drop ?_))
  refine Res.one (.bool (decide (i ≥ 0))) Tryd.results69 rfl ?_
  exact ⟨_, Sub.of (List.Sublist.refl _), congrArg Value.bool hi, rfl⟩
set_option maxHeartbeats 1000000 in
set_option maxRecDepth 20000 in
theorem tooGreat (base : World) [Tab Tryd.prog base] (d : DFA) (nb fb : Option Addr) (nc fc : Nat) (hv0 : 0 ≤ d.vars) (hv6 : d.vars ≤ 6) (bx x : Nat) (hx : x < 256) :
    CallT Tryd.prog base 70 [.int .u8 (x : Int), .pointer (some ⟨bx, 0, none⟩)] [oI bx 25 [(.int .i64 d.vars), (.int .i64 d.start), (.slice nb d.next.length nc), (.slice fb d.final.length fc)]] (fun v O' => v = .bool (decide (2 ^ d.vars.toNat ≤ x)) ∧ O' = [oI bx 25 [(.int .i64 d.vars), (.int .i64 d.start), (.slice nb d.next.length nc), (.slice fb d.final.length fc)]]) := by
  refine CallT.enter Tryd.func70 rfl Tryd.ntmps70 rfl ?_
  refine T.seq (T.region ?_)
  refine TO.quiet (q_assign rfl) ?_
  refine TO.nil (T.seq (T.region ?_))
  refine TO.quiet (q_move rfl) (TO.quiet (q_conv_id Tryd.underlying5 Tryd.underlying3 rfl (wrap64_id ⟨by omega, by omega⟩)) (TO.quiet (q_fieldAddr Tryd.underlying25 rfl inf3 rfl rfl) (TO.quiet (q_load_box 0 Tryd.underlying3 rfl rfl rfl rfl) ?_)))
  refine TO.quiet (q_shl1 (v := d.vars.toNat) rfl (by show Value.int _ d.vars = _; rw [Int.toNat_of_nonneg hv0]) (by omega)) (TO.quiet (q_geq rfl rfl) (TO.quiet (q_assign rfl) ?_))
  refine TO.nil (T.ret ?_)
  refine Res.one (.bool (decide ((x : Int) ≥ ((2 ^ d.vars.toNat : Nat) : Int)))) Tryd.results70 rfl ?_
  exact ⟨congrArg Value.bool (decide_eq_decide.2 (by omega)), rfl⟩
set_option maxHeartbeats 1000000 in
set_option maxRecDepth 20000 in
theorem runM (w : World) [Tab Tryd.prog w] (d : DFA) (nb fb : Option Addr) (nc fc : Nat) (vs : List Value) (h : DfaAt w d nb vs fb) (hv : Valid d) (wb : Option Addr) (wc : Nat) (l : List Nat) (hW : Sl w wb (byts l)) (hwb : l.length < 9223372036854775807) (hwd : Wd d l) :
    PureT Tryd.prog 71 [.agg (dfaCells d nb nc fb fc).toArray, .slice wb l.length wc] w fun v N => v = .int .i64 ((Lx.runN d d.start.toNat l : Nat) : Int) ∧ N = [] := by
  refine CallT.enter Tryd.func71 rfl Tryd.ntmps71 rfl ?_
  have hs0 := hv.s0
  have hs1 := hv.s1
  have hvl := h.rows.1
  refine T.seq (T.region ?_)
  refine TO.loud rfl (l_box (v := (.agg #[(.int .i64 d.vars), (.int .i64 d.start), (.slice nb d.next.length nc), (.slice fb d.final.length fc)])) (cs := [(.int .i64 d.vars), (.int .i64 d.start), (.slice nb d.next.length nc), (.slice fb d.final.length fc)]) rfl rfl (fun b1 => ?_))
  refine TO.quiet (q_assign rfl) ?_
  refine TO.nil (T.seq (T.region ?_))
  refine TO.quiet (q_fieldAddr Tryd.underlying124 rfl inf25 rfl rfl) (TO.quiet (q_fieldAddr Tryd.underlying25 rfl inf3 rfl rfl) (TO.quiet (QT.cast (q_load_box 0 Tryd.underlying3 rfl rfl rfl rfl) (v' := .int .i64 ((Lx.runN d d.start.toNat (l.take 0) : Nat) : Int)) (by show Value.int _ d.start = _; rw [show Lx.runN d d.start.toNat (l.take 0) = d.start.toNat from rfl, Int.toNat_of_nonneg hs0])) (TO.quiet (q_assign rfl) ?_)))
  refine TO.nil (T.seq (T.seq (T.region ?_)))
  refine TO.quiet (q_move rfl) (TO.quiet (q_len Tryd.underlying29 rfl) (TO.quiet (q_move rfl) ?_))
  refine TO.nil (T.block ?_)
  refine T.loop (fun (k : Nat) ρ O => O = [oI b1 124 [(.int .i64 d.vars), (.int .i64 d.start), (.slice nb d.next.length nc), (.slice fb d.final.length fc)]] ∧ k ≤ l.length ∧ Heads [(0, (.agg #[(.int .i64 d.vars), (.int .i64 d.start), (.slice nb d.next.length nc), (.slice fb d.final.length fc)])), (1, (.slice wb l.length wc)), (2, (.pointer (some ⟨b1, 0, none⟩))), (4, .int .i64 0), (5, .int .i64 ((Lx.runN d d.start.toNat (l.take k) : Nat) : Int)), (11, (.slice wb l.length wc)), (12, .int .i64 (l.length : Int)), (13, .int .i64 (k : Int))] ρ) (fun k => l.length - k) 0 ?_ ?_
  · exact ⟨rfl, Nat.zero_le _, ⟨rfl, rfl, rfl, rfl, rfl, rfl, rfl, rfl, trivial⟩⟩
  rintro k ρ O ⟨rfl, hk, hH⟩
  obtain ⟨ρ0, rfl⟩ := hH.elim
  clear hH
  refine T.seq (T.region ?_)
  refine TO.quiet (q_lss rfl rfl) ?_
  refine TO.nil (T.seq ?_)
  refine T.condP rfl (fun hc => ?_) (fun hc => ?_)
  · have hlt14 : k < l.length := by omega
    obtain ⟨o, ho⟩ : ∃ o, Lx.runN d d.start.toNat (l.take k) = o := ⟨_, rfl⟩
    have ho9 : o < d.next.length := by rw [← ho]; exact runN_lt hv.toVal (by omega) _ (fun x hx => hwd x (List.mem_of_mem_take hx))
    have hlx : l[k] < 2 ^ d.vars.toNat := hwd _ (List.getElem_mem hlt14)
    obtain ⟨vb, vc, g1, s1⟩ := h.rows.get ho9
    have hl1 : d.next[o].length = 2 ^ d.vars.toNat := hv.len _ (List.getElem_mem ho9)
    obtain ⟨hta, _, hxk1, hx1⟩ := hv.toN_lt ho9 hlx
    have hx1 : (ints d.next[o])[l[k]]? = some (.int .i64 ((toN d o l[k] : Nat) : Int)) := by rw [ints_get hxk1, hx1]
    refine T.skip (T.seq (T.block (T.seq (T.region ?_))))
    refine TO.quiet (q_ix (i := k) Tryd.underlying29 inf5 rfl rfl (Sl.o hW) hlt14 (by rw [List.length_map]; exact hlt14)) (TO.quiet (q_ld Tryd.underlying5 rfl rfl (Sl.o hW) (byts_get hlt14)) (TO.quiet (q_assign rfl) ?_))
    refine TO.nil (T.region ?_)
    refine TO.quiet (q_fieldAddr Tryd.underlying124 rfl inf25 rfl rfl) (TO.quiet (q_fieldAddr Tryd.underlying25 rfl inf22 rfl rfl) (TO.quiet (q_load_box 0 Tryd.underlying22 rfl rfl rfl rfl) (TO.quiet (QT.cast (q_move rfl) (v' := .int .i64 ((o : Nat) : Int)) (by show Value.int _ _ = _; rw [ho])) ?_)))
    refine TO.quiet (q_ix (i := o) Tryd.underlying22 inf54 rfl rfl (Sl.o h.outer) ho9 (hvl ▸ ho9)) (TO.quiet (q_ld Tryd.underlying54 rfl rfl (Sl.o h.outer) g1) (TO.quiet (q_move rfl) (TO.quiet (q_ix (i := l[k]) Tryd.underlying54 inf3 rfl rfl (Sl.o s1) (by rw [hl1]; exact hlx) (by rw [List.length_map, hl1]; exact hlx)) ?_)))
    refine TO.quiet (q_ld Tryd.underlying3 rfl rfl (Sl.o s1) hx1) (TO.quiet (q_assign rfl) ?_)
    refine TO.nil (T.region ?_)
    refine TO.quiet (q_inc rfl rfl (by omega)) (TO.quiet (q_move rfl) ?_)
    refine TO.nil ?_
    refine ⟨k + 1, by omega, rfl, by omega, ?_⟩
    rw [runN_take hlt14, ho]; exact ⟨rfl, rfl, rfl, rfl, rfl, rfl, rfl, rfl, trivial⟩
  have hge14 : ¬ k < l.length := by omega
  refine T.exit ?_
  refine T.seq (T.region ?_)
  refine TO.quiet (q_move rfl) (TO.quiet (q_assign rfl) ?_)
  refine TO.nil (T.ret (Res.drop ?_))
  refine Res.one (.int .i64 ((Lx.runN d d.start.toNat (l.take k) : Nat) : Int)) Tryd.results71 rfl ?_
  have hke : k = l.length := by omega
  exact ⟨[], Sub.of (List.nil_sublist _), by rw [List.take_of_length_le (by omega)], rfl⟩
set_option maxHeartbeats 1000000 in
set_option maxRecDepth 20000 in
theorem runA (w : World) [Tab Tryd.prog w] (d : DFA) (nb fb : Option Addr) (nc fc : Nat) (vs : List Value) (h : DfaAt w d nb vs fb) (hb : d.next.length < 9223372036854775807) (hbr : ∀ r ∈ d.next, r.length < 9223372036854775807) (hbf : d.final.length < 9223372036854775807) (wb : Option Addr) (wc : Nat) (l : List Nat) (hW : Sl w wb (byts l)) (hwb : l.length < 9223372036854775807) (hw8 : ∀ x ∈ l, x < 256) :
    PureT Tryd.prog 55 [.agg (dfaCells d nb nc fb fc).toArray, .slice wb l.length wc] w fun v N => v = .tuple #[.int .i64 ((runV d l : Nat) : Int), .int .i64 ((runE d l : Nat) : Int)] ∧ N = [] := by
  refine CallT.enter Tryd.func55 rfl Tryd.ntmps55 rfl ?_
  refine T.seq (T.region ?_)
  refine TO.loud rfl (l_box (v := (.agg #[(.int .i64 d.vars), (.int .i64 d.start), (.slice nb d.next.length nc), (.slice fb d.final.length fc)])) (cs := [(.int .i64 d.vars), (.int .i64 d.start), (.slice nb d.next.length nc), (.slice fb d.final.length fc)]) rfl rfl (fun b1 => ?_))
  refine TO.quiet (q_assign rfl) (TO.quiet (q_assign rfl) ?_)
  refine TO.nil (T.seq (T.seq (T.region ?_)))
  refine TO.quiet (q_load_boxAgg 0 Tryd.underlying25 rfl inf25 rfl rfl rfl) ?_
  have hk9 := fun (w1 : World) (hI : Inv w [oI b1 25 [(.int .i64 d.vars), (.int .i64 d.start), (.slice nb d.next.length nc), (.slice fb d.final.length fc)]] w1) => (haveI := Inv.tab (P := Tryd.prog) hI; subsetCheck w1 d nb fb nc fc vs (hI.dfa h) hb hbr hbf)
  refine TO.loud rfl (l_call ent26 (CallT.of_pure hk9) rfl ?_)
  clear hk9
  rintro v O' ⟨N, rfl, rfl, rfl⟩
  refine TO.quiet (q_assign rfl) ?_
  refine TO.nil (T.seq (T.region ?_))
  refine TO.quiet (q_move rfl) ?_
  by_cases hE : (checkD d : Int) ≠ 0
  · refine TO.quiet (QT.toB (q_neq rfl rfl) (decide_eq_true hE)) ?_
    refine TO.nil ?_
    refine T.cond1 rfl ?_
    refine T.seq (T.region ?_)
    refine TO.quiet (q_move rfl) (TO.quiet (q_assign rfl) (TO.quiet (q_assign rfl) ?_))
    refine TO.nil (T.ret (Res.drop ?_))
    refine Res.two (.int .i64 0) (.int .i64 (checkD d : Int)) Tryd.results55 rfl rfl ?_
    have hE1 : runE d l = checkD d := by unfold runE; rw [if_pos (by omega)]
    have hE0 : ¬ runE d l = 0 := by omega
    exact ⟨[], Sub.of (List.nil_sublist _), by unfold runV; rw [if_neg hE0, hE1]; try rfl, rfl⟩
  refine TO.quiet (QT.toB (q_neq rfl rfl) (decide_eq_false hE)) ?_
  refine TO.nil ?_
  refine T.cond0 rfl ?_
  refine T.skip (T.seq (T.block (T.seq ?_)))
  have he : checkD d = 0 := by omega
  have hv : Valid d := checkD_zero.1 he
  refine T.region ?_
  refine TO.quiet (q_move rfl) (TO.quiet (q_len Tryd.underlying29 rfl) ?_)
  by_cases h64 : (l.length : Int) > 64
  · refine TO.quiet (QT.toB (q_gtr rfl rfl) (decide_eq_true h64)) ?_
    refine TO.quiet (q_assign rfl) ?_
    refine TO.nil ?_
    refine T.cond1 rfl ?_
    refine T.seq (T.region ?_)
    refine TO.quiet (q_assign rfl) (TO.quiet (q_assign rfl) ?_)
    refine TO.nil (T.ret (Res.drop ?_))
    refine Res.two (.int .i64 0) (.int .i64 4) Tryd.results55 rfl rfl ?_
    have hE1 : runE d l = 4 := by unfold runE; rw [if_neg (by simp [he]), if_pos (by omega)]
    have hE0 : ¬ runE d l = 0 := by omega
    exact ⟨[], Sub.of (List.nil_sublist _), by unfold runV; rw [if_neg hE0, hE1]; try rfl, rfl⟩
  refine TO.quiet (QT.toB (q_gtr rfl rfl) (decide_eq_false h64)) (TO.quiet (q_assign rfl) ?_)
  refine TO.nil ?_
  refine T.cond0 rfl ?_
  refine T.seq (T.region ?_)
  refine TO.quiet (q_move rfl) (TO.quiet (q_makeFunc) ?_)
  by_cases hany : l.any (fun x => decide (2 ^ d.vars.toNat ≤ x)) = true
  · have hk20 := (containsFunc w wb wc l hW hwb (.func (.func 70) #[] #[.pointer (some ⟨b1, 0, none⟩)]) (fun x => decide (2 ^ d.vars.toNat ≤ x)) [oI b1 25 [(.int .i64 d.vars), (.int .i64 d.start), (.slice nb d.next.length nc), (.slice fb d.final.length fc)]] (fun x hx => CallV.of_fn (first := []) (args := [.int .u8 (x : Int)]) (caps := [.pointer (some ⟨b1, 0, none⟩)]) ent70 (tooGreat w d nb fb nc fc hv.v0 hv.v6 b1 x (hw8 x hx)))).mono (fun v O' hh => (⟨hh.1.trans (congrArg Value.bool ((show ∀ b : Bool, b = decide (b = true) from fun b => by cases b <;> rfl) _)), hh.2⟩ : v = .bool (decide (l.any (fun x => decide (2 ^ d.vars.toNat ≤ x)) = true)) ∧ O' = [oI b1 25 [(.int .i64 d.vars), (.int .i64 d.start), (.slice nb d.next.length nc), (.slice fb d.final.length fc)]]))
    refine TO.loud rfl (l_call ent69 hk20 rfl ?_)
    clear hk20
    rintro v O' ⟨rfl, rfl⟩
    rw [decide_eq_true hany]
    refine TO.quiet (q_assign rfl) ?_
    refine TO.nil ?_
    refine T.cond1 rfl ?_
    refine T.seq (T.region ?_)
    refine TO.quiet (q_assign rfl) (TO.quiet (q_assign rfl) ?_)
    refine TO.nil (T.ret (Res.drop ?_))
    refine Res.two (.int .i64 0) (.int .i64 1) Tryd.results55 rfl rfl ?_
    have hE1 : runE d l = 1 := by unfold runE; rw [if_neg (by simp [he]), if_neg (by omega), if_pos hany]
    have hE0 : ¬ runE d l = 0 := by omega
    exact ⟨[], Sub.of (List.nil_sublist _), by unfold runV; rw [if_neg hE0, hE1]; try rfl, rfl⟩
  have hk20 := (containsFunc w wb wc l hW hwb (.func (.func 70) #[] #[.pointer (some ⟨b1, 0, none⟩)]) (fun x => decide (2 ^ d.vars.toNat ≤ x)) [oI b1 25 [(.int .i64 d.vars), (.int .i64 d.start), (.slice nb d.next.length nc), (.slice fb d.final.length fc)]] (fun x hx => CallV.of_fn (first := []) (args := [.int .u8 (x : Int)]) (caps := [.pointer (some ⟨b1, 0, none⟩)]) ent70 (tooGreat w d nb fb nc fc hv.v0 hv.v6 b1 x (hw8 x hx)))).mono (fun v O' hh => (⟨hh.1.trans (congrArg Value.bool ((show ∀ b : Bool, b = decide (b = true) from fun b => by cases b <;> rfl) _)), hh.2⟩ : v = .bool (decide (l.any (fun x => decide (2 ^ d.vars.toNat ≤ x)) = true)) ∧ O' = [oI b1 25 [(.int .i64 d.vars), (.int .i64 d.start), (.slice nb d.next.length nc), (.slice fb d.final.length fc)]]))
  refine TO.loud rfl (l_call ent69 hk20 rfl ?_)
  clear hk20
  rintro v O' ⟨rfl, rfl⟩
  rw [decide_eq_false hany]
  refine TO.quiet (q_assign rfl) ?_
  refine TO.nil ?_
  refine T.cond0 rfl ?_
  refine T.skip (T.seq ?_)
  have hE0 : runE d l = 0 := by unfold runE; rw [if_neg (by simp [he]), if_neg (by omega), if_neg hany]
  have hwd : Wd d l := (runE_zero.1 hE0).2.2
  refine T.region ?_
  refine TO.quiet (q_load_boxAgg 0 Tryd.underlying25 rfl inf25 rfl rfl rfl) (TO.quiet (q_build (cs := [(.int .i64 d.vars), (.int .i64 d.start), (.slice nb d.next.length nc), (.slice fb d.final.length fc)]) plan124 inf124 (by kernel_rfl)) (TO.quiet (q_makeFunc) (TO.quiet (q_assign rfl) ?_)))
  refine TO.nil (T.seq (T.region ?_))
  refine TO.quiet (q_move rfl) (TO.quiet (q_move rfl) ?_)
  have hk26 := CallV.of_fn (first := [.agg (dfaCells d nb nc fb fc).toArray]) (args := [.slice wb l.length wc]) (caps := []) ent71 (CallT.of_pure (fun w1 (hI : Inv w [oI b1 25 [(.int .i64 d.vars), (.int .i64 d.start), (.slice nb d.next.length nc), (.slice fb d.final.length fc)]] w1) => haveI := Inv.tab (P := Tryd.prog) hI; runM w1 d nb fb nc fc vs (hI.dfa h) hv wb wc l (hI.sl hW) hwb hwd))
  refine TO.loud rfl (l_callG hk26 rfl rfl ?_)
  clear hk26
  rintro v O' ⟨N, rfl, rfl, rfl⟩
  refine TO.quiet (q_assign rfl) (TO.quiet (q_assign rfl) ?_)
  refine TO.nil (T.ret (Res.drop ?_))
  refine Res.two (.int .i64 ((Lx.runN d d.start.toNat l : Nat) : Int)) (.int .i64 0) Tryd.results55 rfl rfl ?_
  have hE1 := hE0
  exact ⟨[], Sub.of (List.nil_sublist _), by unfold runV; rw [if_pos hE0, hE1]; try rfl, rfl⟩
set_option maxHeartbeats 1000000 in
set_option maxRecDepth 20000 in
theorem acceptsA (w : World) [Tab Tryd.prog w] (d : DFA) (nb fb : Option Addr) (nc fc : Nat) (vs : List Value) (h : DfaAt w d nb vs fb) (hb : d.next.length < 9223372036854775807) (hbr : ∀ r ∈ d.next, r.length < 9223372036854775807) (hbf : d.final.length < 9223372036854775807) (wb : Option Addr) (wc : Nat) (l : List Nat) (hW : Sl w wb (byts l)) (hwb : l.length < 9223372036854775807) (hw8 : ∀ x ∈ l, x < 256) :
    PureT Tryd.prog 33 [.agg (dfaCells d nb nc fb fc).toArray, .slice wb l.length wc] w fun v N => v = .tuple #[.bool (accV d l), .int .i64 ((runE d l : Nat) : Int)] ∧ N = [] := by
  refine CallT.enter Tryd.func33 rfl Tryd.ntmps33 rfl ?_
  refine T.seq (T.region ?_)
  refine TO.loud rfl (l_box (v := (.agg #[(.int .i64 d.vars), (.int .i64 d.start), (.slice nb d.next.length nc), (.slice fb d.final.length fc)])) (cs := [(.int .i64 d.vars), (.int .i64 d.start), (.slice nb d.next.length nc), (.slice fb d.final.length fc)]) rfl rfl (fun b1 => ?_))
  refine TO.quiet (q_assign rfl) (TO.quiet (q_assign rfl) ?_)
  refine TO.nil (T.seq (T.region ?_))
  refine TO.quiet (q_load_boxAgg 0 Tryd.underlying25 rfl inf25 rfl rfl rfl) (TO.quiet (q_move rfl) ?_)
  have hk11 := fun (w1 : World) (hI : Inv w [oI b1 25 [(.int .i64 d.vars), (.int .i64 d.start), (.slice nb d.next.length nc), (.slice fb d.final.length fc)]] w1) => (haveI := Inv.tab (P := Tryd.prog) hI; runA w1 d nb fb nc fc vs (hI.dfa h) hb hbr hbf wb wc l (hI.sl hW) hwb hw8)
  refine TO.loud rfl (l_call ent55 (CallT.of_pure hk11) rfl ?_)
  clear hk11
  rintro v O' ⟨N, rfl, rfl, rfl⟩
  refine TO.quiet (q_move rfl) (TO.quiet (q_extract (vs := _) rfl rfl) (TO.quiet (q_extract (vs := _) rfl rfl) (TO.quiet (q_assign rfl) ?_)))
  refine TO.quiet (q_assign rfl) ?_
  refine TO.nil (T.seq ?_)
  have hfin : runE d l = 0 → runV d l < d.final.length := fun h0 => by
    obtain ⟨hv, _, hwd⟩ := runE_zero.1 h0
    unfold runV; rw [if_pos h0, hv.fin]
    exact runN_lt hv.toVal (by have := hv.s0; have := hv.s1; omega) _ hwd
  refine T.region ?_
  refine TO.quiet (q_move rfl) ?_
  by_cases h0 : ((runE d l : Nat) : Int) = 0
  · refine TO.quiet (QT.toB (q_eql rfl rfl) (decide_eq_true h0)) ?_
    refine TO.quiet (q_move rfl) ?_
    refine TO.guarded rfl rfl rfl (LT.of_quiet rfl rfl (q_fieldAddr Tryd.underlying25 rfl inf23 rfl rfl) ?_)
    refine TO.guarded rfl rfl rfl (LT.of_quiet rfl rfl (q_load_box 0 Tryd.underlying23 rfl rfl rfl rfl) ?_)
    refine TO.guarded rfl rfl rfl (LT.of_quiet rfl rfl (q_move rfl) ?_)
    refine TO.guarded rfl rfl rfl (LT.of_quiet rfl rfl (q_ix (i := (runV d l)) Tryd.underlying23 inf4 rfl rfl (Sl.o h.final) (hfin (by omega)) (by rw [List.length_map]; exact hfin (by omega))) ?_)
    refine TO.guarded rfl rfl rfl (LT.of_quiet rfl rfl (q_ld Tryd.underlying4 rfl rfl (Sl.o h.final) (show (bools d.final)[runV d l]? = some (.bool (finN d (runV d l))) by rw [bools_get (hfin (by omega))]; simp [finN, hfin (by omega)])) ?_)
    refine TO.quiet (q_pick1 rfl rfl) (TO.quiet (q_move rfl) (TO.quiet (q_assign rfl) (TO.quiet (q_assign rfl) ?_)))
    refine TO.nil (T.ret (Res.drop ?_))
    refine Res.two (.bool (finN d (runV d l))) (.int .i64 ((runE d l : Nat) : Int)) Tryd.results33 rfl rfl ?_
    have h9 : runE d l = 0 := by omega
    exact ⟨[], Sub.of (List.nil_sublist _), by unfold accV runV; rw [if_pos h9, if_pos h9], rfl⟩
  refine TO.quiet (QT.toB (q_eql rfl rfl) (decide_eq_false h0)) (TO.quiet (q_move rfl) ?_)
  refine TO.passed rfl rfl ?_
  refine TO.passed rfl rfl ?_
  refine TO.passed rfl rfl ?_
  refine TO.passed rfl rfl ?_
  refine TO.passed rfl rfl ?_
  refine TO.quiet (q_pick0 rfl rfl) (TO.quiet (q_move rfl) (TO.quiet (q_assign rfl) (TO.quiet (q_assign rfl) ?_)))
  refine TO.nil (T.ret (Res.drop ?_))
  refine Res.two (.bool false) (.int .i64 ((runE d l : Nat) : Int)) Tryd.results33 rfl rfl ?_
  have h9 : ¬ runE d l = 0 := by omega
  exact ⟨[], Sub.of (List.nil_sublist _), by unfold accV; rw [if_neg h9], rfl⟩
end Go.Proofs.YtnpehjpookcfkaaDoor

namespace Go.Lx
open Go.RowKit
set_option linter.unusedVariables false
def Imp (v : Int) (p q r : List Nat → Bool) : Prop := ∀ w, WdV v w → p w = true → q w = true → r w = true
def Ref (v : Int) (p q p2 q2 : List Nat → Bool) : Prop := ∀ w, WdV v w → (p2 w = true → p w = true) ∧ ((q w || !p w) = true → (q2 w || !p2 w) = true)
def Inc (v : Int) (p q : List Nat → Bool) : Prop := ∀ w, WdV v w → p w = true → q w = true
noncomputable def impB (v : Int) (p q r : List Nat → Bool) : Bool := @decide (Imp v p q r) (Classical.propDecidable _)
noncomputable def refB (v : Int) (p q p2 q2 : List Nat → Bool) : Bool := @decide (Ref v p q p2 q2) (Classical.propDecidable _)
noncomputable def incB (v : Int) (p q : List Nat → Bool) : Bool := @decide (Inc v p q) (Classical.propDecidable _)
theorem impB_iff {v : Int} {p q r : List Nat → Bool} : impB v p q r = true ↔ Imp v p q r := @decide_eq_true_iff _ (Classical.propDecidable _)
theorem refB_iff {v : Int} {p q p2 q2 : List Nat → Bool} : refB v p q p2 q2 = true ↔ Ref v p q p2 q2 := @decide_eq_true_iff _ (Classical.propDecidable _)
theorem incB_iff {v : Int} {p q : List Nat → Bool} : incB v p q = true ↔ Inc v p q := @decide_eq_true_iff _ (Classical.propDecidable _)
theorem bool_iff {a b : Bool} (h : a = true ↔ b = true) : a = b := by cases a <;> cases b <;> simp_all
theorem isNone_iff {r : Option (List Nat)} : (!r.isSome) = true ↔ r = none := by cases r <;> simp
theorem impB_res {z x a g : DFA} {px p q : List Nat → Bool} (hz : Valid z) (hx : InL z x px) (ha : InL z a p) (hg : InL z g q) {res : Option (List Nat)} (h : LeastA (opD minusB (opD andB x a) g) res) : (!res.isSome) = impB z.vars px p q := by
  have hm := (InL.op (f := minusB) hz (InL.op (f := andB) hz hx ha).2 hg).1
  refine bool_iff (isNone_iff.trans ((h.none_iff hm.toHasL).trans (Iff.trans ?_ impB_iff.symm)))
  constructor
  · intro hh w hw e1 e2
    have := hh w hw
    simp [minusB, andB, e1, e2] at this; exact this
  · intro hh w hw
    have := hh w hw
    unfold minusB andB
    cases h1 : px w <;> cases h2 : p w <;> simp_all
theorem refB_res {z a b c d : DFA} {p q p2 q2 : List Nat → Bool} (hz : Valid z) (ha : InL z a p) (hb : InL z b q) (hc : InL z c p2) (hd : InL z d q2) {res : Option (List Nat)} (h : LeastA (opD orB (opD minusB c a) (opD minusB (satD a b) (satD c d))) res) : (!res.isSome) = refB z.vars p q p2 q2 := by
  have hm := (InL.op (f := orB) hz (InL.op (f := minusB) hz hc ha).2 (InL.op (f := minusB) hz (InL.sat hz ha hb).2 (InL.sat hz hc hd).2).2).1
  refine bool_iff (isNone_iff.trans ((h.none_iff hm.toHasL).trans (Iff.trans ?_ refB_iff.symm)))
  refine forall_congr' fun w => forall_congr' fun hw => ?_
  simp only [minusB, orB]
  cases p w <;> cases q w <;> cases p2 w <;> cases q2 w <;> simp
theorem incB_res {z a b : DFA} {p q : List Nat → Bool} (hz : Valid z) (ha : InL z a p) (hb : InL z b q) {res : Option (List Nat)} (h : LeastA (opD minusB a b) res) : (!res.isSome) = incB z.vars p q := by
  have hm := (InL.op (f := minusB) hz ha hb).1
  refine bool_iff (isNone_iff.trans ((h.none_iff hm.toHasL).trans (Iff.trans ?_ incB_iff.symm)))
  refine forall_congr' fun w => forall_congr' fun hw => ?_
  simp only [minusB]
  cases p w <;> cases q w <;> simp
theorem res_none {r : Option (List Nat)} {b : Bool} (e : (!r.isSome) = b) (h : b = true) : r = none := isNone_iff.1 (e.trans h)
theorem res_some {r : Option (List Nat)} {b : Bool} (e : (!r.isSome) = b) (h : b = false) : ∃ u, r = some u := by
  cases r with
  | none => rw [h] at e; cases e
  | some u => exact ⟨u, rfl⟩
theorem HasL.short {v : Int} {n : Nat} {d : DFA} {p : List Nat → Bool} (h : HasL v n d p) {w : List Nat} (hw : WdV v w) (hp : p w = true) : ∃ u, WdV v u ∧ p u = true ∧ u.length < n := by
  obtain ⟨k, _, hD⟩ := Ds.some (d := d) (s := d.start.toNat) w.length w (h.wd.2 hw) (by have := h.acc w hw; rw [hp] at this; exact this) (Nat.le_refl _)
  obtain ⟨⟨u, h1, h2, h3⟩, _⟩ := id hD
  have hlt := Ds.lt h.valid.toVal (start_lt h.valid.toVal) hD
  have hl := h.len
  exact ⟨u, h.wd.1 h1, by rw [← h.acc u (h.wd.1 h1)]; exact h3, by omega⟩
theorem LeastA.short {v : Int} {n m : Nat} {a d : DFA} {p q : List Nat → Bool} (hd : HasL v n d p) (ha : HasL v m a q) (hq : ∀ w, WdV v w → q w = true → p w = true) {u : List Nat} (h : LeastA d (some u)) (hu : q u = true) : u.length < m := by
  obtain ⟨w, h1, h2, h3⟩ := ha.short (hd.wd.1 h.1) hu
  have hc := h.2.2 w (hd.wd.2 h1) (by rw [hd.acc w h1]; exact hq w h1 h2)
  have h6 := hd.v6
  have := code_len u w ((hd.wd.1 h.1).lt h6) (h1.lt h6) hc
  omega
theorem imp_word {z x a g : DFA} {px p q : List Nat → Bool} (hz : Valid z) (hx : InL z x px) (ha : InL z a p) (hg : InL z g q) (h1 : x.next.length * a.next.length * g.next.length ≤ 64) {u : List Nat} (h : LeastA (opD minusB (opD andB x a) g) (some u)) : WdV z.vars u ∧ u.length ≤ 64 ∧ px u = true ∧ p u = true ∧ q u = false := by
  have hm := (InL.op (f := minusB) hz (InL.op (f := andB) hz hx ha).2 hg).1.toHasL
  have hw := hm.wd.1 h.1
  have hP := (hm.acc u hw).symm.trans h.2.1
  have hx' : HasL z.vars x.next.length x px := ⟨hx.has.valid, Nat.le_refl _, hx.has.vars, hx.has.acc⟩
  have ha' : HasL z.vars a.next.length a p := ⟨ha.has.valid, Nat.le_refl _, ha.has.vars, ha.has.acc⟩
  have hg' : HasL z.vars g.next.length g q := ⟨hg.has.valid, Nat.le_refl _, hg.has.vars, hg.has.acc⟩
  have hg0 := hg.has.valid.n0
  have hxa : x.next.length * a.next.length ≤ 64 := Nat.le_trans (Nat.le_mul_of_pos_right _ hg0) h1
  have hs := ((hx'.op (f := andB) ha' (by omega)).toHasL.op (f := minusB) hg' (by omega)).toHasL
  refine ⟨hw, ?_, ?_⟩
  · have := LeastA.short hm hs (fun w _ e => e) h hP
    omega
  · simp [minusB, andB] at hP; exact ⟨hP.1.1, hP.1.2, hP.2⟩
theorem ref_word {z a b c d : DFA} {p q p2 q2 : List Nat → Bool} (hz : Valid z) (ha : InL z a p) (hb : InL z b q) (hc : InL z c p2) (hd : InL z d q2) (la : a.next.length ≤ 3) (lb : b.next.length ≤ 3) (lc : c.next.length ≤ 3) (ld : d.next.length ≤ 3) {u : List Nat}
    (h : LeastA (opD orB (opD minusB c a) (opD minusB (satD a b) (satD c d))) (some u)) : WdV z.vars u ∧ u.length ≤ 64 ∧ ((p2 u = true ∧ p u = false) ∨ ((q u || !p u) = true ∧ (q2 u || !p2 u) = false)) := by
  have hm := (InL.op (f := orB) hz (InL.op (f := minusB) hz hc ha).2 (InL.op (f := minusB) hz (InL.sat hz ha hb).2 (InL.sat hz hc hd).2).2).1.toHasL
  have hw := hm.wd.1 h.1
  have hP := (hm.acc u hw).symm.trans h.2.1
  have ha' : HasL z.vars 3 a p := ⟨ha.has.valid, la, ha.has.vars, ha.has.acc⟩
  have hb' : HasL z.vars 3 b q := ⟨hb.has.valid, lb, hb.has.vars, hb.has.acc⟩
  have hc' : HasL z.vars 3 c p2 := ⟨hc.has.valid, lc, hc.has.vars, hc.has.acc⟩
  have hd' : HasL z.vars 3 d q2 := ⟨hd.has.valid, ld, hd.has.vars, hd.has.acc⟩
  have s1 := (hc'.op (f := minusB) ha' (by decide)).toHasL
  have s2 := ((hc'.op (f := minusB) hd' (by decide)).toHasL.op (f := andB) hb' (by decide)).toHasL
  have hP' : (p2 u = true ∧ p u = false) ∨ ((q u || !p u) = true ∧ (q2 u || !p2 u) = false) := by
    simp only [minusB, orB] at hP
    cases h1 : p u <;> cases h2 : q u <;> cases h3 : p2 u <;> cases h4 : q2 u <;> simp_all
  refine ⟨hw, ?_, hP'⟩
  by_cases e1 : p2 u = true ∧ p u = false
  · have := LeastA.short hm s1 (fun w _ e => by
      simp only [minusB, orB] at e ⊢
      cases h1 : p w <;> cases h3 : p2 w <;> simp_all) h (by simp [minusB, e1.1, e1.2])
    omega
  · have := LeastA.short hm s2 (fun w _ e => by
      simp only [minusB, orB, andB] at e ⊢
      cases h1 : p w <;> cases h2 : q w <;> cases h3 : p2 w <;> cases h4 : q2 w <;> simp_all) h (by
        simp only [minusB, andB]
        cases h1 : p u <;> cases h2 : q u <;> cases h3 : p2 u <;> cases h4 : q2 u <;> simp_all)
    omega
theorem InL.accV {z d : DFA} {p : List Nat → Bool} (h : InL z d p) {w : List Nat} (hw : WdV z.vars w) (hl : w.length ≤ 64) : Lx.accV d w = p w := h.has.accV hw hl
section
variable {v : Int} {px py p q p1 q1 p2 q2 p3 q3 : List Nat → Bool}
theorem Ref.rfl' : Ref v p q p q := fun w hw => ⟨id, id⟩
theorem Ref.trans' (h : Ref v p q p1 q1) (h2 : Ref v p1 q1 p2 q2) : Ref v p q p2 q2 := fun w hw => ⟨fun e => (h w hw).1 ((h2 w hw).1 e), fun e => (h2 w hw).2 ((h w hw).2 e)⟩
theorem Ref.imp (h : Ref v p q p1 q1) (h2 : Imp v px p q) : Imp v px p1 q1 := fun w hw e1 e2 => by
  have a1 := h w hw
  have a2 := h2 w hw e1
  cases h1 : p w <;> cases h2 : q w <;> cases h3 : q1 w <;> simp_all
theorem Ref.inc (h : Ref v p q p1 q1) : Inc v p1 p := fun w hw => (h w hw).1
end
def satP (p q : List Nat → Bool) : List Nat → Bool := fun w => q w || !p w
def orP (p q : List Nat → Bool) : List Nat → Bool := fun w => p w || q w
def andP (p q : List Nat → Bool) : List Nat → Bool := fun w => p w && q w
def compP (p q p2 q2 : List Nat → Bool) : List Nat → Bool := fun w => (p w && p2 w) || !((q w || !p w) && (q2 w || !p2 w))
section
variable {z x a b c d : DFA} {px p q p2 q2 : List Nat → Bool}
theorem InL.orI (hz : Valid z) (ha : InL z a p) (hb : InL z b q) : InL z (opD orB a b) (orP p q) := (InL.op (f := orB) hz ha hb).2
theorem InL.andI (hz : Valid z) (ha : InL z a p) (hb : InL z b q) : InL z (opD andB a b) (andP p q) := (InL.op (f := andB) hz ha hb).2
theorem InL.satI (hz : Valid z) (ha : InL z a p) (hb : InL z b q) : InL z (satD a b) (satP p q) := (InL.sat hz ha hb).2
theorem InL.minI (hz : Valid z) (ha : InL z a p) : InL z (minD a) p := (InL.min hz ha).2
theorem InL.meetG (hz : Valid z) (ha : InL z a p) (hb : InL z b q) (hc : InL z c p2) (hd : InL z d q2) : InL z (opD andB (satD a b) (satD c d)) (andP (satP p q) (satP p2 q2)) := InL.andI hz (InL.satI hz ha hb) (InL.satI hz hc hd)
theorem InL.joinG (hz : Valid z) (ha : InL z a p) (hb : InL z b q) (hc : InL z c p2) (hd : InL z d q2) : InL z (opD orB (satD a b) (satD c d)) (orP (satP p q) (satP p2 q2)) := InL.orI hz (InL.satI hz ha hb) (InL.satI hz hc hd)
theorem InL.compA (hz : Valid z) (ha : InL z a p) (hb : InL z b q) (hc : InL z c p2) (hd : InL z d q2) : MinL z.vars z.next.length (opD orB (opD andB a c) (notD (opD andB (satD a b) (satD c d)))) (compP p q p2 q2) ∧ InL z (opD orB (opD andB a c) (notD (opD andB (satD a b) (satD c d)))) (compP p q p2 q2) :=
  InL.op (f := orB) hz (InL.op (f := andB) hz ha hc).2 (InL.not hz (InL.meetG hz ha hb hc hd)).2
theorem InL.meetM (hz : Valid z) (ha : InL z a p) (hb : InL z b q) (hc : InL z c p2) (hd : InL z d q2) : MinL z.vars z.next.length (opD andB (satD a b) (satD c d)) (andP (satP p q) (satP p2 q2)) := (InL.op (f := andB) hz (InL.satI hz ha hb) (InL.satI hz hc hd)).1
theorem sat_idem (hz : Valid z) (ha : InL z a p) (hg : InL z b q) : minD (minD a) = minD a ∧ satD (minD a) (satD a b) = satD a b := by
  refine ⟨(InL.min hz ha).1.min, ?_⟩
  refine MinL.ext (InL.sat hz (InL.minI hz ha) (InL.satI hz ha hg)).1 (InL.sat hz ha hg).1 fun w _ => ?_
  simp only [satP]
  cases p w <;> cases q w <;> rfl
theorem comp_comm (hz : Valid z) (ha : InL z a p) (hb : InL z b q) (hc : InL z c p2) (hd : InL z d q2) : opD orB (opD andB c a) (notD (opD andB (satD c d) (satD a b))) = opD orB (opD andB a c) (notD (opD andB (satD a b) (satD c d))) ∧ opD andB (satD c d) (satD a b) = opD andB (satD a b) (satD c d) := by
  refine ⟨MinL.ext (InL.compA hz hc hd ha hb).1 (InL.compA hz ha hb hc hd).1 fun w _ => ?_, MinL.ext (InL.meetM hz hc hd ha hb) (InL.meetM hz ha hb hc hd) fun w _ => ?_⟩
  · simp only [compP]; cases p w <;> cases q w <;> cases p2 w <;> cases q2 w <;> rfl
  · simp only [andP, satP]; cases p w <;> cases q w <;> cases p2 w <;> cases q2 w <;> rfl
end
section
variable {v : Int} {px py p q p1 q1 p2 q2 p3 q3 : List Nat → Bool}
theorem fa {P : List Nat → Prop} (h : ∀ w, P w) : ∀ w, WdV v w → P w := fun w _ => h w
theorem fi {P Q : List Nat → Prop} (h : ∀ w, P w ↔ Q w) : (∀ w, WdV v w → P w) ↔ ∀ w, WdV v w → Q w := forall_congr' fun w => forall_congr' fun _ => h w
theorem fc {P Q R : List Nat → Prop} (h : ∀ w, P w ↔ Q w ∧ R w) : (∀ w, WdV v w → P w) ↔ (∀ w, WdV v w → Q w) ∧ ∀ w, WdV v w → R w :=
  ⟨fun a => ⟨fun w hw => ((h w).1 (a w hw)).1, fun w hw => ((h w).1 (a w hw)).2⟩, fun a w hw => (h w).2 ⟨a.1 w hw, a.2 w hw⟩⟩
theorem sat_imp : impB v px p (satP p q) = impB v px p q := bool_iff (impB_iff.trans ((fi fun w => by simp only [satP]; cases px w <;> cases p w <;> cases q w <;> simp).trans impB_iff.symm))
theorem sat_inc : incB v px (satP p q) = impB v px p q := bool_iff (incB_iff.trans ((fi fun w => by simp only [satP]; cases px w <;> cases p w <;> cases q w <;> simp).trans impB_iff.symm))
theorem sat_own : impB v (satP p q) p q = true := impB_iff.2 (fa fun w => by simp only [satP]; cases p w <;> cases q w <;> simp)
theorem sat_ref1 : refB v p q p (satP p q) = true := refB_iff.2 (fa fun w => by simp only [satP]; cases p w <;> cases q w <;> simp)
theorem sat_ref2 : refB v p (satP p q) p q = true := refB_iff.2 (fa fun w => by simp only [satP]; cases p w <;> cases q w <;> simp)
theorem ref_self : refB v p q p q = true := refB_iff.2 Ref.rfl'
theorem ref_trans (h : refB v p q p1 q1 = true) (h2 : refB v p1 q1 p2 q2 = true) : refB v p q p2 q2 = true := refB_iff.2 ((refB_iff.1 h).trans' (refB_iff.1 h2))
theorem ref_imp (h : refB v p q p1 q1 = true) (h2 : impB v px p q = true) : impB v px p1 q1 = true := impB_iff.2 ((refB_iff.1 h).imp (impB_iff.1 h2))
theorem ref_inc (h : refB v p q p1 q1 = true) : incB v p1 p = true := incB_iff.2 (refB_iff.1 h).inc
theorem meet_ref1 : refB v (orP p1 p2) (andP (satP p1 q1) (satP p2 q2)) p1 q1 = true := refB_iff.2 (fa fun w => by simp only [satP, orP, andP]; cases p1 w <;> cases q1 w <;> cases p2 w <;> cases q2 w <;> simp)
theorem meet_ref2 : refB v (orP p1 p2) (andP (satP p1 q1) (satP p2 q2)) p2 q2 = true := refB_iff.2 (fa fun w => by simp only [satP, orP, andP]; cases p1 w <;> cases q1 w <;> cases p2 w <;> cases q2 w <;> simp)
theorem join_ref1 : refB v p1 q1 (andP p1 p2) (orP (satP p1 q1) (satP p2 q2)) = true := refB_iff.2 (fa fun w => by simp only [satP, orP, andP]; cases p1 w <;> cases q1 w <;> cases p2 w <;> cases q2 w <;> simp)
theorem join_ref2 : refB v p2 q2 (andP p1 p2) (orP (satP p1 q1) (satP p2 q2)) = true := refB_iff.2 (fa fun w => by simp only [satP, orP, andP]; cases p1 w <;> cases q1 w <;> cases p2 w <;> cases q2 w <;> simp)
theorem meet_imp : impB v px (orP p1 p2) (andP (satP p1 q1) (satP p2 q2)) = (impB v px p1 q1 && impB v px p2 q2) := by
  refine bool_iff (impB_iff.trans (Iff.trans (fc fun w => ?_) (Iff.trans (and_congr impB_iff.symm impB_iff.symm) (iff_of_eq (Bool.and_eq_true _ _).symm))))
  simp only [satP, orP, andP]; cases px w <;> cases p1 w <;> cases q1 w <;> cases p2 w <;> cases q2 w <;> simp
theorem meet_max : refB v p3 q3 (orP p1 p2) (andP (satP p1 q1) (satP p2 q2)) = (refB v p3 q3 p1 q1 && refB v p3 q3 p2 q2) := by
  refine bool_iff (refB_iff.trans (Iff.trans (fc fun w => ?_) (Iff.trans (and_congr refB_iff.symm refB_iff.symm) (iff_of_eq (Bool.and_eq_true _ _).symm))))
  simp only [satP, orP, andP]; cases p3 w <;> cases q3 w <;> cases p1 w <;> cases q1 w <;> cases p2 w <;> cases q2 w <;> simp
theorem join_min : refB v (andP p1 p2) (orP (satP p1 q1) (satP p2 q2)) p3 q3 = (refB v p1 q1 p3 q3 && refB v p2 q2 p3 q3) := by
  refine bool_iff (refB_iff.trans (Iff.trans (fc fun w => ?_) (Iff.trans (and_congr refB_iff.symm refB_iff.symm) (iff_of_eq (Bool.and_eq_true _ _).symm))))
  simp only [satP, orP, andP]; cases p3 w <;> cases q3 w <;> cases p1 w <;> cases q1 w <;> cases p2 w <;> cases q2 w <;> simp
theorem comp_imp (h1 : impB v px p1 q1 = true) (h2 : impB v py p2 q2 = true) : impB v (andP px py) (compP p1 q1 p2 q2) (andP (satP p1 q1) (satP p2 q2)) = true := by
  refine impB_iff.2 fun w hw => ?_
  have a1 := impB_iff.1 h1 w hw
  have a2 := impB_iff.1 h2 w hw
  simp only [satP, orP, andP, compP]
  cases h3 : px w <;> cases h4 : py w <;> cases h5 : p1 w <;> cases h6 : q1 w <;> cases h7 : p2 w <;> cases h8 : q2 w <;> simp_all
theorem comp_inc1 : incB v (andP (andP (satP p1 q1) (satP p2 q2)) (compP p1 q1 p2 q2)) p1 = true := incB_iff.2 (fa fun w => by simp only [satP, andP, compP]; cases p1 w <;> cases q1 w <;> cases p2 w <;> cases q2 w <;> simp)
theorem comp_inc2 : incB v (andP (andP (satP p1 q1) (satP p2 q2)) (compP p1 q1 p2 q2)) p2 = true := incB_iff.2 (fa fun w => by simp only [satP, andP, compP]; cases p1 w <;> cases q1 w <;> cases p2 w <;> cases q2 w <;> simp)
theorem comp_mono (h : refB v p1 q1 p2 q2 = true) : refB v (compP p1 q1 p3 q3) (andP (satP p1 q1) (satP p3 q3)) (compP p2 q2 p3 q3) (andP (satP p2 q2) (satP p3 q3)) = true := by
  refine refB_iff.2 fun w hw => ?_
  have a1 := refB_iff.1 h w hw
  simp only [satP, orP, andP, compP]
  cases h3 : p1 w <;> cases h4 : q1 w <;> cases h5 : p2 w <;> cases h6 : q2 w <;> cases h7 : p3 w <;> cases h8 : q3 w <;> simp_all
end
end Go.Lx

namespace Go.Lx
open Go.RowKit
set_option linter.unusedVariables false
abbrev allA : DFA := stayD 1 true
structure AwZ (z : DFA) : Prop where
  hz : Valid z
  v1 : z.vars = 1
  o : InL z conO (acc conO)
  s : InL z conS (acc conS)
  a : InL z allA (acc allA)
  len : z.next.length ≤ 6
theorem aw_z : ∃ z, AwZ z := by
  obtain ⟨h1, h2, h3, h4⟩ := zP_ok (v := 1) (by decide) (by decide) (l := [conO, conS, allA]) (fun d hd => by
    simp only [List.mem_cons, List.not_mem_nil, or_false] at hd
    rcases hd with rfl | rfl | rfl
    · exact ⟨conO_valid.toVal, rfl⟩
    · exact ⟨conS_valid.toVal, rfl⟩
    · exact ⟨conA_valid.toVal, rfl⟩)
  have e : zN [conO, conS, allA] = 6 := rfl
  have hz : Valid (zP 1 [conO, conS, allA]) := ⟨h1, by rw [h3, e]; decide⟩
  refine ⟨zP 1 [conO, conS, allA], hz, h2, ?_, ?_, ?_, by rw [h3, e]; decide⟩
  · exact InL.of hz conO_valid h2 (by rw [h3]; exact (h4 conO (by simp)).2) (h4 conO (by simp)).1
  · exact InL.of hz conS_valid h2 (by rw [h3]; exact (h4 conS (by simp)).2) (h4 conS (by simp)).1
  · exact InL.of hz conA_valid h2 (by rw [h3]; exact (h4 allA (by simp)).2) (h4 allA (by simp)).1
section
variable {z : DFA} (h : AwZ z)
theorem w2 {u : List Nat} (hu : WdV 1 u) : ∀ x ∈ u, x < 2 := hu
theorem all_t {u : List Nat} (hu : WdV 1 u) : acc allA u = true := stay_accT hu
theorem wd11 : WdV 1 [1, 1] := fun x hx => by simp at hx; subst hx; decide
theorem wd0 : WdV 1 [0] := fun x hx => by simp at hx; subst hx; decide
theorem not11 {u : List Nat} (hu : WdV 1 u) (h1 : acc conO u = true) (h2 : acc conS u = false) : code [1, 1] ≤ code u :=
  code_ge2 ((ones_iff u hu).1 h1) (fun hl => by rw [(short_iff u hu).2 hl] at h2; cases h2)
include h in
theorem AwZ.imp1 {res : Option (List Nat)} (hr : LeastA (opD minusB (opD andB conS conO) conS) res) : res = none := by
  have e := impB_res h.hz h.s h.o h.s hr
  exact res_none e (impB_iff.2 fun w _ e1 _ => e1)
include h in
theorem AwZ.imp2 {res : Option (List Nat)} (hr : LeastA (opD minusB (opD andB allA conO) conS) res) : res = some [1, 1] := by
  have hm := (InL.op (f := minusB) h.hz (InL.op (f := andB) h.hz h.a h.o).2 h.s).1.toHasL
  rw [h.v1] at hm
  refine least_of hm wd11 (by decide) (fun u hu hp => ?_) hr
  simp [minusB, andB] at hp
  exact not11 hu hp.1.2 hp.2
include h in
theorem AwZ.ref1 {res : Option (List Nat)} (hr : LeastA (opD orB (opD minusB conO conO) (opD minusB (satD conO conS) (satD conO allA))) res) : res = none := by
  have e := refB_res h.hz h.o h.s h.o h.a hr
  refine res_none e (refB_iff.2 fun w hw => ⟨id, fun _ => ?_⟩)
  rw [h.v1] at hw
  rw [all_t hw]; rfl
include h in
theorem AwZ.ref2 {res : Option (List Nat)} (hr : LeastA (opD orB (opD minusB conO conO) (opD minusB (satD conO allA) (satD conO conS))) res) : res = some [1, 1] := by
  have hm := (InL.op (f := orB) h.hz (InL.op (f := minusB) h.hz h.o h.o).2 (InL.op (f := minusB) h.hz (InL.sat h.hz h.o h.a).2 (InL.sat h.hz h.o h.s).2).2).1.toHasL
  rw [h.v1] at hm
  refine least_of hm wd11 (by decide) (fun u hu hp => ?_) hr
  simp only [orB, minusB] at hp
  refine not11 hu ?_ ?_
  · cases h1 : acc conO u <;> simp_all
  · cases h1 : acc conO u <;> cases h2 : acc conS u <;> simp_all
include h in
theorem AwZ.ref3 {res : Option (List Nat)} (hr : LeastA (opD orB (opD minusB allA conO) (opD minusB (satD conO conS) (satD allA conS))) res) : res = some [0] := by
  have hm := (InL.op (f := orB) h.hz (InL.op (f := minusB) h.hz h.a h.o).2 (InL.op (f := minusB) h.hz (InL.sat h.hz h.o h.s).2 (InL.sat h.hz h.a h.s).2).2).1.toHasL
  rw [h.v1] at hm
  refine least_of hm wd0 (by decide) (fun u hu hp => ?_) hr
  refine code_ge1 (fun e => ?_)
  subst e
  revert hp; decide
include h in
theorem AwZ.satF : accV (satD conO conS) [1, 1] = false ∧ accV (satD conO conS) [0, 0] = true ∧ accV (satD conO conS) [1] = true := by
  have hs := (InL.sat h.hz h.o h.s).2
  refine ⟨?_, ?_, ?_⟩
  · rw [hs.accV (by rw [h.v1]; exact wd11) (by decide)]; decide
  · rw [hs.accV (by rw [h.v1]; exact fun x hx => by simp at hx; subst hx; decide) (by decide)]; decide
  · rw [hs.accV (by rw [h.v1]; exact fun x hx => by simp at hx; subst hx; decide) (by decide)]; decide
include h in
theorem AwZ.meet : opD orB conO allA = allA ∧ accV (opD andB (satD conO conS) (satD allA conS)) [0, 0] = false := by
  have hm := (InL.op (f := orB) h.hz h.o h.a).1
  have hi := (InL.min h.hz h.a).1
  rw [h.v1] at hm hi
  rw [show minD allA = allA from conA_min] at hi
  refine ⟨MinL.ext hm hi fun w hw => ?_, ?_⟩
  · rw [all_t hw]; simp [orB]
  · rw [(InL.meetG h.hz h.o h.s h.a h.s).accV (by rw [h.v1]; exact fun x hx => by simp at hx; subst hx; decide) (by decide)]; decide
include h in
theorem AwZ.comp : opD orB (opD andB conO conO) (notD (opD andB (satD conO conS) (satD conO conS))) = conO := by
  have hm := (InL.compA h.hz h.o h.s h.o h.s).1
  have hi := (InL.min h.hz h.o).1
  rw [conO_min] at hi
  refine MinL.ext hm hi fun w hw => ?_
  simp only [compP]
  cases h1 : acc conO w <;> cases h2 : acc conS w <;> rfl
end
end Go.Lx

namespace Go.Proofs.YtnpehjpookcfkaaDoor
open Go.Lx Go.RowKit
set_option linter.unusedVariables false
set_option linter.unusedSimpArgs false
theorem subE (w : World) [Tab Tryd.prog w] (d : DFA) (j : DK) (hd : At w d j) (bd : d.next.length < 9223372036854775807 ∧ (∀ r ∈ d.next, r.length < 9223372036854775807) ∧ d.final.length < 9223372036854775807) (n : Nat) (h1 : 1 ≤ n) (h4 : n ≤ 4) {M : DFA} (hM : subD d n = M) :
    PureT Tryd.prog 9 [dV d j, .int .i64 ((n : Nat) : Int)] w fun v N => ∃ k' : DK, v = dV M k' ∧ N = [dI 54 4 3 M k'] := by
  subst hM
  exact subK w d j hd bd n h1 h4
set_option maxHeartbeats 1000000 in
set_option maxRecDepth 20000 in
theorem tameC (w : World) [Tab Tryd.prog w] (a g : DFA) (j k : DK) (ha : At w a j) (hg : At w g k) (ba : a.next.length < 9223372036854775807 ∧ (∀ r ∈ a.next, r.length < 9223372036854775807) ∧ a.final.length < 9223372036854775807) (bg : g.next.length < 9223372036854775807 ∧ (∀ r ∈ g.next, r.length < 9223372036854775807) ∧ g.final.length < 9223372036854775807) {X Y : DFA} (hX : subD a 3 = X) (hY : subD g 3 = Y) :
    PureT Tryd.prog 10 [cV a g j k] w fun v N => ∃ k1 k2 : DK, v = cV X Y k1 k2 ∧ N = [dI 54 4 3 X k1, dI 54 4 3 Y k2] := by
  refine CallT.enter Tryd.func10 rfl Tryd.ntmps10 rfl ?_
  refine T.seq (T.region ?_)
  refine TO.loud rfl (l_box (v := (cV a g j k)) (cs := (cC a g j k)) rfl rfl (fun z1 => ?_))
  refine TO.loud rfl (l_alloc inf27 rfl (fun z2 => ?_))
  refine TO.nil (T.seq ?_)
  refine T.draws [oI z2 27 [(.int .i64 0), (.int .i64 0), (.slice none 0 0), (.slice none 0 0), (.int .i64 0), (.int .i64 0), (.slice none 0 0), (.slice none 0 0)], oI z1 27 (cC a g j k)] [(0, 0), (1, 0), (3, 0), (4, 0), (2, 1), (5, 2), (6, 2), (7, 2)] mixed (by kernel_rfl) (Sub.pick [0, 0] rfl) (fun _ _ _ h => h) ?_
  refine DO.quiet rfl (q_fieldAddr Tryd.underlying27 rfl inf25 rfl rfl) (DO.quiet rfl (q_load_part 1 (vs := (dC a j)) Tryd.underlying25 rfl inf25 rfl rfl rfl rfl) (DO.quiet rfl (q_fieldAddr Tryd.underlying27 rfl inf25 rfl rfl) (DO.quiet rfl (q_load_part 1 (vs := (dC g k)) Tryd.underlying25 rfl inf25 rfl rfl rfl rfl) ?_)))
  have hk5 := fun (w1 : World) (hI : Inv w [oI z2 27 [(.int .i64 0), (.int .i64 0), (.slice none 0 0), (.slice none 0 0), (.int .i64 0), (.int .i64 0), (.slice none 0 0), (.slice none 0 0)], oI z1 27 (cC a g j k)] w1) => (haveI := Inv.tab (P := Tryd.prog) hI; subE w1 a j (hI.atB ha) ba 3 (by decide) (by decide) hX)
  refine DO.loud rfl rfl (l_call ent9 (CallT.of_pure hk5) rfl ?_)
  clear hk5
  rintro vr O' ⟨N, rfl, k1, rfl, rfl⟩
  refine ⟨Sub.pick [1, 1] rfl, ?_⟩
  have hk8 := fun (w1 : World) (hI : Inv w [dI 54 4 3 X k1, oI z2 27 [(.int .i64 0), (.int .i64 0), (.slice none 0 0), (.slice none 0 0), (.int .i64 0), (.int .i64 0), (.slice none 0 0), (.slice none 0 0)], oI z1 27 (cC a g j k)] w1) => (haveI := Inv.tab (P := Tryd.prog) hI; subE w1 g k (hI.atB hg) bg 3 (by decide) (by decide) hY)
  refine DO.last rfl rfl (l_call ent9 (CallT.of_pure hk8) rfl ?_)
  clear hk8
  rintro vr O' ⟨N, rfl, k2, rfl, rfl⟩
  refine DO.last rfl rfl (LT.of_quiet rfl rfl (q_build (cs := (cC X Y k1 k2)) plan27 inf27 (by kernel_rfl)) ?_)
  refine DO.last rfl rfl (l_store_box (v := (cV X Y k1 k2)) (vs := (cC X Y k1 k2)) 2 inf27 rfl rfl rfl rfl rfl rfl (by simp [putL]) ?_)
  refine DO.done ?_
  refine T.ret (Res.drop ?_)
  refine Res.cell1 (i := 2) Tryd.results10 Tryd.underlying27 rfl inf27 rfl rfl rfl ?_
  exact ⟨[dI 54 4 3 X k1, dI 54 4 3 Y k2], (Sub.pick [1, 0] rfl), k1, k2, rfl, rfl⟩
set_option maxHeartbeats 1000000 in
set_option maxRecDepth 20000 in
theorem lettersC (w : World) [Tab Tryd.prog w] (wb : Option Addr) (wc : Nat) (l : List Nat) (hW : Sl w wb (byts l)) (hwb : l.length < 9223372036854775807) (hw8 : ∀ x ∈ l, x < 256) :
    PureT Tryd.prog 11 [.slice wb l.length wc] w fun v N => ∃ (b : Option Addr) (c : Nat), v = .slice b (letL l).length c ∧ N = [rowI b c 5 1 (byts (letL l))] := by
  refine CallT.enter Tryd.func11 rfl Tryd.ntmps11 rfl ?_
  refine T.seq (T.region ?_)
  refine TO.quiet (q_assign rfl) ?_
  refine TO.nil (T.seq (T.region ?_))
  refine TO.quiet (q_assign rfl) ?_
  refine TO.nil (T.seq (T.seq (T.region ?_)))
  refine TO.quiet (q_assign rfl) ?_
  refine TO.nil (T.block ?_)
  refine T.nilRow 5 1 ?_
  refine T.loopS (fun (i : Nat) ρ O => ∃ (ob : Option Addr) (oc : Nat), O = [rowI ob oc 5 1 (byts ((l.take i).map (· % 2)))] ∧ i ≤ 8 ∧ i ≤ l.length ∧ Heads [(0, (.slice wb l.length wc)), (2, (.slice none 0 0)), (3, (.slice ob i oc)), (4, .int .i64 ((i : Nat) : Int))] ρ) (fun i => 8 - i) 0 ?_ ?_
  · exact ⟨none, 0, rfl, Nat.zero_le _, Nat.zero_le _, ⟨rfl, rfl, rfl, rfl, trivial⟩⟩
  rintro i ρ O ⟨ob, oc, rfl, hi8, hil, hH⟩
  obtain ⟨ρ0, rfl⟩ := hH.elim
  clear hH
  refine T.seq (T.seq (T.region ?_))
  refine TO.quiet (q_move rfl) (TO.quiet (q_move rfl) (TO.quiet (q_len Tryd.underlying29 rfl) (TO.quiet (q_lss rfl rfl) ?_)))
  by_cases hs9 : ((i : Nat) : Int) < (l.length : Int)
  · refine TO.quiet (QT.toB (q_move rfl) (decide_eq_true hs9)) ?_
    refine TO.guarded rfl rfl rfl (LT.of_quiet rfl rfl (q_move rfl) ?_)
    refine TO.guarded rfl rfl rfl (LT.of_quiet rfl rfl (q_lss rfl rfl) ?_)
    refine TO.quiet (q_pick1 rfl rfl) ?_
    refine TO.nil ?_
    refine T.condP rfl (fun hc => ?_) (fun hc => ?_)
    · have hlt12 : i < 8 := by omega
      refine T.skip (T.seq (T.block (T.region ?_)))
      refine TO.quiet (q_move rfl) (TO.quiet (q_move rfl) (TO.quiet (q_move rfl) (TO.quiet (q_ix (i := i) Tryd.underlying29 inf5 rfl rfl (Sl.o hW) (by omega) (by rw [List.length_map]; omega)) ?_)))
      refine TO.quiet (q_ld Tryd.underlying5 rfl rfl (Sl.o hW) (byts_get (by omega))) (TO.quiet (QT.cast (q_rem rfl rfl (by decide)) (v' := .int .u8 ((l[i] % 2 : Nat) : Int)) (by rw [Int.tmod_eq_emod_of_nonneg (by omega)]; rfl)) ?_)
      refine TO.loud rfl (l_build1 (v := .int .u8 ((l[i] % 2 : Nat) : Int)) Tryd.underlying29 inf5 rfl rfl rfl (fun z1 => ?_))
      refine TO.loud rfl (l_append 1 Tryd.underlying29 Tryd.underlying29 inf5 rfl rfl rfl rfl (by rw [List.length_map, List.length_map, List.length_take]; omega) (by decide) (Src.row (j := 0) rfl (by simp)) (by simp [oneB]) (by omega) (by decide) (by decide) (fun z2 zc3 => ?_))
      refine TO.quiet (q_assign rfl) ?_
      refine TO.nil (T.region ?_)
      refine TO.quiet (q_move rfl) (TO.quiet (q_addN (a := i) (b := 1) rfl rfl (by omega)) (TO.quiet (q_assign rfl) ?_))
      refine TO.nil ?_
      have hst : byts ((l.take (i + 1)).map (· % 2)) = byts ((l.take i).map (· % 2)) ++ [.int .u8 ((l[i] % 2 : Nat) : Int)] := by rw [List.take_succ_eq_append_getElem (show i < l.length by omega), List.map_append]; exact List.map_append
      exact ⟨i + 1, by omega, [rowI z2 zc3 5 1 ((byts ((l.take i).map (· % 2))) ++ [.int .u8 ((l[i] % 2 : Nat) : Int)])], (Sub.pick [1] rfl), z2, zc3, by rw [hst] <;> rfl, by omega, by omega, ⟨rfl, rfl, rfl, rfl, trivial⟩⟩
    have hge12 : ¬ i < 8 := by omega
    refine T.exit ?_
    refine T.seq (T.region ?_)
    refine TO.quiet (q_move rfl) (TO.quiet (q_assign rfl) ?_)
    refine TO.nil (T.ret (Res.drop ?_))
    refine Res.one (.slice ob i oc) Tryd.results11 rfl ?_
    have hte : (l.take i).map (· % 2) = letL l := by
      unfold letL
      congr 1
      by_cases h8 : i = 8
      · rw [h8]
      · rw [List.take_of_length_le (show l.length ≤ i by omega), List.take_of_length_le (show l.length ≤ 8 by omega)]
    have hle : i = (letL l).length := by rw [← hte]; simp; omega
    exact ⟨[rowI ob oc 5 1 (byts ((l.take i).map (· % 2)))], (Sub.pick [0] rfl), ob, oc, by rw [← hle], by rw [hte]⟩
  refine TO.quiet (QT.toB (q_move rfl) (decide_eq_false hs9)) ?_
  refine TO.passed rfl rfl ?_
  refine TO.passed rfl rfl ?_
  refine TO.quiet (q_pick0 rfl rfl) ?_
  refine TO.nil ?_
  refine T.cond0 rfl ?_
  refine T.exit ?_
  refine T.seq (T.region ?_)
  refine TO.quiet (q_move rfl) (TO.quiet (q_assign rfl) ?_)
  refine TO.nil (T.ret (Res.drop ?_))
  refine Res.one (.slice ob i oc) Tryd.results11 rfl ?_
  have hte : (l.take i).map (· % 2) = letL l := by
    unfold letL
    congr 1
    by_cases h8 : i = 8
    · rw [h8]
    · rw [List.take_of_length_le (show l.length ≤ i by omega), List.take_of_length_le (show l.length ≤ 8 by omega)]
  have hle : i = (letL l).length := by rw [← hte]; simp; omega
  exact ⟨[rowI ob oc 5 1 (byts ((l.take i).map (· % 2)))], (Sub.pick [0] rfl), ob, oc, by rw [← hle], by rw [hte]⟩
set_option maxHeartbeats 1000000 in
set_option maxRecDepth 20000 in
theorem accF (w : World) [Tab Tryd.prog w] (a : DFA) (j : DK) (ha : At w a j) (ba : a.next.length < 9223372036854775807 ∧ (∀ r ∈ a.next, r.length < 9223372036854775807) ∧ a.final.length < 9223372036854775807) (wb : Option Addr) (wc : Nat) (l : List Nat) (hW : Sl w wb (byts l)) (hwb : l.length < 9223372036854775807) (hw8 : ∀ x ∈ l, x < 256) {b : Bool} (hb : accV a l = b) :
    PureT Tryd.prog 14 [dV a j, .slice wb l.length wc] w fun v N => v = .bool b ∧ N = [] := by
  refine CallT.enter Tryd.func14 rfl Tryd.ntmps14 rfl ?_
  subst hb
  refine T.seq (T.region ?_)
  refine TO.loud rfl (l_box (v := (dV a j)) (cs := (dC a j)) rfl rfl (fun b1 => ?_))
  refine TO.quiet (q_assign rfl) ?_
  refine TO.nil (T.seq (T.region ?_))
  refine TO.quiet (q_load_boxAgg 0 Tryd.underlying25 rfl inf25 rfl rfl rfl) (TO.quiet (q_move rfl) ?_)
  have hk10 := fun (w1 : World) (hI : Inv w [oI b1 25 (dC a j)] w1) => (haveI := Inv.tab (P := Tryd.prog) hI; acceptsA w1 a j.nb j.fb j.nc j.fc (vals j.qs) (hI.dfa ha) ba.1 ba.2.1 ba.2.2 wb wc l (hI.sl hW) hwb hw8)
  refine TO.loud rfl (l_call ent33 (CallT.of_pure hk10) rfl ?_)
  clear hk10
  rintro v O' ⟨N, rfl, rfl, rfl⟩
  refine TO.quiet (q_move rfl) (TO.quiet (q_extract (vs := _) rfl rfl) (TO.quiet (q_extract (vs := _) rfl rfl) (TO.quiet (q_assign rfl) ?_)))
  refine TO.quiet (q_assign rfl) ?_
  refine TO.nil (T.seq (T.region ?_))
  refine TO.quiet (q_move rfl) ?_
  by_cases hs14 : (accV a l) = true
  · refine TO.quiet (QT.toB (q_move rfl) (hs14)) ?_
    refine TO.guarded rfl rfl rfl (LT.of_quiet rfl rfl (q_move rfl) ?_)
    refine TO.guarded rfl rfl rfl (LT.of_quiet rfl rfl (q_eql rfl rfl) ?_)
    refine TO.quiet (q_pick1 rfl rfl) (TO.quiet (q_assign rfl) ?_)
    refine TO.nil (T.ret (Res.drop ?_))
    refine Res.one (.bool (decide ((runE a l : Int) = 0))) Tryd.results14 rfl ?_
    exact ⟨[], Sub.z, congrArg Value.bool (by
      by_cases he : runE a l = 0
      · simp_all
      · have h9 : accV a l = false := by unfold accV; rw [if_neg he]
        simp_all), rfl⟩
  refine TO.quiet (QT.toB (q_move rfl) (Bool.eq_false_iff.2 hs14)) ?_
  refine TO.passed rfl rfl ?_
  refine TO.passed rfl rfl ?_
  refine TO.quiet (q_pick0 rfl rfl) (TO.quiet (q_assign rfl) ?_)
  refine TO.nil (T.ret (Res.drop ?_))
  refine Res.one (.bool false) Tryd.results14 rfl ?_
  exact ⟨[], Sub.z, congrArg Value.bool (by
    by_cases he : runE a l = 0
    · simp_all
    · have h9 : accV a l = false := by unfold accV; rw [if_neg he]
      simp_all), rfl⟩
set_option maxHeartbeats 1000000 in
set_option maxRecDepth 20000 in
theorem isC (w : World) [Tab Tryd.prog w] (b1 b2 : Option Addr) (c1 c2 : Nat) (l : List Nat) (h1 : Sl w b1 (byts l)) (h2 : Sl w b2 (byts l)) (hl : l.length < 9223372036854775807) (b : Bool) :
    PureT Tryd.prog 38 [.slice b1 l.length c1, .bool b, .int .i64 0, .bool b, .slice b2 l.length c2] w fun v N => v = .bool true ∧ N = [] := by
  refine CallT.enter Tryd.func38 rfl Tryd.ntmps38 rfl ?_
  refine T.seq (T.region ?_)
  refine TO.quiet (q_assign rfl) ?_
  refine TO.nil (T.seq (T.region ?_))
  refine TO.quiet (q_move rfl) (TO.quiet (q_move rfl) ?_)
  have hk13 := fun (w1 : World) (hI : Inv w [] w1) => (haveI := Inv.tab (P := Tryd.prog) hI; (show PureT _ _ _ _ _ from by
      have h9 := equalBytes w1 b1 b2 c1 c2 l l (hI.sl h1) (hI.sl h2) hl
      rw [decide_eq_true rfl] at h9
      exact h9))
  refine TO.loud rfl (l_call ent58 (CallT.of_pure hk13) rfl ?_)
  clear hk13
  rintro v O' ⟨N, rfl, rfl, rfl⟩
  refine TO.quiet (q_move rfl) ?_
  refine TO.guarded rfl rfl rfl (LT.of_quiet rfl rfl (q_move rfl) ?_)
  refine TO.guarded rfl rfl rfl (LT.of_quiet rfl rfl (q_move rfl) ?_)
  refine TO.guarded rfl rfl rfl (LT.of_quiet rfl rfl (QT.toB (q_beql Tryd.underlying4 rfl rfl) (decide_eq_true rfl)) ?_)
  refine TO.quiet (q_pick1 rfl rfl) (TO.quiet (q_move rfl) ?_)
  refine TO.guarded rfl rfl rfl (LT.of_quiet rfl rfl (q_move rfl) ?_)
  refine TO.guarded rfl rfl rfl (LT.of_quiet rfl rfl (QT.toB (q_eql rfl rfl) (decide_eq_true rfl)) ?_)
  refine TO.quiet (q_pick1 rfl rfl) (TO.quiet (q_assign rfl) ?_)
  refine TO.nil (T.ret (Res.drop ?_))
  refine Res.one (.bool true) Tryd.results38 rfl ?_
  exact ⟨[], Sub.z, rfl, rfl⟩
theorem implR (w : World) [Tab Tryd.prog w] {z x a g : DFA} {px p q : List Nat → Bool} (hz : Valid z) (hx : InL z x px) (ha : InL z a p) (hg : InL z g q) (i j k : DK) (hi : At w x i) (hj : At w a j) (hk : At w g k) {b : Bool} (hB : impB z.vars px p q = b) :
    PureT Tryd.prog 12 [dV x i, cV a g j k] w fun v N => ∃ res wb wc, LeastA (opD minusB (opD andB x a) g) res ∧ (!res.isSome) = b ∧ v = .tuple #[.slice wb (res.getD []).length wc, .bool b, .int .i64 0] ∧ N = [rowI wb wc 5 1 (byts (res.getD []))] := by
  refine (implC w hz hx ha hg i j k hi hj hk).mono ?_
  rintro v N ⟨res, wb, wc, hL, rfl, rfl⟩
  have e := (impB_res hz hx ha hg hL).trans hB
  exact ⟨res, wb, wc, hL, e, by rw [e], rfl⟩
theorem refR (w : World) [Tab Tryd.prog w] {z a b0 c d : DFA} {p q p2 q2 : List Nat → Bool} (hz : Valid z) (ha : InL z a p) (hb : InL z b0 q) (hc : InL z c p2) (hd : InL z d q2) (j1 j2 j3 j4 : DK) (hj1 : At w a j1) (hj2 : At w b0 j2) (hj3 : At w c j3) (hj4 : At w d j4) {b : Bool} (hB : refB z.vars p q p2 q2 = b) :
    PureT Tryd.prog 13 [cV a b0 j1 j2, cV c d j3 j4] w fun v N => ∃ res wb wc, LeastA (opD orB (opD minusB c a) (opD minusB (satD a b0) (satD c d))) res ∧ (!res.isSome) = b ∧ v = .tuple #[.slice wb (res.getD []).length wc, .bool b, .int .i64 0] ∧ N = [rowI wb wc 5 1 (byts (res.getD []))] := by
  refine (refC w hz ha hb hc hd j1 j2 j3 j4 hj1 hj2 hj3 hj4).mono ?_
  rintro v N ⟨res, wb, wc, hL, rfl, rfl⟩
  have e := (refB_res hz ha hb hc hd hL).trans hB
  exact ⟨res, wb, wc, hL, e, by rw [e], rfl⟩
theorem inclR (w : World) [Tab Tryd.prog w] {z x a : DFA} {px p : List Nat → Bool} (hz : Valid z) (hl : z.next.length ≤ 4095) (hx : InL z x px) (ha : InL z a p) (i j : DK) (hi : At w x i) (hj : At w a j) {b : Bool} (hB : incB z.vars px p = b) :
    PureT Tryd.prog 24 [dV x i, dV a j] w fun v N => ∃ res wb wc, LeastA (opD minusB x a) res ∧ (!res.isSome) = b ∧ v = .tuple #[.slice wb (res.getD []).length wc, .bool b, .int .i64 0] ∧ N = [rowI wb wc 5 1 (byts (res.getD []))] := by
  have hm := (InL.op (f := minusB) hz hx ha).1
  have h1 := hx.bds
  have h2 := ha.bds
  refine (inclOk w x a i j hi hj h1.1 h1.2.1 h1.2.2 h2.1 h2.2.1 h2.2.2 (hx.wrong ha) hm.valid (Nat.le_trans hm.len hl) (InL.ord hz hx ha)).mono ?_
  rintro v N ⟨res, wb, wc, hL, rfl, rfl⟩
  have hL2 := (InclA.ok (hx.wrong ha)).1 hL
  have e := (incB_res hz hx ha hL2).trans hB
  exact ⟨res, wb, wc, hL2, e, by rw [e], rfl⟩
set_option maxHeartbeats 1000000 in
set_option maxRecDepth 20000 in
theorem implZ (w : World) [Tab Tryd.prog w] {z x a g : DFA} {px p q : List Nat → Bool} (hz : Valid z) (hx : InL z x px) (ha : InL z a p) (hg : InL z g q) (i j k : DK) (hi : At w x i) (hj : At w a j) (hk : At w g k) {b : Bool} (hB : impB z.vars px p q = b) :
    PureT Tryd.prog 22 [dV x i, cV a g j k] w fun v N => v = .bool b ∧ N = [] := by
  refine CallT.enter Tryd.func22 rfl Tryd.ntmps22 rfl ?_
  refine T.seq (T.region ?_)
  refine TO.loud rfl (l_box (v := (dV x i)) (cs := (dC x i)) rfl rfl (fun z1 => ?_))
  refine TO.loud rfl (l_box (v := (cV a g j k)) (cs := (cC a g j k)) rfl rfl (fun z2 => ?_))
  refine TO.quiet (q_assign rfl) ?_
  refine TO.nil (T.seq (T.region ?_))
  refine TO.quiet (q_load_boxAgg 1 Tryd.underlying25 rfl inf25 rfl rfl rfl) (TO.quiet (q_load_boxAgg 0 Tryd.underlying27 rfl inf27 rfl rfl rfl) ?_)
  have hk11 := fun (w1 : World) (hI : Inv w [oI z2 27 (cC a g j k), oI z1 25 (dC x i)] w1) => (haveI := Inv.tab (P := Tryd.prog) hI; implR w1 hz hx ha hg i j k (hI.atB hi) (hI.atB hj) (hI.atB hk) hB)
  refine TO.loud rfl (l_call ent12 (CallT.of_pure hk11) rfl ?_)
  clear hk11
  rintro v O' ⟨N, rfl, res, rb, rc, hL, he, rfl, rfl⟩
  refine TO.quiet (q_move rfl) (TO.quiet (q_extract (vs := _) rfl rfl) (TO.quiet (q_extract (vs := _) rfl rfl) (TO.quiet (q_extract (vs := _) rfl rfl) ?_)))
  refine TO.quiet (q_assign rfl) (TO.quiet (q_assign rfl) (TO.quiet (q_assign rfl) ?_))
  refine TO.nil (T.seq (T.region ?_))
  refine TO.quiet (q_move rfl) ?_
  by_cases hs16 : b = true
  · refine TO.quiet (QT.toB (q_move rfl) (hs16)) ?_
    refine TO.guarded rfl rfl rfl (LT.of_quiet rfl rfl (q_move rfl) ?_)
    refine TO.guarded rfl rfl rfl (LT.of_quiet rfl rfl (QT.toB (q_eql rfl rfl) (decide_eq_true rfl)) ?_)
    refine TO.quiet (q_pick1 rfl rfl) (TO.quiet (q_assign rfl) ?_)
    refine TO.nil (T.ret (Res.drop ?_))
    refine Res.one (.bool true) Tryd.results22 rfl ?_
    exact ⟨[], Sub.z, congrArg Value.bool (by simp_all), rfl⟩
  refine TO.quiet (QT.toB (q_move rfl) (Bool.eq_false_iff.2 hs16)) ?_
  refine TO.passed rfl rfl ?_
  refine TO.passed rfl rfl ?_
  refine TO.quiet (q_pick0 rfl rfl) (TO.quiet (q_assign rfl) ?_)
  refine TO.nil (T.ret (Res.drop ?_))
  refine Res.one (.bool false) Tryd.results22 rfl ?_
  exact ⟨[], Sub.z, congrArg Value.bool (by simp_all), rfl⟩
set_option maxHeartbeats 1000000 in
set_option maxRecDepth 20000 in
theorem refZ (w : World) [Tab Tryd.prog w] {z a b0 c d : DFA} {p q p2 q2 : List Nat → Bool} (hz : Valid z) (ha : InL z a p) (hb : InL z b0 q) (hc : InL z c p2) (hd : InL z d q2) (j1 j2 j3 j4 : DK) (hj1 : At w a j1) (hj2 : At w b0 j2) (hj3 : At w c j3) (hj4 : At w d j4) {b : Bool} (hB : refB z.vars p q p2 q2 = b) :
    PureT Tryd.prog 19 [cV a b0 j1 j2, cV c d j3 j4] w fun v N => v = .bool b ∧ N = [] := by
  refine CallT.enter Tryd.func19 rfl Tryd.ntmps19 rfl ?_
  refine T.seq (T.region ?_)
  refine TO.loud rfl (l_box (v := (cV a b0 j1 j2)) (cs := (cC a b0 j1 j2)) rfl rfl (fun z1 => ?_))
  refine TO.loud rfl (l_box (v := (cV c d j3 j4)) (cs := (cC c d j3 j4)) rfl rfl (fun z2 => ?_))
  refine TO.quiet (q_assign rfl) ?_
  refine TO.nil (T.seq (T.region ?_))
  refine TO.quiet (q_load_boxAgg 1 Tryd.underlying27 rfl inf27 rfl rfl rfl) (TO.quiet (q_load_boxAgg 0 Tryd.underlying27 rfl inf27 rfl rfl rfl) ?_)
  have hk11 := fun (w1 : World) (hI : Inv w [oI z2 27 (cC c d j3 j4), oI z1 27 (cC a b0 j1 j2)] w1) => (haveI := Inv.tab (P := Tryd.prog) hI; refR w1 hz ha hb hc hd j1 j2 j3 j4 (hI.atB hj1) (hI.atB hj2) (hI.atB hj3) (hI.atB hj4) hB)
  refine TO.loud rfl (l_call ent13 (CallT.of_pure hk11) rfl ?_)
  clear hk11
  rintro v O' ⟨N, rfl, res, rb, rc, hL, he, rfl, rfl⟩
  refine TO.quiet (q_move rfl) (TO.quiet (q_extract (vs := _) rfl rfl) (TO.quiet (q_extract (vs := _) rfl rfl) (TO.quiet (q_extract (vs := _) rfl rfl) ?_)))
  refine TO.quiet (q_assign rfl) (TO.quiet (q_assign rfl) (TO.quiet (q_assign rfl) ?_))
  refine TO.nil (T.seq (T.region ?_))
  refine TO.quiet (q_move rfl) ?_
  by_cases hs16 : b = true
  · refine TO.quiet (QT.toB (q_move rfl) (hs16)) ?_
    refine TO.guarded rfl rfl rfl (LT.of_quiet rfl rfl (q_move rfl) ?_)
    refine TO.guarded rfl rfl rfl (LT.of_quiet rfl rfl (QT.toB (q_eql rfl rfl) (decide_eq_true rfl)) ?_)
    refine TO.quiet (q_pick1 rfl rfl) (TO.quiet (q_assign rfl) ?_)
    refine TO.nil (T.ret (Res.drop ?_))
    refine Res.one (.bool true) Tryd.results19 rfl ?_
    exact ⟨[], Sub.z, congrArg Value.bool (by simp_all), rfl⟩
  refine TO.quiet (QT.toB (q_move rfl) (Bool.eq_false_iff.2 hs16)) ?_
  refine TO.passed rfl rfl ?_
  refine TO.passed rfl rfl ?_
  refine TO.quiet (q_pick0 rfl rfl) (TO.quiet (q_assign rfl) ?_)
  refine TO.nil (T.ret (Res.drop ?_))
  refine Res.one (.bool false) Tryd.results19 rfl ?_
  exact ⟨[], Sub.z, congrArg Value.bool (by simp_all), rfl⟩
theorem equalK (w : World) [Tab Tryd.prog w] (d : DFA) (j k : DK) (h1 : At w d j) (h2 : At w d k) (bd : d.next.length < 9223372036854775807 ∧ (∀ r ∈ d.next, r.length < 9223372036854775807) ∧ d.final.length < 9223372036854775807) :
    PureT Tryd.prog 37 [dV d j, dV d k] w fun v N => v = .bool true ∧ N = [] :=
  (CallT.none (equalDFA w d d j.nb k.nb j.fb k.fb j.nc k.nc j.fc k.fc (vals j.qs) (vals k.qs) h1 h2 bd.1 bd.2.1 bd.2.2)).mono fun v N ⟨h1, O2, h2, _⟩ => ⟨h2.trans (congrArg Value.bool (decide_eq_true rfl)), h1⟩
set_option maxHeartbeats 1000000 in
set_option maxRecDepth 20000 in
theorem equalC (w : World) [Tab Tryd.prog w] (a g : DFA) (j k j2 k2 : DK) (h1 : At w a j) (h2 : At w g k) (h3 : At w a j2) (h4 : At w g k2) (ba : a.next.length < 9223372036854775807 ∧ (∀ r ∈ a.next, r.length < 9223372036854775807) ∧ a.final.length < 9223372036854775807) (bg : g.next.length < 9223372036854775807 ∧ (∀ r ∈ g.next, r.length < 9223372036854775807) ∧ g.final.length < 9223372036854775807) :
    PureT Tryd.prog 18 [cV a g j k, cV a g j2 k2] w fun v N => v = .bool true ∧ N = [] := by
  refine CallT.enter Tryd.func18 rfl Tryd.ntmps18 rfl ?_
  refine T.seq (T.region ?_)
  refine TO.loud rfl (l_box (v := (cV a g j k)) (cs := (cC a g j k)) rfl rfl (fun b1 => ?_))
  refine TO.loud rfl (l_box (v := (cV a g j2 k2)) (cs := (cC a g j2 k2)) rfl rfl (fun b2 => ?_))
  refine TO.quiet (q_assign rfl) ?_
  refine TO.nil (T.seq (T.region ?_))
  refine TO.quiet (q_fieldAddr Tryd.underlying27 rfl inf25 rfl rfl) (TO.quiet (q_load_part 1 (vs := (dC a j)) Tryd.underlying25 rfl inf25 rfl rfl rfl rfl) (TO.quiet (q_fieldAddr Tryd.underlying27 rfl inf25 rfl rfl) (TO.quiet (q_load_part 0 (vs := (dC a j2)) Tryd.underlying25 rfl inf25 rfl rfl rfl rfl) ?_)))
  have hk9 := fun (w1 : World) (hI : Inv w [oI b2 27 (cC a g j2 k2), oI b1 27 (cC a g j k)] w1) => (haveI := Inv.tab (P := Tryd.prog) hI; equalK w1 a j j2 (hI.atB h1) (hI.atB h3) ba)
  refine TO.loud rfl (l_call ent37 (CallT.of_pure hk9) rfl ?_)
  clear hk9
  rintro v O' ⟨N, rfl, rfl, rfl⟩
  refine TO.quiet (q_move rfl) ?_
  refine TO.guarded rfl rfl rfl (LT.of_quiet rfl rfl (q_fieldAddr Tryd.underlying27 rfl inf25 rfl rfl) ?_)
  refine TO.guarded rfl rfl rfl (LT.of_quiet rfl rfl (q_load_part 1 (vs := (dC g k)) Tryd.underlying25 rfl inf25 rfl rfl rfl rfl) ?_)
  refine TO.guarded rfl rfl rfl (LT.of_quiet rfl rfl (q_fieldAddr Tryd.underlying27 rfl inf25 rfl rfl) ?_)
  refine TO.guarded rfl rfl rfl (LT.of_quiet rfl rfl (q_load_part 0 (vs := (dC g k2)) Tryd.underlying25 rfl inf25 rfl rfl rfl rfl) ?_)
  have hk15 := fun (w1 : World) (hI : Inv w [oI b2 27 (cC a g j2 k2), oI b1 27 (cC a g j k)] w1) => (haveI := Inv.tab (P := Tryd.prog) hI; equalK w1 g k k2 (hI.atB h2) (hI.atB h4) bg)
  refine TO.guarded rfl rfl rfl (l_call ent37 (CallT.of_pure hk15) rfl ?_)
  clear hk15
  rintro v O' ⟨N, rfl, rfl, rfl⟩
  refine TO.quiet (q_pick1 rfl rfl) (TO.quiet (q_assign rfl) ?_)
  refine TO.nil (T.ret (Res.drop ?_))
  refine Res.one (.bool true) Tryd.results18 rfl ?_
  exact ⟨[], Sub.z, rfl, rfl⟩
set_option maxHeartbeats 1000000 in
set_option maxRecDepth 20000 in
theorem onesK (w : World) [Tab Tryd.prog w] : PureT Tryd.prog 34 [] w fun v N => ∃ k' : DK, v = dV conO k' ∧ N = [dI 54 4 3 conO k'] := by
  refine CallT.enter Tryd.func34 rfl Tryd.ntmps34 rfl ?_
  refine T.seq (T.region ?_)
  refine TO.loud rfl (l_alloc inf25 rfl (fun z1 => ?_))
  refine TO.nil (T.seq (T.region ?_))
  refine TO.loud rfl (l_buildSlice (m := 2) (parts := [(0, .const (.int .i64 1)), (1, .const (.int .i64 0))]) (cs := [.int .i64 1, .int .i64 0]) Tryd.underlying54 inf3 (by decide) (by kernel_rfl) rfl (fun z2 => ?_))
  refine TO.loud rfl (l_buildSlice (m := 2) (parts := [(0, .const (.int .i64 1)), (1, .const (.int .i64 1))]) (cs := [.int .i64 1, .int .i64 1]) Tryd.underlying54 inf3 (by decide) (by kernel_rfl) rfl (fun z3 => ?_))
  refine TO.loud rfl (l_buildSlice (m := 2) (parts := [(0, .tmp 1), (1, .tmp 2)]) (cs := [(.slice (some ⟨z2, 0, none⟩) 2 2), (.slice (some ⟨z3, 0, none⟩) 2 2)]) Tryd.underlying22 inf54 (by decide) (by kernel_rfl) rfl (fun z4 => ?_))
  refine TO.loud rfl (l_buildSlice (m := 2) (parts := [(0, .const (.bool true)), (1, .const (.bool false))]) (cs := [.bool true, .bool false]) Tryd.underlying23 inf4 (by decide) (by kernel_rfl) rfl (fun z5 => ?_))
  refine TO.quiet (q_build (cs := [.int .i64 1, (.int .i64 0), (.slice (some ⟨z4, 0, none⟩) 2 2), (.slice (some ⟨z5, 0, none⟩) 2 2)]) plan25 inf25 (by kernel_rfl)) ?_
  refine TO.loud rfl (l_store_box (v := (.agg #[.int .i64 1, (.int .i64 0), (.slice (some ⟨z4, 0, none⟩) 2 2), (.slice (some ⟨z5, 0, none⟩) 2 2)])) (vs := [.int .i64 1, (.int .i64 0), (.slice (some ⟨z4, 0, none⟩) 2 2), (.slice (some ⟨z5, 0, none⟩) 2 2)]) 4 inf25 rfl rfl rfl rfl rfl rfl (by simp [putL]) ?_)
  refine TO.nil ?_
  refine T.sub (O' := [rowI (some ⟨z4, 0, none⟩) 2 54 1 [(.slice (some ⟨z2, 0, none⟩) 2 2), (.slice (some ⟨z3, 0, none⟩) 2 2)], rowI (some ⟨z5, 0, none⟩) 2 4 1 [.bool true, .bool false], rowI (some ⟨z2, 0, none⟩) 2 3 1 [.int .i64 1, .int .i64 0], rowI (some ⟨z3, 0, none⟩) 2 3 1 [.int .i64 1, .int .i64 1], oI z1 25 [.int .i64 1, (.int .i64 0), (.slice (some ⟨z4, 0, none⟩) 2 2), (.slice (some ⟨z5, 0, none⟩) 2 2)]]) (Sub.pick [1, 0, 1, 0, 0] rfl) ?_
  obtain ⟨k0, hk0⟩ : ∃ k : DK, k = ⟨some ⟨z4, 0, none⟩, 2, some ⟨z5, 0, none⟩, 2, [⟨some ⟨z2, 0, none⟩, 2, [1, 0]⟩, ⟨some ⟨z3, 0, none⟩, 2, [1, 1]⟩]⟩ := ⟨_, rfl⟩
  refine T.sub (O' := (([rowI k0.nb k0.nc 54 1 (vals k0.qs), rowI k0.fb k0.fc 4 1 (bools conO.final)] ++ itms 3 k0.qs) ++ [oI z1 25 [.int .i64 1, (.int .i64 0), (.slice (some ⟨z4, 0, none⟩) 2 2), (.slice (some ⟨z5, 0, none⟩) 2 2)]])) (by subst hk0; exact Sub.rf) ?_
  refine T.pack (φ := nums k0.qs = conO.next) (by subst hk0; rfl) ?_
  refine T.sub (O' := [dI 54 4 3 conO k0, oI z1 25 (dC conO k0)]) (by subst hk0; exact Sub.rf) ?_
  refine T.ret (Res.drop ?_)
  refine Res.cell1 (i := 1) Tryd.results34 Tryd.underlying25 rfl inf25 rfl rfl rfl ?_
  exact ⟨[dI 54 4 3 conO k0], (Sub.pick [0] rfl), k0, rfl, rfl⟩
set_option maxHeartbeats 1000000 in
set_option maxRecDepth 20000 in
theorem shortK (w : World) [Tab Tryd.prog w] : PureT Tryd.prog 35 [] w fun v N => ∃ k' : DK, v = dV conS k' ∧ N = [dI 54 4 3 conS k'] := by
  refine CallT.enter Tryd.func35 rfl Tryd.ntmps35 rfl ?_
  refine T.seq (T.region ?_)
  refine TO.loud rfl (l_alloc inf25 rfl (fun z1 => ?_))
  refine TO.nil (T.seq (T.region ?_))
  refine TO.loud rfl (l_buildSlice (m := 2) (parts := [(0, .const (.int .i64 1)), (1, .const (.int .i64 1))]) (cs := [.int .i64 1, .int .i64 1]) Tryd.underlying54 inf3 (by decide) (by kernel_rfl) rfl (fun z2 => ?_))
  refine TO.loud rfl (l_buildSlice (m := 2) (parts := [(0, .const (.int .i64 2)), (1, .const (.int .i64 2))]) (cs := [.int .i64 2, .int .i64 2]) Tryd.underlying54 inf3 (by decide) (by kernel_rfl) rfl (fun z3 => ?_))
  refine TO.loud rfl (l_buildSlice (m := 2) (parts := [(0, .const (.int .i64 2)), (1, .const (.int .i64 2))]) (cs := [.int .i64 2, .int .i64 2]) Tryd.underlying54 inf3 (by decide) (by kernel_rfl) rfl (fun z4 => ?_))
  refine TO.loud rfl (l_buildSlice (m := 3) (parts := [(0, .tmp 1), (1, .tmp 2), (2, .tmp 3)]) (cs := [(.slice (some ⟨z2, 0, none⟩) 2 2), (.slice (some ⟨z3, 0, none⟩) 2 2), (.slice (some ⟨z4, 0, none⟩) 2 2)]) Tryd.underlying22 inf54 (by decide) (by kernel_rfl) rfl (fun z5 => ?_))
  refine TO.loud rfl (l_buildSlice (m := 3) (parts := [(0, .const (.bool true)), (1, .const (.bool true)), (2, .const (.bool false))]) (cs := [.bool true, .bool true, .bool false]) Tryd.underlying23 inf4 (by decide) (by kernel_rfl) rfl (fun z6 => ?_))
  refine TO.quiet (q_build (cs := [.int .i64 1, (.int .i64 0), (.slice (some ⟨z5, 0, none⟩) 3 3), (.slice (some ⟨z6, 0, none⟩) 3 3)]) plan25 inf25 (by kernel_rfl)) ?_
  refine TO.loud rfl (l_store_box (v := (.agg #[.int .i64 1, (.int .i64 0), (.slice (some ⟨z5, 0, none⟩) 3 3), (.slice (some ⟨z6, 0, none⟩) 3 3)])) (vs := [.int .i64 1, (.int .i64 0), (.slice (some ⟨z5, 0, none⟩) 3 3), (.slice (some ⟨z6, 0, none⟩) 3 3)]) 5 inf25 rfl rfl rfl rfl rfl rfl (by simp [putL]) ?_)
  refine TO.nil ?_
  refine T.sub (O' := [rowI (some ⟨z5, 0, none⟩) 3 54 1 [(.slice (some ⟨z2, 0, none⟩) 2 2), (.slice (some ⟨z3, 0, none⟩) 2 2), (.slice (some ⟨z4, 0, none⟩) 2 2)], rowI (some ⟨z6, 0, none⟩) 3 4 1 [.bool true, .bool true, .bool false], rowI (some ⟨z2, 0, none⟩) 2 3 1 [.int .i64 1, .int .i64 1], rowI (some ⟨z3, 0, none⟩) 2 3 1 [.int .i64 2, .int .i64 2], rowI (some ⟨z4, 0, none⟩) 2 3 1 [.int .i64 2, .int .i64 2], oI z1 25 [.int .i64 1, (.int .i64 0), (.slice (some ⟨z5, 0, none⟩) 3 3), (.slice (some ⟨z6, 0, none⟩) 3 3)]]) (Sub.pick [1, 0, 2, 1, 0, 0] rfl) ?_
  obtain ⟨k0, hk0⟩ : ∃ k : DK, k = ⟨some ⟨z5, 0, none⟩, 3, some ⟨z6, 0, none⟩, 3, [⟨some ⟨z2, 0, none⟩, 2, [1, 1]⟩, ⟨some ⟨z3, 0, none⟩, 2, [2, 2]⟩, ⟨some ⟨z4, 0, none⟩, 2, [2, 2]⟩]⟩ := ⟨_, rfl⟩
  refine T.sub (O' := (([rowI k0.nb k0.nc 54 1 (vals k0.qs), rowI k0.fb k0.fc 4 1 (bools conS.final)] ++ itms 3 k0.qs) ++ [oI z1 25 [.int .i64 1, (.int .i64 0), (.slice (some ⟨z5, 0, none⟩) 3 3), (.slice (some ⟨z6, 0, none⟩) 3 3)]])) (by subst hk0; exact Sub.rf) ?_
  refine T.pack (φ := nums k0.qs = conS.next) (by subst hk0; rfl) ?_
  refine T.sub (O' := [dI 54 4 3 conS k0, oI z1 25 (dC conS k0)]) (by subst hk0; exact Sub.rf) ?_
  refine T.ret (Res.drop ?_)
  refine Res.cell1 (i := 1) Tryd.results35 Tryd.underlying25 rfl inf25 rfl rfl rfl ?_
  exact ⟨[dI 54 4 3 conS k0], (Sub.pick [0] rfl), k0, rfl, rfl⟩
set_option maxHeartbeats 1000000 in
set_option maxRecDepth 20000 in
theorem all1K (w : World) [Tab Tryd.prog w] : PureT Tryd.prog 36 [.int .i64 1] w fun v N => ∃ k' : DK, v = dV (stayD 1 true) k' ∧ N = [dI 54 4 3 (stayD 1 true) k'] := by
  refine CallT.enter Tryd.func36 rfl Tryd.ntmps36 rfl ?_
  refine T.seq (T.region ?_)
  refine TO.loud rfl (l_alloc inf25 rfl (fun z1 => ?_))
  refine TO.nil (T.seq (T.region ?_))
  refine TO.quiet (q_move rfl) (TO.quiet (q_move rfl) (TO.quiet (QT.cast (q_shl1 (v := 1) rfl rfl (by omega)) (v' := .int .i64 2) rfl) ?_))
  refine TO.loud rfl (l_makeSlice (m := 2) Tryd.underlying54 inf3 rfl rfl (by omega) (by omega) (fun z2 => ?_))
  refine TO.loud rfl (l_build1 (v := (.slice (some ⟨z2, 0, none⟩) 2 2)) Tryd.underlying22 inf54 rfl rfl rfl (fun z3 => ?_))
  refine TO.loud rfl (l_build1 (v := .bool true) Tryd.underlying23 inf4 rfl rfl rfl (fun z4 => ?_))
  refine TO.quiet (q_build (cs := [.int .i64 1, (.int .i64 0), (.slice (some ⟨z3, 0, none⟩) 1 1), (.slice (some ⟨z4, 0, none⟩) 1 1)]) plan25 inf25 (by kernel_rfl)) ?_
  refine TO.loud rfl (l_store_box (v := (.agg #[.int .i64 1, (.int .i64 0), (.slice (some ⟨z3, 0, none⟩) 1 1), (.slice (some ⟨z4, 0, none⟩) 1 1)])) (vs := [.int .i64 1, (.int .i64 0), (.slice (some ⟨z3, 0, none⟩) 1 1), (.slice (some ⟨z4, 0, none⟩) 1 1)]) 3 inf25 rfl rfl rfl rfl rfl rfl (by simp [putL]) ?_)
  refine TO.nil ?_
  refine T.sub (O' := [rowI (some ⟨z3, 0, none⟩) 1 54 1 [(.slice (some ⟨z2, 0, none⟩) 2 2)], rowI (some ⟨z4, 0, none⟩) 1 4 1 [.bool true], rowI (some ⟨z2, 0, none⟩) 2 3 1 (List.replicate 2 (.int .i64 0)), oI z1 25 [.int .i64 1, (.int .i64 0), (.slice (some ⟨z3, 0, none⟩) 1 1), (.slice (some ⟨z4, 0, none⟩) 1 1)]]) (Sub.pick [1, 0, 0, 0] rfl) ?_
  obtain ⟨k0, hk0⟩ : ∃ k : DK, k = ⟨some ⟨z3, 0, none⟩, 1, some ⟨z4, 0, none⟩, 1, [⟨some ⟨z2, 0, none⟩, 2, [0, 0]⟩]⟩ := ⟨_, rfl⟩
  refine T.sub (O' := (([rowI k0.nb k0.nc 54 1 (vals k0.qs), rowI k0.fb k0.fc 4 1 (bools (stayD 1 true).final)] ++ itms 3 k0.qs) ++ [oI z1 25 [.int .i64 1, (.int .i64 0), (.slice (some ⟨z3, 0, none⟩) 1 1), (.slice (some ⟨z4, 0, none⟩) 1 1)]])) (by subst hk0; exact Sub.rf) ?_
  refine T.pack (φ := nums k0.qs = (stayD 1 true).next) (by subst hk0; rfl) ?_
  refine T.sub (O' := [dI 54 4 3 (stayD 1 true) k0, oI z1 25 (dC (stayD 1 true) k0)]) (by subst hk0; exact Sub.rf) ?_
  refine T.ret (Res.drop ?_)
  refine Res.cell1 (i := 1) Tryd.results36 Tryd.underlying25 rfl inf25 rfl rfl rfl ?_
  exact ⟨[dI 54 4 3 (stayD 1 true) k0], (Sub.pick [0] rfl), k0, rfl, rfl⟩
set_option maxHeartbeats 1000000 in
set_option maxRecDepth 20000 in
theorem all2K (w : World) [Tab Tryd.prog w] : PureT Tryd.prog 36 [.int .i64 2] w fun v N => ∃ k' : DK, v = dV (stayD 2 true) k' ∧ N = [dI 54 4 3 (stayD 2 true) k'] := by
  refine CallT.enter Tryd.func36 rfl Tryd.ntmps36 rfl ?_
  refine T.seq (T.region ?_)
  refine TO.loud rfl (l_alloc inf25 rfl (fun z1 => ?_))
  refine TO.nil (T.seq (T.region ?_))
  refine TO.quiet (q_move rfl) (TO.quiet (q_move rfl) (TO.quiet (QT.cast (q_shl1 (v := 2) rfl rfl (by omega)) (v' := .int .i64 4) rfl) ?_))
  refine TO.loud rfl (l_makeSlice (m := 4) Tryd.underlying54 inf3 rfl rfl (by omega) (by omega) (fun z2 => ?_))
  refine TO.loud rfl (l_build1 (v := (.slice (some ⟨z2, 0, none⟩) 4 4)) Tryd.underlying22 inf54 rfl rfl rfl (fun z3 => ?_))
  refine TO.loud rfl (l_build1 (v := .bool true) Tryd.underlying23 inf4 rfl rfl rfl (fun z4 => ?_))
  refine TO.quiet (q_build (cs := [.int .i64 2, (.int .i64 0), (.slice (some ⟨z3, 0, none⟩) 1 1), (.slice (some ⟨z4, 0, none⟩) 1 1)]) plan25 inf25 (by kernel_rfl)) ?_
  refine TO.loud rfl (l_store_box (v := (.agg #[.int .i64 2, (.int .i64 0), (.slice (some ⟨z3, 0, none⟩) 1 1), (.slice (some ⟨z4, 0, none⟩) 1 1)])) (vs := [.int .i64 2, (.int .i64 0), (.slice (some ⟨z3, 0, none⟩) 1 1), (.slice (some ⟨z4, 0, none⟩) 1 1)]) 3 inf25 rfl rfl rfl rfl rfl rfl (by simp [putL]) ?_)
  refine TO.nil ?_
  refine T.sub (O' := [rowI (some ⟨z3, 0, none⟩) 1 54 1 [(.slice (some ⟨z2, 0, none⟩) 4 4)], rowI (some ⟨z4, 0, none⟩) 1 4 1 [.bool true], rowI (some ⟨z2, 0, none⟩) 4 3 1 (List.replicate 4 (.int .i64 0)), oI z1 25 [.int .i64 2, (.int .i64 0), (.slice (some ⟨z3, 0, none⟩) 1 1), (.slice (some ⟨z4, 0, none⟩) 1 1)]]) (Sub.pick [1, 0, 0, 0] rfl) ?_
  obtain ⟨k0, hk0⟩ : ∃ k : DK, k = ⟨some ⟨z3, 0, none⟩, 1, some ⟨z4, 0, none⟩, 1, [⟨some ⟨z2, 0, none⟩, 4, [0, 0, 0, 0]⟩]⟩ := ⟨_, rfl⟩
  refine T.sub (O' := (([rowI k0.nb k0.nc 54 1 (vals k0.qs), rowI k0.fb k0.fc 4 1 (bools (stayD 2 true).final)] ++ itms 3 k0.qs) ++ [oI z1 25 [.int .i64 2, (.int .i64 0), (.slice (some ⟨z3, 0, none⟩) 1 1), (.slice (some ⟨z4, 0, none⟩) 1 1)]])) (by subst hk0; exact Sub.rf) ?_
  refine T.pack (φ := nums k0.qs = (stayD 2 true).next) (by subst hk0; rfl) ?_
  refine T.sub (O' := [dI 54 4 3 (stayD 2 true) k0, oI z1 25 (dC (stayD 2 true) k0)]) (by subst hk0; exact Sub.rf) ?_
  refine T.ret (Res.drop ?_)
  refine Res.cell1 (i := 1) Tryd.results36 Tryd.underlying25 rfl inf25 rfl rfl rfl ?_
  exact ⟨[dI 54 4 3 (stayD 2 true) k0], (Sub.pick [0] rfl), k0, rfl, rfl⟩
end Go.Proofs.YtnpehjpookcfkaaDoor

namespace Go.Lx
open Go.RowKit
set_option linter.unusedVariables false
structure AwX (z dO dS dA dB mS mT mV : DFA) : Prop where
  hz : Valid z
  v1 : z.vars = 1
  eO : conO = dO
  eS : conS = dS
  eA : stayD 1 true = dA
  eB : stayD 2 true = dB
  o : InL z dO (acc dO)
  s : InL z dS (acc dS)
  a : InL z dA (acc dA)
  vB : Valid dB
  eM : minD dO = dO
  eSat : satD dO dS = mS
  hS : InL z mS (fun w => acc dS w || !acc dO w)
  s1 : accV mS [1, 1] = false
  s2 : accV mS [0, 0] = true
  s3 : accV mS [1] = true
  i1 : ∀ res, LeastA (opD minusB (opD andB dS dO) dS) res → res = none
  i2 : ∀ res, LeastA (opD minusB (opD andB dA dO) dS) res → res = some [1, 1]
  r1 : ∀ res, LeastA (opD orB (opD minusB dO dO) (opD minusB (satD dO dS) (satD dO dA))) res → res = none
  r2 : ∀ res, LeastA (opD orB (opD minusB dO dO) (opD minusB (satD dO dA) (satD dO dS))) res → res = some [1, 1]
  r3 : ∀ res, LeastA (opD orB (opD minusB dA dO) (opD minusB (satD dO dS) (satD dA dS))) res → res = some [0]
  m1 : opD orB dO dA = dA
  m2 : opD andB (satD dO dS) (satD dA dS) = mT
  m3 : accV mT [0, 0] = false
  bT : mT.next.length < 9223372036854775807 ∧ (∀ r ∈ mT.next, r.length < 9223372036854775807) ∧ mT.final.length < 9223372036854775807
  c1 : opD orB (opD andB dO dO) (notD (opD andB (satD dO dS) (satD dO dS))) = dO
  c2 : opD andB (satD dO dS) (satD dO dS) = mV
  e7 : cE dA dB = 7
theorem aw_x : ∃ z dO dS dA dB mS mT mV : DFA, AwX z dO dS dA dB mS mT mV := by
  obtain ⟨z, h⟩ := aw_z
  refine ⟨z, conO, conS, stayD 1 true, stayD 2 true, satD conO conS, opD andB (satD conO conS) (satD allA conS), opD andB (satD conO conS) (satD conO conS), ?_⟩
  exact { hz := h.hz, v1 := h.v1, eO := rfl, eS := rfl, eA := rfl, eB := rfl, o := h.o, s := h.s, a := h.a, vB := conA2_valid, eM := conO_min, eSat := rfl, hS := (InL.sat h.hz h.o h.s).2, s1 := h.satF.1, s2 := h.satF.2.1, s3 := h.satF.2.2,
          i1 := fun res hr => h.imp1 hr, i2 := fun res hr => h.imp2 hr, r1 := fun res hr => h.ref1 hr, r2 := fun res hr => h.ref2 hr, r3 := fun res hr => h.ref3 hr, m1 := h.meet.1, m2 := rfl, m3 := h.meet.2, bT := (InL.meetG h.hz h.o h.s h.a h.s).bds, c1 := h.comp, c2 := rfl,
          e7 := cE_vars (checkD_zero.2 conA_valid) (checkD_zero.2 conA2_valid) (by decide) }
end Go.Lx

namespace Go.Proofs.YtnpehjpookcfkaaDoor
open Go.Lx Go.RowKit
set_option linter.unusedVariables false
set_option linter.unusedSimpArgs false
theorem onesE (w : World) [Tab Tryd.prog w] {d : DFA} (h : conO = d) : PureT Tryd.prog 34 [] w fun v N => ∃ k' : DK, v = dV d k' ∧ N = [dI 54 4 3 d k'] := by
  subst h
  exact onesK w
theorem shortE (w : World) [Tab Tryd.prog w] {d : DFA} (h : conS = d) : PureT Tryd.prog 35 [] w fun v N => ∃ k' : DK, v = dV d k' ∧ N = [dI 54 4 3 d k'] := by
  subst h
  exact shortK w
theorem all1E (w : World) [Tab Tryd.prog w] {d : DFA} (h : stayD 1 true = d) : PureT Tryd.prog 36 [.int .i64 1] w fun v N => ∃ k' : DK, v = dV d k' ∧ N = [dI 54 4 3 d k'] := by
  subst h
  exact all1K w
theorem all2E (w : World) [Tab Tryd.prog w] {d : DFA} (h : stayD 2 true = d) : PureT Tryd.prog 36 [.int .i64 2] w fun v N => ∃ k' : DK, v = dV d k' ∧ N = [dI 54 4 3 d k'] := by
  subst h
  exact all2K w
theorem implL (w : World) [Tab Tryd.prog w] {z x a g : DFA} {px p q : List Nat → Bool} (hz : Valid z) (hx : InL z x px) (ha : InL z a p) (hg : InL z g q) (i j k : DK) (hi : At w x i) (hj : At w a j) (hk : At w g k) {r : Option (List Nat)} (hr : ∀ res, LeastA (opD minusB (opD andB x a) g) res → res = r) :
    PureT Tryd.prog 12 [dV x i, cV a g j k] w fun v N => ∃ wb wc, v = .tuple #[.slice wb (r.getD []).length wc, .bool (!r.isSome), .int .i64 0] ∧ N = [rowI wb wc 5 1 (byts (r.getD []))] := by
  refine (implC w hz hx ha hg i j k hi hj hk).mono ?_
  rintro v N ⟨res, wb, wc, hL, rfl, rfl⟩
  obtain rfl := hr _ hL
  exact ⟨wb, wc, rfl, rfl⟩
theorem refL (w : World) [Tab Tryd.prog w] {z a b0 c d : DFA} {p q p2 q2 : List Nat → Bool} (hz : Valid z) (ha : InL z a p) (hb : InL z b0 q) (hc : InL z c p2) (hd : InL z d q2) (j1 j2 j3 j4 : DK) (hj1 : At w a j1) (hj2 : At w b0 j2) (hj3 : At w c j3) (hj4 : At w d j4) {r : Option (List Nat)} (hr : ∀ res, LeastA (opD orB (opD minusB c a) (opD minusB (satD a b0) (satD c d))) res → res = r) :
    PureT Tryd.prog 13 [cV a b0 j1 j2, cV c d j3 j4] w fun v N => ∃ wb wc, v = .tuple #[.slice wb (r.getD []).length wc, .bool (!r.isSome), .int .i64 0] ∧ N = [rowI wb wc 5 1 (byts (r.getD []))] := by
  refine (refC w hz ha hb hc hd j1 j2 j3 j4 hj1 hj2 hj3 hj4).mono ?_
  rintro v N ⟨res, wb, wc, hL, rfl, rfl⟩
  obtain rfl := hr _ hL
  exact ⟨wb, wc, rfl, rfl⟩
theorem meetX (w : World) [Tab Tryd.prog w] {z a b c d : DFA} {p q p2 q2 : List Nat → Bool} (hz : Valid z) (ha : InL z a p) (hb : InL z b q) (hc : InL z c p2) (hd : InL z d q2) (j1 j2 j3 j4 : DK) (hj1 : At w a j1) (hj2 : At w b j2) (hj3 : At w c j3) (hj4 : At w d j4) {X Y : DFA} (e1 : (opD orB a c) = X) (e2 : (opD andB (satD a b) (satD c d)) = Y) :
    PureT Tryd.prog 20 [cV a b j1 j2, cV c d j3 j4] w fun v N => ∃ k1 k2 : DK, v = .tuple #[cV X Y k1 k2, .int .i64 0] ∧ N = [dI 54 4 3 X k1, dI 54 4 3 Y k2] := by
  subst e1 e2
  exact meetC w hz ha hb hc hd j1 j2 j3 j4 hj1 hj2 hj3 hj4
theorem joinX (w : World) [Tab Tryd.prog w] {z a b c d : DFA} {p q p2 q2 : List Nat → Bool} (hz : Valid z) (ha : InL z a p) (hb : InL z b q) (hc : InL z c p2) (hd : InL z d q2) (j1 j2 j3 j4 : DK) (hj1 : At w a j1) (hj2 : At w b j2) (hj3 : At w c j3) (hj4 : At w d j4) {X Y : DFA} (e1 : (opD andB a c) = X) (e2 : (opD orB (satD a b) (satD c d)) = Y) :
    PureT Tryd.prog 21 [cV a b j1 j2, cV c d j3 j4] w fun v N => ∃ k1 k2 : DK, v = .tuple #[cV X Y k1 k2, .int .i64 0] ∧ N = [dI 54 4 3 X k1, dI 54 4 3 Y k2] := by
  subst e1 e2
  exact joinC w hz ha hb hc hd j1 j2 j3 j4 hj1 hj2 hj3 hj4
theorem compX (w : World) [Tab Tryd.prog w] {z a b c d : DFA} {p q p2 q2 : List Nat → Bool} (hz : Valid z) (ha : InL z a p) (hb : InL z b q) (hc : InL z c p2) (hd : InL z d q2) (j1 j2 j3 j4 : DK) (hj1 : At w a j1) (hj2 : At w b j2) (hj3 : At w c j3) (hj4 : At w d j4) {X Y : DFA} (e1 : (opD orB (opD andB a c) (notD (opD andB (satD a b) (satD c d)))) = X) (e2 : (opD andB (satD a b) (satD c d)) = Y) :
    PureT Tryd.prog 16 [cV a b j1 j2, cV c d j3 j4] w fun v N => ∃ k1 k2 : DK, v = .tuple #[cV X Y k1 k2, .int .i64 0] ∧ N = [dI 54 4 3 X k1, dI 54 4 3 Y k2] := by
  subst e1 e2
  exact compC w hz ha hb hc hd j1 j2 j3 j4 hj1 hj2 hj3 hj4
theorem satX (w : World) [Tab Tryd.prog w] {z a b : DFA} {p q : List Nat → Bool} (hz : Valid z) (ha : InL z a p) (hb : InL z b q) (j1 j2 : DK) (hj1 : At w a j1) (hj2 : At w b j2) {X Y : DFA} (e1 : minD a = X) (e2 : satD a b = Y) :
    PureT Tryd.prog 23 [cV a b j1 j2] w fun v N => ∃ k1 k2 : DK, v = .tuple #[cV X Y k1 k2, .int .i64 0] ∧ N = [dI 54 4 3 X k1, dI 54 4 3 Y k2] := by
  subst e1 e2
  exact satC w hz ha hb j1 j2 hj1 hj2
theorem chk7 (w : World) [Tab Tryd.prog w] (a g : DFA) (j k : DK) (ha : At w a j) (hg : At w g k) (ba : Valid a) (bg : Valid g) (e : cE a g = 7) :
    PureT Tryd.prog 27 [cV a g j k] w fun v N => v = .int .i64 7 ∧ N = [] := by
  have h := conCheck w a g j k ha hg ⟨by have := ba.n4; omega, ba.bound, by have := ba.fin; have := ba.n4; omega⟩ ⟨by have := bg.n4; omega, bg.bound, by have := bg.fin; have := bg.n4; omega⟩
  rw [e] at h
  exact h
set_option maxHeartbeats 8000000 in
set_option maxRecDepth 20000 in
theorem awakeC (w : World) [Tab Tryd.prog w] :
    PureT Tryd.prog 15 [] w fun v N => v = .bool true ∧ N = [] := by
  refine CallT.enter Tryd.func15 rfl Tryd.ntmps15 rfl ?_
  obtain ⟨z, dO, dS, dA, dB, mS, mT, mV, h⟩ := aw_x
  refine T.seq (T.region ?_)
  refine TO.quiet (q_assign rfl) ?_
  refine TO.nil (T.seq (T.region ?_))
  have hk25 := fun (w1 : World) (hI : Inv w [] w1) => (haveI := Inv.tab (P := Tryd.prog) hI; onesE w1 h.eO)
  refine TO.loud rfl (l_call ent34 (CallT.of_pure hk25) rfl ?_)
  clear hk25
  rintro vr O' ⟨N, rfl, k1, rfl, rfl⟩
  have hk26 := fun (w1 : World) (hI : Inv w [dI 54 4 3 dO k1] w1) => (haveI := Inv.tab (P := Tryd.prog) hI; shortE w1 h.eS)
  refine TO.loud rfl (l_call ent35 (CallT.of_pure hk26) rfl ?_)
  clear hk26
  rintro vr O' ⟨N, rfl, k2, rfl, rfl⟩
  refine TO.quiet (q_build (cs := (cC dO dS k1 k2)) plan27 inf27 (by kernel_rfl)) ?_
  refine TO.loud rfl (l_alloc inf27 rfl (fun z1 => ?_))
  refine TO.loud rfl (l_store_box (v := (cV dO dS k1 k2)) (vs := (cC dO dS k1 k2)) 0 inf27 rfl rfl rfl rfl rfl rfl (by simp [putL]) ?_)
  refine TO.nil (T.seq (T.region ?_))
  refine TO.quiet (q_load_boxAgg 0 Tryd.underlying27 rfl inf27 rfl rfl rfl) ?_
  have hk30 := fun (w1 : World) (hI : Inv w [oI z1 27 (cC dO dS k1 k2), dI 54 4 3 dS k2, dI 54 4 3 dO k1] w1) => (haveI := Inv.tab (P := Tryd.prog) hI; satX w1 h.hz h.o h.s k1 k2 (hI.at (k := k1) (List.mem_of_getElem? (i := 2) rfl)) (hI.at (k := k2) (List.mem_of_getElem? (i := 1) rfl)) h.eM h.eSat)
  refine TO.loud rfl (l_call ent23 (CallT.of_pure hk30) rfl ?_)
  clear hk30
  rintro vr O' ⟨N, rfl, k3, k4, rfl, rfl⟩
  refine TO.quiet (q_move rfl) (TO.quiet (q_extract (vs := _) rfl rfl) (TO.quiet (q_extract (vs := _) rfl rfl) ?_))
  refine TO.loud rfl (l_alloc inf27 rfl (fun z2 => ?_))
  refine TO.loud rfl (l_store_box (v := (cV dO mS k3 k4)) (vs := (cC dO mS k3 k4)) 0 inf27 rfl rfl rfl rfl rfl rfl (by simp [putL]) ?_)
  refine TO.quiet (q_assign rfl) ?_
  refine TO.nil (T.seq ?_)
  refine T.draws [oI z1 27 (cC dO dS k1 k2)] [(1, 0), (0, 1), (2, 1), (3, 0), (4, 0), (5, 0), (6, 0), (7, 0), (8, 0), (9, 0)] mixed (by kernel_rfl) (by exact Sub.d (.d (.d (.k .z)))) (fun _ _ _ h => h) ?_
  refine DO.quiet rfl (q_load_boxAgg 0 Tryd.underlying27 rfl inf27 rfl rfl rfl) ?_
  have hk34 := fun (w1 : World) (hI : Inv w [oI z2 27 (cC dO mS k3 k4), dI 54 4 3 dO k3, dI 54 4 3 mS k4, oI z1 27 (cC dO dS k1 k2), dI 54 4 3 dS k2, dI 54 4 3 dO k1] w1) => (haveI := Inv.tab (P := Tryd.prog) hI; shortE w1 h.eS)
  refine DO.loud rfl rfl (l_call ent35 (CallT.of_pure hk34) rfl ?_)
  clear hk34
  rintro vr O' ⟨N, rfl, k5, rfl, rfl⟩
  refine ⟨by exact Sub.d (.d (.d (.d (.k .z)))), ?_⟩
  have hk36 := fun (w1 : World) (hI : Inv w [dI 54 4 3 dS k5, oI z2 27 (cC dO mS k3 k4), dI 54 4 3 dO k3, dI 54 4 3 mS k4, oI z1 27 (cC dO dS k1 k2), dI 54 4 3 dS k2, dI 54 4 3 dO k1] w1) => (haveI := Inv.tab (P := Tryd.prog) hI; implL w1 h.hz h.s h.o h.s k5 k1 k2 (hI.at (k := k5) (List.mem_of_getElem? (i := 0) rfl)) (hI.at (k := k1) (List.mem_of_getElem? (i := 6) rfl)) (hI.at (k := k2) (List.mem_of_getElem? (i := 5) rfl)) h.i1)
  refine DO.loud rfl rfl (l_call ent12 (CallT.of_pure hk36) rfl ?_)
  clear hk36
  rintro vr O' ⟨N, rfl, wb1, wc1, rfl, rfl⟩
  refine ⟨by exact Sub.d (.d (.d (.d (.d (.k .z))))), ?_⟩
  refine DO.quiet rfl (q_move rfl) (DO.quiet rfl (q_extract (vs := _) rfl rfl) (DO.quiet rfl (q_extract (vs := _) rfl rfl) (DO.quiet rfl (q_extract (vs := _) rfl rfl) ?_)))
  refine DO.quiet rfl (q_assign rfl) (DO.quiet rfl (q_assign rfl) (DO.quiet rfl (q_assign rfl) ?_))
  refine DO.done ?_
  refine T.seq ?_
  refine T.draws [oI z1 27 (cC dO dS k1 k2)] [(1, 0), (0, 1), (2, 1), (3, 0), (4, 0), (5, 0), (6, 0), (7, 0), (8, 0), (9, 0)] mixed (by kernel_rfl) (by exact Sub.d (.d (.d (.d (.d (.k .z)))))) (fun _ _ _ h => h) ?_
  refine DO.quiet rfl (q_load_boxAgg 0 Tryd.underlying27 rfl inf27 rfl rfl rfl) ?_
  have hk41 := fun (w1 : World) (hI : Inv w [rowI wb1 wc1 5 1 (byts []), dI 54 4 3 dS k5, oI z2 27 (cC dO mS k3 k4), dI 54 4 3 dO k3, dI 54 4 3 mS k4, oI z1 27 (cC dO dS k1 k2), dI 54 4 3 dS k2, dI 54 4 3 dO k1] w1) => (haveI := Inv.tab (P := Tryd.prog) hI; all1E w1 h.eA)
  refine DO.loud rfl rfl (l_call ent36 (CallT.of_pure hk41) rfl ?_)
  clear hk41
  rintro vr O' ⟨N, rfl, k6, rfl, rfl⟩
  refine ⟨by exact Sub.d (.d (.d (.d (.d (.d (.k .z)))))), ?_⟩
  have hk43 := fun (w1 : World) (hI : Inv w [dI 54 4 3 dA k6, rowI wb1 wc1 5 1 (byts []), dI 54 4 3 dS k5, oI z2 27 (cC dO mS k3 k4), dI 54 4 3 dO k3, dI 54 4 3 mS k4, oI z1 27 (cC dO dS k1 k2), dI 54 4 3 dS k2, dI 54 4 3 dO k1] w1) => (haveI := Inv.tab (P := Tryd.prog) hI; implL w1 h.hz h.a h.o h.s k6 k1 k2 (hI.at (k := k6) (List.mem_of_getElem? (i := 0) rfl)) (hI.at (k := k1) (List.mem_of_getElem? (i := 8) rfl)) (hI.at (k := k2) (List.mem_of_getElem? (i := 7) rfl)) h.i2)
  refine DO.loud rfl rfl (l_call ent12 (CallT.of_pure hk43) rfl ?_)
  clear hk43
  rintro vr O' ⟨N, rfl, wb2, wc2, rfl, rfl⟩
  refine ⟨by exact Sub.d (.d (.d (.d (.d (.d (.d (.k .z))))))), ?_⟩
  refine DO.quiet rfl (q_move rfl) (DO.quiet rfl (q_extract (vs := _) rfl rfl) (DO.quiet rfl (q_extract (vs := _) rfl rfl) (DO.quiet rfl (q_extract (vs := _) rfl rfl) ?_)))
  refine DO.quiet rfl (q_assign rfl) (DO.quiet rfl (q_assign rfl) (DO.quiet rfl (q_assign rfl) ?_))
  refine DO.sub (O' := [rowI wb2 wc2 5 1 (byts [1, 1]), rowI wb1 wc1 5 1 (byts []), oI z2 27 (cC dO mS k3 k4), dI 54 4 3 dO k3, dI 54 4 3 mS k4, oI z1 27 (cC dO dS k1 k2), dI 54 4 3 dS k2, dI 54 4 3 dO k1]) (by exact Sub.k (.d (.k (.d (.k (.k (.k (.k (.k (.k .z)))))))))) ?_
  refine DO.done ?_
  refine T.seq (T.seq ?_)
  refine T.draws [oI z2 27 (cC dO mS k3 k4), oI z1 27 (cC dO dS k1 k2)] [(0, 0), (1, 0), (2, 0), (3, 0), (4, 0), (5, 1), (6, 1), (7, 0), (8, 0), (9, 0), (10, 0), (11, 1), (12, 1), (13, 0), (14, 0), (15, 0), (16, 0), (17, 0), (18, 1), (19, 1), (20, 0), (21, 0), (22, 0), (23, 0), (24, 0), (25, 1), (26, 1), (27, 0), (28, 0), (29, 0), (30, 0), (31, 0), (32, 0), (33, 1), (34, 0), (35, 0), (36, 0), (37, 0), (38, 0), (39, 0), (40, 1), (41, 2), (42, 2), (43, 2)] mixed (drawF_ok (by kernel_rfl)) (by exact Sub.d (.d (.k (.d (.d (.k .z)))))) (fun _ _ _ h => h) ?_
  refine DO.quiet rfl (q_move rfl) (DO.quiet rfl (QT.toB (q_neq rfl rfl) (decide_eq_false (fun h => h rfl))) (DO.quiet rfl (q_move rfl) ?_))
  refine DO.guarded rfl rfl rfl (q_fieldAddr Tryd.underlying27 rfl inf25 rfl rfl) ?_
  refine DO.guarded rfl rfl rfl (q_load_part 0 (vs := (dC mS k4)) Tryd.underlying25 rfl inf25 rfl rfl rfl rfl) ?_
  refine DO.loudG rfl rfl rfl rfl (l_buildSlice (m := 2) (parts := [(0, .const (.int .u8 1)), (1, .const (.int .u8 1))]) (cs := [.int .u8 1, .int .u8 1]) Tryd.underlying29 inf5 (by decide) (by kernel_rfl) rfl (fun z3 => ⟨by exact Sub.d (.d (.d (.k (.d (.d (.k .z)))))), ?_⟩))
  have hk53 := fun (w1 : World) (hI : Inv w [rowI (some ⟨z3, 0, none⟩) 2 5 1 [.int .u8 1, .int .u8 1], rowI wb2 wc2 5 1 (byts [1, 1]), rowI wb1 wc1 5 1 (byts []), oI z2 27 (cC dO mS k3 k4), dI 54 4 3 dO k3, dI 54 4 3 mS k4, oI z1 27 (cC dO dS k1 k2), dI 54 4 3 dS k2, dI 54 4 3 dO k1] w1) => (haveI := Inv.tab (P := Tryd.prog) hI; accF w1 mS k4 (hI.at (k := k4) (List.mem_of_getElem? (i := 5) rfl)) h.hS.bds (some ⟨z3, 0, none⟩) 2 [1, 1] (hI.slOf (List.mem_of_getElem? (i := 0) rfl)) (by decide) (by decide) h.s1)
  refine DO.loudG rfl rfl rfl rfl (l_call ent14 (CallT.of_pure hk53) rfl ?_)
  clear hk53
  rintro vr O' ⟨N, rfl, rfl, rfl⟩
  refine ⟨by exact Sub.d (.d (.d (.k (.d (.d (.k .z)))))), ?_⟩
  refine DO.quiet rfl (q_pick0 rfl rfl) (DO.quiet rfl (q_move rfl) ?_)
  refine DO.guarded rfl rfl rfl (q_fieldAddr Tryd.underlying27 rfl inf25 rfl rfl) ?_
  refine DO.guarded rfl rfl rfl (q_load_part 0 (vs := (dC mS k4)) Tryd.underlying25 rfl inf25 rfl rfl rfl rfl) ?_
  refine DO.loudG rfl rfl rfl rfl (l_buildSlice (m := 2) (parts := [(0, .const (.int .u8 0)), (1, .const (.int .u8 0))]) (cs := [.int .u8 0, .int .u8 0]) Tryd.underlying29 inf5 (by decide) (by kernel_rfl) rfl (fun z4 => ⟨by exact Sub.d (.d (.d (.d (.k (.d (.d (.k .z))))))), ?_⟩))
  have hk59 := fun (w1 : World) (hI : Inv w [rowI (some ⟨z4, 0, none⟩) 2 5 1 [.int .u8 0, .int .u8 0], rowI (some ⟨z3, 0, none⟩) 2 5 1 [.int .u8 1, .int .u8 1], rowI wb2 wc2 5 1 (byts [1, 1]), rowI wb1 wc1 5 1 (byts []), oI z2 27 (cC dO mS k3 k4), dI 54 4 3 dO k3, dI 54 4 3 mS k4, oI z1 27 (cC dO dS k1 k2), dI 54 4 3 dS k2, dI 54 4 3 dO k1] w1) => (haveI := Inv.tab (P := Tryd.prog) hI; accF w1 mS k4 (hI.at (k := k4) (List.mem_of_getElem? (i := 6) rfl)) h.hS.bds (some ⟨z4, 0, none⟩) 2 [0, 0] (hI.slOf (List.mem_of_getElem? (i := 0) rfl)) (by decide) (by decide) h.s2)
  refine DO.loudG rfl rfl rfl rfl (l_call ent14 (CallT.of_pure hk59) rfl ?_)
  clear hk59
  rintro vr O' ⟨N, rfl, rfl, rfl⟩
  refine ⟨by exact Sub.d (.d (.d (.d (.k (.d (.d (.k .z))))))), ?_⟩
  refine DO.guarded rfl rfl rfl (q_not rfl) ?_
  refine DO.quiet rfl (q_pick0 rfl rfl) (DO.quiet rfl (q_move rfl) ?_)
  refine DO.guarded rfl rfl rfl (q_fieldAddr Tryd.underlying27 rfl inf25 rfl rfl) ?_
  refine DO.guarded rfl rfl rfl (q_load_part 0 (vs := (dC mS k4)) Tryd.underlying25 rfl inf25 rfl rfl rfl rfl) ?_
  refine DO.loudG rfl rfl rfl rfl (l_build1 (v := .int .u8 1) Tryd.underlying29 inf5 rfl rfl rfl (fun z5 => ⟨by exact Sub.d (.d (.d (.d (.d (.k (.d (.d (.k .z)))))))), ?_⟩))
  have hk66 := fun (w1 : World) (hI : Inv w [rowI (some ⟨z5, 0, none⟩) 1 5 1 [.int .u8 1], rowI (some ⟨z4, 0, none⟩) 2 5 1 [.int .u8 0, .int .u8 0], rowI (some ⟨z3, 0, none⟩) 2 5 1 [.int .u8 1, .int .u8 1], rowI wb2 wc2 5 1 (byts [1, 1]), rowI wb1 wc1 5 1 (byts []), oI z2 27 (cC dO mS k3 k4), dI 54 4 3 dO k3, dI 54 4 3 mS k4, oI z1 27 (cC dO dS k1 k2), dI 54 4 3 dS k2, dI 54 4 3 dO k1] w1) => (haveI := Inv.tab (P := Tryd.prog) hI; accF w1 mS k4 (hI.at (k := k4) (List.mem_of_getElem? (i := 7) rfl)) h.hS.bds (some ⟨z5, 0, none⟩) 1 [1] (hI.slOf (List.mem_of_getElem? (i := 0) rfl)) (by decide) (by decide) h.s3)
  refine DO.loudG rfl rfl rfl rfl (l_call ent14 (CallT.of_pure hk66) rfl ?_)
  clear hk66
  rintro vr O' ⟨N, rfl, rfl, rfl⟩
  refine ⟨by exact Sub.d (.d (.d (.d (.d (.k (.d (.d (.k .z)))))))), ?_⟩
  refine DO.guarded rfl rfl rfl (q_not rfl) ?_
  refine DO.quiet rfl (q_pick0 rfl rfl) (DO.quiet rfl (q_move rfl) ?_)
  refine DO.guarded rfl rfl rfl (q_fieldAddr Tryd.underlying27 rfl inf25 rfl rfl) ?_
  refine DO.guarded rfl rfl rfl (q_load_part 0 (vs := (dC dO k3)) Tryd.underlying25 rfl inf25 rfl rfl rfl rfl) ?_
  have hk72 := fun (w1 : World) (hI : Inv w [rowI (some ⟨z5, 0, none⟩) 1 5 1 [.int .u8 1], rowI (some ⟨z4, 0, none⟩) 2 5 1 [.int .u8 0, .int .u8 0], rowI (some ⟨z3, 0, none⟩) 2 5 1 [.int .u8 1, .int .u8 1], rowI wb2 wc2 5 1 (byts [1, 1]), rowI wb1 wc1 5 1 (byts []), oI z2 27 (cC dO mS k3 k4), dI 54 4 3 dO k3, dI 54 4 3 mS k4, oI z1 27 (cC dO dS k1 k2), dI 54 4 3 dS k2, dI 54 4 3 dO k1] w1) => (haveI := Inv.tab (P := Tryd.prog) hI; onesE w1 h.eO)
  refine DO.loudG rfl rfl rfl rfl (l_call ent34 (CallT.of_pure hk72) rfl ?_)
  clear hk72
  rintro vr O' ⟨N, rfl, k11, rfl, rfl⟩
  refine ⟨by exact Sub.d (.d (.d (.d (.d (.d (.k (.d (.d (.k .z))))))))), ?_⟩
  have hk73 := fun (w1 : World) (hI : Inv w [dI 54 4 3 dO k11, rowI (some ⟨z5, 0, none⟩) 1 5 1 [.int .u8 1], rowI (some ⟨z4, 0, none⟩) 2 5 1 [.int .u8 0, .int .u8 0], rowI (some ⟨z3, 0, none⟩) 2 5 1 [.int .u8 1, .int .u8 1], rowI wb2 wc2 5 1 (byts [1, 1]), rowI wb1 wc1 5 1 (byts []), oI z2 27 (cC dO mS k3 k4), dI 54 4 3 dO k3, dI 54 4 3 mS k4, oI z1 27 (cC dO dS k1 k2), dI 54 4 3 dS k2, dI 54 4 3 dO k1] w1) => (haveI := Inv.tab (P := Tryd.prog) hI; equalK w1 dO k3 k11 (hI.at (k := k3) (List.mem_of_getElem? (i := 7) rfl)) (hI.at (k := k11) (List.mem_of_getElem? (i := 0) rfl)) h.o.bds)
  refine DO.loudG rfl rfl rfl rfl (l_call ent37 (CallT.of_pure hk73) rfl ?_)
  clear hk73
  rintro vr O' ⟨N, rfl, rfl, rfl⟩
  refine ⟨by exact Sub.d (.d (.d (.d (.d (.d (.k (.d (.d (.k .z))))))))), ?_⟩
  refine DO.guarded rfl rfl rfl (q_not rfl) ?_
  refine DO.quiet rfl (q_pick0 rfl rfl) (DO.quiet rfl (q_move rfl) ?_)
  refine DO.guarded rfl rfl rfl (q_move rfl) ?_
  refine DO.guarded rfl rfl rfl (q_move rfl) ?_
  refine DO.guarded rfl rfl rfl (q_move rfl) ?_
  have hk80 := fun (w1 : World) (hI : Inv w [dI 54 4 3 dO k11, rowI (some ⟨z5, 0, none⟩) 1 5 1 [.int .u8 1], rowI (some ⟨z4, 0, none⟩) 2 5 1 [.int .u8 0, .int .u8 0], rowI (some ⟨z3, 0, none⟩) 2 5 1 [.int .u8 1, .int .u8 1], rowI wb2 wc2 5 1 (byts [1, 1]), rowI wb1 wc1 5 1 (byts []), oI z2 27 (cC dO mS k3 k4), dI 54 4 3 dO k3, dI 54 4 3 mS k4, oI z1 27 (cC dO dS k1 k2), dI 54 4 3 dS k2, dI 54 4 3 dO k1] w1) => (haveI := Inv.tab (P := Tryd.prog) hI; isC w1 wb1 none wc1 0 [] (hI.slOf (List.mem_of_getElem? (i := 5) rfl)) (Sl.nil _ _) (by decide) true)
  refine DO.loudG rfl rfl rfl rfl (l_call ent38 (CallT.of_pure hk80) rfl ?_)
  clear hk80
  rintro vr O' ⟨N, rfl, rfl, rfl⟩
  refine ⟨by exact Sub.d (.d (.d (.d (.d (.d (.k (.d (.d (.k .z))))))))), ?_⟩
  refine DO.guarded rfl rfl rfl (q_not rfl) ?_
  refine DO.quiet rfl (q_pick0 rfl rfl) (DO.quiet rfl (q_move rfl) ?_)
  refine DO.guarded rfl rfl rfl (q_move rfl) ?_
  refine DO.guarded rfl rfl rfl (q_move rfl) ?_
  refine DO.guarded rfl rfl rfl (q_move rfl) ?_
  refine DO.loudG rfl rfl rfl rfl (l_buildSlice (m := 2) (parts := [(0, .const (.int .u8 1)), (1, .const (.int .u8 1))]) (cs := [.int .u8 1, .int .u8 1]) Tryd.underlying29 inf5 (by decide) (by kernel_rfl) rfl (fun z6 => ⟨by exact Sub.d (.d (.d (.d (.d (.d (.d (.k (.d (.d (.k .z)))))))))), ?_⟩))
  have hk88 := fun (w1 : World) (hI : Inv w [rowI (some ⟨z6, 0, none⟩) 2 5 1 [.int .u8 1, .int .u8 1], dI 54 4 3 dO k11, rowI (some ⟨z5, 0, none⟩) 1 5 1 [.int .u8 1], rowI (some ⟨z4, 0, none⟩) 2 5 1 [.int .u8 0, .int .u8 0], rowI (some ⟨z3, 0, none⟩) 2 5 1 [.int .u8 1, .int .u8 1], rowI wb2 wc2 5 1 (byts [1, 1]), rowI wb1 wc1 5 1 (byts []), oI z2 27 (cC dO mS k3 k4), dI 54 4 3 dO k3, dI 54 4 3 mS k4, oI z1 27 (cC dO dS k1 k2), dI 54 4 3 dS k2, dI 54 4 3 dO k1] w1) => (haveI := Inv.tab (P := Tryd.prog) hI; isC w1 wb2 (some ⟨z6, 0, none⟩) wc2 2 [1, 1] (hI.slOf (List.mem_of_getElem? (i := 5) rfl)) (hI.slOf (List.mem_of_getElem? (i := 0) rfl)) (by decide) false)
  refine DO.lastG rfl rfl rfl rfl (l_call ent38 (CallT.of_pure hk88) rfl ?_)
  clear hk88
  rintro vr O' ⟨N, rfl, rfl, rfl⟩
  refine DO.lastG rfl rfl rfl rfl (LT.of_quiet rfl rfl (q_not rfl) ?_)
  refine DO.last rfl rfl (LT.of_quiet rfl rfl (q_pick0 rfl rfl) ?_)
  refine DO.sub (O' := [oI z1 27 (cC dO dS k1 k2), dI 54 4 3 dS k2, dI 54 4 3 dO k1]) (by exact Sub.d (.d (.d (.d (.d (.d (.d (.d (.d (.d (.k (.k (.k .z))))))))))))) ?_
  refine DO.done ?_
  refine T.cond0 rfl ?_
  refine T.skip (T.seq (T.region ?_))
  have hk91 := fun (w1 : World) (hI : Inv w [oI z1 27 (cC dO dS k1 k2), dI 54 4 3 dS k2, dI 54 4 3 dO k1] w1) => (haveI := Inv.tab (P := Tryd.prog) hI; onesE w1 h.eO)
  refine TO.loud rfl (l_call ent34 (CallT.of_pure hk91) rfl ?_)
  clear hk91
  rintro vr O' ⟨N, rfl, k7, rfl, rfl⟩
  have hk92 := fun (w1 : World) (hI : Inv w [dI 54 4 3 dO k7, oI z1 27 (cC dO dS k1 k2), dI 54 4 3 dS k2, dI 54 4 3 dO k1] w1) => (haveI := Inv.tab (P := Tryd.prog) hI; all1E w1 h.eA)
  refine TO.loud rfl (l_call ent36 (CallT.of_pure hk92) rfl ?_)
  clear hk92
  rintro vr O' ⟨N, rfl, k8, rfl, rfl⟩
  refine TO.quiet (q_build (cs := (cC dO dA k7 k8)) plan27 inf27 (by kernel_rfl)) ?_
  refine TO.loud rfl (l_alloc inf27 rfl (fun z7 => ?_))
  refine TO.loud rfl (l_store_box (v := (cV dO dA k7 k8)) (vs := (cC dO dA k7 k8)) 0 inf27 rfl rfl rfl rfl rfl rfl (by simp [putL]) ?_)
  refine TO.nil (T.seq (T.region ?_))
  have hk94 := fun (w1 : World) (hI : Inv w [oI z7 27 (cC dO dA k7 k8), dI 54 4 3 dA k8, dI 54 4 3 dO k7, oI z1 27 (cC dO dS k1 k2), dI 54 4 3 dS k2, dI 54 4 3 dO k1] w1) => (haveI := Inv.tab (P := Tryd.prog) hI; all1E w1 h.eA)
  refine TO.loud rfl (l_call ent36 (CallT.of_pure hk94) rfl ?_)
  clear hk94
  rintro vr O' ⟨N, rfl, k9, rfl, rfl⟩
  have hk95 := fun (w1 : World) (hI : Inv w [dI 54 4 3 dA k9, oI z7 27 (cC dO dA k7 k8), dI 54 4 3 dA k8, dI 54 4 3 dO k7, oI z1 27 (cC dO dS k1 k2), dI 54 4 3 dS k2, dI 54 4 3 dO k1] w1) => (haveI := Inv.tab (P := Tryd.prog) hI; shortE w1 h.eS)
  refine TO.loud rfl (l_call ent35 (CallT.of_pure hk95) rfl ?_)
  clear hk95
  rintro vr O' ⟨N, rfl, k10, rfl, rfl⟩
  refine TO.quiet (q_build (cs := (cC dA dS k9 k10)) plan27 inf27 (by kernel_rfl)) ?_
  refine TO.loud rfl (l_alloc inf27 rfl (fun z8 => ?_))
  refine TO.loud rfl (l_store_box (v := (cV dA dS k9 k10)) (vs := (cC dA dS k9 k10)) 0 inf27 rfl rfl rfl rfl rfl rfl (by simp [putL]) ?_)
  refine TO.nil (T.seq (T.region ?_))
  refine TO.quiet (q_load_boxAgg 6 Tryd.underlying27 rfl inf27 rfl rfl rfl) (TO.quiet (q_load_boxAgg 3 Tryd.underlying27 rfl inf27 rfl rfl rfl) ?_)
  have hk100 := fun (w1 : World) (hI : Inv w [oI z8 27 (cC dA dS k9 k10), dI 54 4 3 dS k10, dI 54 4 3 dA k9, oI z7 27 (cC dO dA k7 k8), dI 54 4 3 dA k8, dI 54 4 3 dO k7, oI z1 27 (cC dO dS k1 k2), dI 54 4 3 dS k2, dI 54 4 3 dO k1] w1) => (haveI := Inv.tab (P := Tryd.prog) hI; refL w1 h.hz h.o h.s h.o h.a k1 k2 k7 k8 (hI.at (k := k1) (List.mem_of_getElem? (i := 8) rfl)) (hI.at (k := k2) (List.mem_of_getElem? (i := 7) rfl)) (hI.at (k := k7) (List.mem_of_getElem? (i := 5) rfl)) (hI.at (k := k8) (List.mem_of_getElem? (i := 4) rfl)) h.r1)
  refine TO.loud rfl (l_call ent13 (CallT.of_pure hk100) rfl ?_)
  clear hk100
  rintro vr O' ⟨N, rfl, wb3, wc3, rfl, rfl⟩
  refine TO.quiet (q_move rfl) (TO.quiet (q_extract (vs := _) rfl rfl) (TO.quiet (q_extract (vs := _) rfl rfl) (TO.quiet (q_extract (vs := _) rfl rfl) ?_)))
  refine TO.quiet (q_assign rfl) (TO.quiet (q_assign rfl) (TO.quiet (q_assign rfl) ?_))
  refine TO.nil (T.seq (T.region ?_))
  refine TO.quiet (q_load_boxAgg 4 Tryd.underlying27 rfl inf27 rfl rfl rfl) (TO.quiet (q_load_boxAgg 7 Tryd.underlying27 rfl inf27 rfl rfl rfl) ?_)
  have hk107 := fun (w1 : World) (hI : Inv w [rowI wb3 wc3 5 1 (byts []), oI z8 27 (cC dA dS k9 k10), dI 54 4 3 dS k10, dI 54 4 3 dA k9, oI z7 27 (cC dO dA k7 k8), dI 54 4 3 dA k8, dI 54 4 3 dO k7, oI z1 27 (cC dO dS k1 k2), dI 54 4 3 dS k2, dI 54 4 3 dO k1] w1) => (haveI := Inv.tab (P := Tryd.prog) hI; refL w1 h.hz h.o h.a h.o h.s k7 k8 k1 k2 (hI.at (k := k7) (List.mem_of_getElem? (i := 6) rfl)) (hI.at (k := k8) (List.mem_of_getElem? (i := 5) rfl)) (hI.at (k := k1) (List.mem_of_getElem? (i := 9) rfl)) (hI.at (k := k2) (List.mem_of_getElem? (i := 8) rfl)) h.r2)
  refine TO.loud rfl (l_call ent13 (CallT.of_pure hk107) rfl ?_)
  clear hk107
  rintro vr O' ⟨N, rfl, wb4, wc4, rfl, rfl⟩
  refine TO.quiet (q_move rfl) (TO.quiet (q_extract (vs := _) rfl rfl) (TO.quiet (q_extract (vs := _) rfl rfl) (TO.quiet (q_extract (vs := _) rfl rfl) ?_)))
  refine TO.quiet (q_assign rfl) (TO.quiet (q_assign rfl) (TO.quiet (q_assign rfl) ?_))
  refine TO.nil (T.seq (T.region ?_))
  refine TO.quiet (q_load_boxAgg 8 Tryd.underlying27 rfl inf27 rfl rfl rfl) (TO.quiet (q_load_boxAgg 2 Tryd.underlying27 rfl inf27 rfl rfl rfl) ?_)
  have hk114 := fun (w1 : World) (hI : Inv w [rowI wb4 wc4 5 1 (byts [1, 1]), rowI wb3 wc3 5 1 (byts []), oI z8 27 (cC dA dS k9 k10), dI 54 4 3 dS k10, dI 54 4 3 dA k9, oI z7 27 (cC dO dA k7 k8), dI 54 4 3 dA k8, dI 54 4 3 dO k7, oI z1 27 (cC dO dS k1 k2), dI 54 4 3 dS k2, dI 54 4 3 dO k1] w1) => (haveI := Inv.tab (P := Tryd.prog) hI; refL w1 h.hz h.o h.s h.a h.s k1 k2 k9 k10 (hI.at (k := k1) (List.mem_of_getElem? (i := 10) rfl)) (hI.at (k := k2) (List.mem_of_getElem? (i := 9) rfl)) (hI.at (k := k9) (List.mem_of_getElem? (i := 4) rfl)) (hI.at (k := k10) (List.mem_of_getElem? (i := 3) rfl)) h.r3)
  refine TO.loud rfl (l_call ent13 (CallT.of_pure hk114) rfl ?_)
  clear hk114
  rintro vr O' ⟨N, rfl, wb5, wc5, rfl, rfl⟩
  refine TO.quiet (q_move rfl) (TO.quiet (q_extract (vs := _) rfl rfl) (TO.quiet (q_extract (vs := _) rfl rfl) (TO.quiet (q_extract (vs := _) rfl rfl) ?_)))
  refine TO.quiet (q_assign rfl) (TO.quiet (q_assign rfl) (TO.quiet (q_assign rfl) ?_))
  refine TO.nil (T.seq (T.seq (T.region ?_)))
  refine TO.quiet (q_move rfl) (TO.quiet (q_move rfl) (TO.quiet (q_move rfl) ?_))
  have hk121 := fun (w1 : World) (hI : Inv w [rowI wb5 wc5 5 1 (byts [0]), rowI wb4 wc4 5 1 (byts [1, 1]), rowI wb3 wc3 5 1 (byts []), oI z8 27 (cC dA dS k9 k10), dI 54 4 3 dS k10, dI 54 4 3 dA k9, oI z7 27 (cC dO dA k7 k8), dI 54 4 3 dA k8, dI 54 4 3 dO k7, oI z1 27 (cC dO dS k1 k2), dI 54 4 3 dS k2, dI 54 4 3 dO k1] w1) => (haveI := Inv.tab (P := Tryd.prog) hI; isC w1 wb3 none wc3 0 [] (hI.slOf (List.mem_of_getElem? (i := 2) rfl)) (Sl.nil _ _) (by decide) true)
  refine TO.loud rfl (l_call ent38 (CallT.of_pure hk121) rfl ?_)
  clear hk121
  rintro vr O' ⟨N, rfl, rfl, rfl⟩
  refine TO.quiet (q_not rfl) (TO.quiet (q_move rfl) ?_)
  refine TO.guarded rfl rfl rfl (LT.of_quiet rfl rfl (q_move rfl) ?_)
  refine TO.guarded rfl rfl rfl (LT.of_quiet rfl rfl (q_move rfl) ?_)
  refine TO.guarded rfl rfl rfl (LT.of_quiet rfl rfl (q_move rfl) ?_)
  refine TO.guarded rfl rfl rfl (l_buildSlice (m := 2) (parts := [(0, .const (.int .u8 1)), (1, .const (.int .u8 1))]) (cs := [.int .u8 1, .int .u8 1]) Tryd.underlying29 inf5 (by decide) (by kernel_rfl) rfl (fun z9 => ?_))
  have hk128 := fun (w1 : World) (hI : Inv w [rowI (some ⟨z9, 0, none⟩) 2 5 1 [.int .u8 1, .int .u8 1], rowI wb5 wc5 5 1 (byts [0]), rowI wb4 wc4 5 1 (byts [1, 1]), rowI wb3 wc3 5 1 (byts []), oI z8 27 (cC dA dS k9 k10), dI 54 4 3 dS k10, dI 54 4 3 dA k9, oI z7 27 (cC dO dA k7 k8), dI 54 4 3 dA k8, dI 54 4 3 dO k7, oI z1 27 (cC dO dS k1 k2), dI 54 4 3 dS k2, dI 54 4 3 dO k1] w1) => (haveI := Inv.tab (P := Tryd.prog) hI; isC w1 wb4 (some ⟨z9, 0, none⟩) wc4 2 [1, 1] (hI.slOf (List.mem_of_getElem? (i := 2) rfl)) (hI.slOf (List.mem_of_getElem? (i := 0) rfl)) (by decide) false)
  refine TO.guarded rfl rfl rfl (l_call ent38 (CallT.of_pure hk128) rfl ?_)
  clear hk128
  rintro vr O' ⟨N, rfl, rfl, rfl⟩
  refine TO.guarded rfl rfl rfl (LT.of_quiet rfl rfl (q_not rfl) ?_)
  refine TO.quiet (q_pick0 rfl rfl) (TO.quiet (q_move rfl) ?_)
  refine TO.guarded rfl rfl rfl (LT.of_quiet rfl rfl (q_move rfl) ?_)
  refine TO.guarded rfl rfl rfl (LT.of_quiet rfl rfl (q_move rfl) ?_)
  refine TO.guarded rfl rfl rfl (LT.of_quiet rfl rfl (q_move rfl) ?_)
  refine TO.guarded rfl rfl rfl (l_build1 (v := .int .u8 0) Tryd.underlying29 inf5 rfl rfl rfl (fun z10 => ?_))
  have hk136 := fun (w1 : World) (hI : Inv w [rowI (some ⟨z10, 0, none⟩) 1 5 1 [.int .u8 0], rowI (some ⟨z9, 0, none⟩) 2 5 1 [.int .u8 1, .int .u8 1], rowI wb5 wc5 5 1 (byts [0]), rowI wb4 wc4 5 1 (byts [1, 1]), rowI wb3 wc3 5 1 (byts []), oI z8 27 (cC dA dS k9 k10), dI 54 4 3 dS k10, dI 54 4 3 dA k9, oI z7 27 (cC dO dA k7 k8), dI 54 4 3 dA k8, dI 54 4 3 dO k7, oI z1 27 (cC dO dS k1 k2), dI 54 4 3 dS k2, dI 54 4 3 dO k1] w1) => (haveI := Inv.tab (P := Tryd.prog) hI; isC w1 wb5 (some ⟨z10, 0, none⟩) wc5 1 [0] (hI.slOf (List.mem_of_getElem? (i := 2) rfl)) (hI.slOf (List.mem_of_getElem? (i := 0) rfl)) (by decide) false)
  refine TO.guarded rfl rfl rfl (l_call ent38 (CallT.of_pure hk136) rfl ?_)
  clear hk136
  rintro vr O' ⟨N, rfl, rfl, rfl⟩
  refine TO.guarded rfl rfl rfl (LT.of_quiet rfl rfl (q_not rfl) ?_)
  refine TO.quiet (q_pick0 rfl rfl) ?_
  refine TO.sub (O' := [oI z8 27 (cC dA dS k9 k10), dI 54 4 3 dS k10, dI 54 4 3 dA k9, oI z1 27 (cC dO dS k1 k2), dI 54 4 3 dS k2, dI 54 4 3 dO k1]) (by exact Sub.d (.d (.d (.d (.d (.k (.k (.k (.d (.d (.d (.k (.k (.k .z)))))))))))))) ?_
  refine TO.nil ?_
  refine T.cond0 rfl ?_
  refine T.skip (T.seq (T.region ?_))
  refine TO.quiet (q_load_boxAgg 3 Tryd.underlying27 rfl inf27 rfl rfl rfl) (TO.quiet (q_load_boxAgg 0 Tryd.underlying27 rfl inf27 rfl rfl rfl) ?_)
  have hk142 := fun (w1 : World) (hI : Inv w [oI z8 27 (cC dA dS k9 k10), dI 54 4 3 dS k10, dI 54 4 3 dA k9, oI z1 27 (cC dO dS k1 k2), dI 54 4 3 dS k2, dI 54 4 3 dO k1] w1) => (haveI := Inv.tab (P := Tryd.prog) hI; meetX w1 h.hz h.o h.s h.a h.s k1 k2 k9 k10 (hI.at (k := k1) (List.mem_of_getElem? (i := 5) rfl)) (hI.at (k := k2) (List.mem_of_getElem? (i := 4) rfl)) (hI.at (k := k9) (List.mem_of_getElem? (i := 2) rfl)) (hI.at (k := k10) (List.mem_of_getElem? (i := 1) rfl)) h.m1 h.m2)
  refine TO.loud rfl (l_call ent20 (CallT.of_pure hk142) rfl ?_)
  clear hk142
  rintro vr O' ⟨N, rfl, k12, k13, rfl, rfl⟩
  refine TO.quiet (q_move rfl) (TO.quiet (q_extract (vs := _) rfl rfl) (TO.quiet (q_extract (vs := _) rfl rfl) ?_))
  refine TO.loud rfl (l_alloc inf27 rfl (fun z11 => ?_))
  refine TO.loud rfl (l_store_box (v := (cV dA mT k12 k13)) (vs := (cC dA mT k12 k13)) 0 inf27 rfl rfl rfl rfl rfl rfl (by simp [putL]) ?_)
  refine TO.quiet (q_assign rfl) ?_
  refine TO.nil (T.seq (T.region ?_))
  refine TO.quiet (q_load_boxAgg 6 Tryd.underlying27 rfl inf27 rfl rfl rfl) (TO.quiet (q_load_boxAgg 6 Tryd.underlying27 rfl inf27 rfl rfl rfl) ?_)
  have hk148 := fun (w1 : World) (hI : Inv w [oI z11 27 (cC dA mT k12 k13), dI 54 4 3 dA k12, dI 54 4 3 mT k13, oI z8 27 (cC dA dS k9 k10), dI 54 4 3 dS k10, dI 54 4 3 dA k9, oI z1 27 (cC dO dS k1 k2), dI 54 4 3 dS k2, dI 54 4 3 dO k1] w1) => (haveI := Inv.tab (P := Tryd.prog) hI; compX w1 h.hz h.o h.s h.o h.s k1 k2 k1 k2 (hI.at (k := k1) (List.mem_of_getElem? (i := 8) rfl)) (hI.at (k := k2) (List.mem_of_getElem? (i := 7) rfl)) (hI.at (k := k1) (List.mem_of_getElem? (i := 8) rfl)) (hI.at (k := k2) (List.mem_of_getElem? (i := 7) rfl)) h.c1 h.c2)
  refine TO.loud rfl (l_call ent16 (CallT.of_pure hk148) rfl ?_)
  clear hk148
  rintro vr O' ⟨N, rfl, k14, k15, rfl, rfl⟩
  refine TO.quiet (q_move rfl) (TO.quiet (q_extract (vs := _) rfl rfl) (TO.quiet (q_extract (vs := _) rfl rfl) ?_))
  refine TO.loud rfl (l_alloc inf27 rfl (fun z12 => ?_))
  refine TO.loud rfl (l_store_box (v := (cV dO mV k14 k15)) (vs := (cC dO mV k14 k15)) 0 inf27 rfl rfl rfl rfl rfl rfl (by simp [putL]) ?_)
  refine TO.quiet (q_assign rfl) ?_
  refine TO.sub (O' := [oI z12 27 (cC dO mV k14 k15), dI 54 4 3 dO k14, dI 54 4 3 mV k15, oI z11 27 (cC dA mT k12 k13), dI 54 4 3 dA k12, dI 54 4 3 mT k13]) (by exact Sub.k (.k (.k (.k (.k (.k .z)))))) ?_
  refine TO.nil (T.seq ?_)
  refine T.draws [oI z12 27 (cC dO mV k14 k15), oI z11 27 (cC dA mT k12 k13)] [(0, 0), (1, 0), (2, 0), (3, 0), (4, 0), (5, 1), (6, 1), (7, 0), (8, 0), (9, 0), (10, 0), (11, 1), (12, 1), (13, 0), (14, 0), (15, 0), (16, 0), (17, 0), (18, 0), (19, 0), (20, 0), (21, 0), (22, 1), (23, 2), (24, 2), (25, 2), (26, 2), (27, 2), (28, 2), (29, 2), (30, 2), (31, 2), (32, 2)] mixed (drawF_ok (by kernel_rfl)) (by exact Sub.k (.d (.d (.k .z)))) (fun _ _ _ h => h) ?_
  refine DO.quiet rfl (q_move rfl) (DO.quiet rfl (QT.toB (q_eql rfl rfl) (decide_eq_true rfl)) (DO.quiet rfl (q_move rfl) ?_))
  refine DO.guarded rfl rfl rfl (q_fieldAddr Tryd.underlying27 rfl inf25 rfl rfl) ?_
  refine DO.guarded rfl rfl rfl (q_load_part 1 (vs := (dC dA k12)) Tryd.underlying25 rfl inf25 rfl rfl rfl rfl) ?_
  have hk156 := fun (w1 : World) (hI : Inv w [oI z12 27 (cC dO mV k14 k15), dI 54 4 3 dO k14, dI 54 4 3 mV k15, oI z11 27 (cC dA mT k12 k13), dI 54 4 3 dA k12, dI 54 4 3 mT k13] w1) => (haveI := Inv.tab (P := Tryd.prog) hI; all1E w1 h.eA)
  refine DO.loudG rfl rfl rfl rfl (l_call ent36 (CallT.of_pure hk156) rfl ?_)
  clear hk156
  rintro vr O' ⟨N, rfl, k16, rfl, rfl⟩
  refine ⟨by exact Sub.d (.k (.d (.d (.k .z)))), ?_⟩
  have hk157 := fun (w1 : World) (hI : Inv w [dI 54 4 3 dA k16, oI z12 27 (cC dO mV k14 k15), dI 54 4 3 dO k14, dI 54 4 3 mV k15, oI z11 27 (cC dA mT k12 k13), dI 54 4 3 dA k12, dI 54 4 3 mT k13] w1) => (haveI := Inv.tab (P := Tryd.prog) hI; equalK w1 dA k12 k16 (hI.at (k := k12) (List.mem_of_getElem? (i := 5) rfl)) (hI.at (k := k16) (List.mem_of_getElem? (i := 0) rfl)) h.a.bds)
  refine DO.loudG rfl rfl rfl rfl (l_call ent37 (CallT.of_pure hk157) rfl ?_)
  clear hk157
  rintro vr O' ⟨N, rfl, rfl, rfl⟩
  refine ⟨by exact Sub.d (.k (.d (.d (.k .z)))), ?_⟩
  refine DO.quiet rfl (q_pick1 rfl rfl) (DO.quiet rfl (q_move rfl) ?_)
  refine DO.guarded rfl rfl rfl (q_fieldAddr Tryd.underlying27 rfl inf25 rfl rfl) ?_
  refine DO.guarded rfl rfl rfl (q_load_part 1 (vs := (dC mT k13)) Tryd.underlying25 rfl inf25 rfl rfl rfl rfl) ?_
  refine DO.loudG rfl rfl rfl rfl (l_buildSlice (m := 2) (parts := [(0, .const (.int .u8 0)), (1, .const (.int .u8 0))]) (cs := [.int .u8 0, .int .u8 0]) Tryd.underlying29 inf5 (by decide) (by kernel_rfl) rfl (fun z13 => ⟨by exact Sub.d (.d (.k (.d (.d (.k .z))))), ?_⟩))
  have hk163 := fun (w1 : World) (hI : Inv w [rowI (some ⟨z13, 0, none⟩) 2 5 1 [.int .u8 0, .int .u8 0], dI 54 4 3 dA k16, oI z12 27 (cC dO mV k14 k15), dI 54 4 3 dO k14, dI 54 4 3 mV k15, oI z11 27 (cC dA mT k12 k13), dI 54 4 3 dA k12, dI 54 4 3 mT k13] w1) => (haveI := Inv.tab (P := Tryd.prog) hI; accF w1 mT k13 (hI.at (k := k13) (List.mem_of_getElem? (i := 7) rfl)) h.bT (some ⟨z13, 0, none⟩) 2 [0, 0] (hI.slOf (List.mem_of_getElem? (i := 0) rfl)) (by decide) (by decide) h.m3)
  refine DO.loudG rfl rfl rfl rfl (l_call ent14 (CallT.of_pure hk163) rfl ?_)
  clear hk163
  rintro vr O' ⟨N, rfl, rfl, rfl⟩
  refine ⟨by exact Sub.d (.d (.k (.d (.d (.k .z))))), ?_⟩
  refine DO.guarded rfl rfl rfl (q_not rfl) ?_
  refine DO.quiet rfl (q_pick1 rfl rfl) (DO.quiet rfl (q_move rfl) ?_)
  refine DO.guarded rfl rfl rfl (q_move rfl) ?_
  refine DO.guarded rfl rfl rfl (QT.toB (q_eql rfl rfl) (decide_eq_true rfl)) ?_
  refine DO.quiet rfl (q_pick1 rfl rfl) (DO.quiet rfl (q_move rfl) ?_)
  refine DO.guarded rfl rfl rfl (q_fieldAddr Tryd.underlying27 rfl inf25 rfl rfl) ?_
  refine DO.guarded rfl rfl rfl (q_load_part 0 (vs := (dC dO k14)) Tryd.underlying25 rfl inf25 rfl rfl rfl rfl) ?_
  have hk173 := fun (w1 : World) (hI : Inv w [rowI (some ⟨z13, 0, none⟩) 2 5 1 [.int .u8 0, .int .u8 0], dI 54 4 3 dA k16, oI z12 27 (cC dO mV k14 k15), dI 54 4 3 dO k14, dI 54 4 3 mV k15, oI z11 27 (cC dA mT k12 k13), dI 54 4 3 dA k12, dI 54 4 3 mT k13] w1) => (haveI := Inv.tab (P := Tryd.prog) hI; onesE w1 h.eO)
  refine DO.loudG rfl rfl rfl rfl (l_call ent34 (CallT.of_pure hk173) rfl ?_)
  clear hk173
  rintro vr O' ⟨N, rfl, k17, rfl, rfl⟩
  refine ⟨by exact Sub.d (.d (.d (.k (.d (.d (.k .z)))))), ?_⟩
  have hk174 := fun (w1 : World) (hI : Inv w [dI 54 4 3 dO k17, rowI (some ⟨z13, 0, none⟩) 2 5 1 [.int .u8 0, .int .u8 0], dI 54 4 3 dA k16, oI z12 27 (cC dO mV k14 k15), dI 54 4 3 dO k14, dI 54 4 3 mV k15, oI z11 27 (cC dA mT k12 k13), dI 54 4 3 dA k12, dI 54 4 3 mT k13] w1) => (haveI := Inv.tab (P := Tryd.prog) hI; equalK w1 dO k14 k17 (hI.at (k := k14) (List.mem_of_getElem? (i := 4) rfl)) (hI.at (k := k17) (List.mem_of_getElem? (i := 0) rfl)) h.o.bds)
  refine DO.lastG rfl rfl rfl rfl (l_call ent37 (CallT.of_pure hk174) rfl ?_)
  clear hk174
  rintro vr O' ⟨N, rfl, rfl, rfl⟩
  refine DO.last rfl rfl (LT.of_quiet rfl rfl (q_pick1 rfl rfl) ?_)
  refine DO.last rfl rfl (LT.of_quiet rfl rfl (q_move rfl) ?_)
  have hk177 := fun (w1 : World) (hI : Inv w [dI 54 4 3 dO k17, rowI (some ⟨z13, 0, none⟩) 2 5 1 [.int .u8 0, .int .u8 0], dI 54 4 3 dA k16, oI z12 27 (cC dO mV k14 k15), dI 54 4 3 dO k14, dI 54 4 3 mV k15, oI z11 27 (cC dA mT k12 k13), dI 54 4 3 dA k12, dI 54 4 3 mT k13] w1) => (haveI := Inv.tab (P := Tryd.prog) hI; all1E w1 h.eA)
  refine DO.lastG rfl rfl rfl rfl (l_call ent36 (CallT.of_pure hk177) rfl ?_)
  clear hk177
  rintro vr O' ⟨N, rfl, k18, rfl, rfl⟩
  have hk178 := fun (w1 : World) (hI : Inv w [dI 54 4 3 dA k18, dI 54 4 3 dO k17, rowI (some ⟨z13, 0, none⟩) 2 5 1 [.int .u8 0, .int .u8 0], dI 54 4 3 dA k16, oI z12 27 (cC dO mV k14 k15), dI 54 4 3 dO k14, dI 54 4 3 mV k15, oI z11 27 (cC dA mT k12 k13), dI 54 4 3 dA k12, dI 54 4 3 mT k13] w1) => (haveI := Inv.tab (P := Tryd.prog) hI; all2E w1 h.eB)
  refine DO.lastG rfl rfl rfl rfl (l_call ent36 (CallT.of_pure hk178) rfl ?_)
  clear hk178
  rintro vr O' ⟨N, rfl, k19, rfl, rfl⟩
  refine DO.lastG rfl rfl rfl rfl (LT.of_quiet rfl rfl (q_build (cs := (cC dA dB k18 k19)) plan27 inf27 (by kernel_rfl)) ?_)
  have hk180 := fun (w1 : World) (hI : Inv w [dI 54 4 3 dB k19, dI 54 4 3 dA k18, dI 54 4 3 dO k17, rowI (some ⟨z13, 0, none⟩) 2 5 1 [.int .u8 0, .int .u8 0], dI 54 4 3 dA k16, oI z12 27 (cC dO mV k14 k15), dI 54 4 3 dO k14, dI 54 4 3 mV k15, oI z11 27 (cC dA mT k12 k13), dI 54 4 3 dA k12, dI 54 4 3 mT k13] w1) => (haveI := Inv.tab (P := Tryd.prog) hI; chk7 w1 dA dB k18 k19 (hI.at (k := k18) (List.mem_of_getElem? (i := 1) rfl)) (hI.at (k := k19) (List.mem_of_getElem? (i := 0) rfl)) h.a.has.valid h.vB h.e7)
  refine DO.lastG rfl rfl rfl rfl (l_call ent27 (CallT.of_pure hk180) rfl ?_)
  clear hk180
  rintro vr O' ⟨N, rfl, rfl, rfl⟩
  refine DO.lastG rfl rfl rfl rfl (LT.of_quiet rfl rfl (QT.toB (q_eql rfl rfl) (decide_eq_true rfl)) ?_)
  refine DO.last rfl rfl (LT.of_quiet rfl rfl (q_pick1 rfl rfl) ?_)
  refine DO.last rfl rfl (LT.of_quiet rfl rfl (q_assign rfl) ?_)
  refine DO.done ?_
  refine T.ret (Res.drop ?_)
  refine Res.one (.bool true) Tryd.results15 rfl ?_
  exact ⟨[], Sub.z, rfl, rfl⟩
end Go.Proofs.YtnpehjpookcfkaaDoor
