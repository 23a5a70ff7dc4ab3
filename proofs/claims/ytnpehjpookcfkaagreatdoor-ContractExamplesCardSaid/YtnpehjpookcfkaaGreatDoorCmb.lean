/- Contracts of functions of the program (C3, Run, Csm, Cml, Caw, C4, Cax, C5, Len, R12, Cz, Cmb): what each call answers and that it leaves memory as it was. Conditions: those each theorem names. -/
import Derived.Test.YtnpehjpookcfkaaGreatDoorCoreK
import Derived.Test.YtnpehjpookcfkaaGreatDoorAll
import Derived.Test.YtnpehjpookcfkaaGreatDoorC2
import Derived.Test.YtnpehjpookcfkaaGreatDoorRn
import Derived.Test.YtnpehjpookcfkaaGreatDoorBol7
set_option linter.unusedSectionVars false
set_option linter.unusedSimpArgs false
set_option linter.unusedVariables false
set_option linter.unnecessarySimpa false
set_option maxHeartbeats 8000000
set_option maxRecDepth 20000
namespace Go.Proofs.YtnpehjpookcfkaaGreatDoor
open Go.Lx Go.RowKit _root_.Go.Proofs.Tryz
theorem implC (w : World) [Tab Tryz.prog w] {z x a g : DFA} {px p q : List Nat → Bool} (hz : Valid z) (hx : InL z x px) (ha : InL z a p) (hg : InL z g q) (i j k : DK) (hi : At w x i) (hj : At w a j) (hk : At w g k) :
  PureT Tryz.prog 12 [dV x i, cV a g j k] w fun v N => ∃ res wb wc, LeastA (opD minusB (opD andB x a) g) res ∧ v = .tuple #[.slice wb (res.getD []).length wc, .bool (!res.isSome), vI 0] ∧ N = [rowI wb wc 5 1 (byts (res.getD []))] := by
 refine CallT.enter func12 rfl ntmps12 rfl ?_
 have hm1 := (InL.op (f := andB) hz hx ha).2
 obtain ⟨m1, em1⟩ : ∃ m, opD andB x a = m := ⟨_, rfl⟩
 rw [em1] at hm1
 have hm2 := (InL.op (f := minusB) hz hm1 hg).2
 obtain ⟨m2, em2⟩ : ∃ m, opD minusB m1 g = m := ⟨_, rfl⟩
 rw [em2] at hm2
 refine T.s (T.rg (TO.l rfl (l_box (v := (dV x i)) (cs := (dC x i)) rfl rfl (fun y1 => ?_))))
 refine TO.l rfl (l_box (v := (cV a g j k)) (cs := (cC a g j k)) rfl rfl (fun y2 => ?_))
 refine TO.qa rfl (TO.qa rfl (TO.qa rfl (TO.nl (T.s (T.s (T.rg (TO.q (q_la 1 uT25 rfl inf25 rfl rfl rfl) ?_)))))))
 refine TO.l rfl (l_call ent33 (CallT.op fun w1 hI => (haveI := tbz hI; (show PureT _ _ _ _ _ from by
   have h9 := subsetCheck w1 x i.nb i.fb i.nc i.fc (vals i.qs) (hI.dfa hi) hx.bds.1 hx.bds.2.1 hx.bds.2.2
   rw [checkD_zero.2 hx.has.valid] at h9
   exact h9))) rfl ?_)
 rintro vr O' ⟨N, rfl, rfl, rfl⟩
 refine TO.qa rfl (TO.nl (T.s (T.rg (TO.qm rfl (TO.q (QT.toB (q_neq rfl rfl) (decide_eq_false (fun h => h rfl))) (TO.nl (T.cond0 rfl (T.skip (T.s (T.s (T.rg (TO.q (q_la 0 uT27 rfl inf27 rfl rfl rfl) ?_))))))))))))
 refine TO.l rfl (l_call ent8 (CallT.op fun w1 hI => (haveI := tbz hI; (show PureT _ _ _ _ _ from by
   have h9 := conCheck w1 a g j k (hI.atB hj) (hI.atB hk) ha.bds hg.bds
   rw [cE_ok (checkD_zero.2 ha.has.valid) (checkD_zero.2 hg.has.valid) (by rw [ha.has.vars, hg.has.vars])] at h9
   exact h9))) rfl ?_)
 rintro vr O' ⟨N, rfl, rfl, rfl⟩
 refine TO.qa rfl (TO.nl (T.s (T.rg (TO.qm rfl (TO.q (QT.toB (q_neq rfl rfl) (decide_eq_false (fun h => h rfl))) (TO.nl (T.cond0 rfl (T.skip (T.s (T.s (T.rg (TO.q (q_fa uT25 rfl inf3 rfl rfl) (TO.q (q_lb 1 uT3 rfl rfl rfl rfl) (TO.q (q_fa uT27 rfl inf25 rfl rfl) (TO.q (q_fa uT25 rfl inf3 rfl rfl) (TO.q (q_lb 0 uT3 rfl rfl rfl rfl) (TO.q (QT.toB (q_neq rfl rfl) (decide_eq_false (fun h => h (by rw [hx.has.vars, ha.has.vars])))) ?_)))))))))))))))))
 refine TO.nl (T.cond0 rfl (T.skip (T.s (T.rg (TO.q (q_build plan57 inf57 rfl) (TO.l rfl (l_box (v := (.agg #[(vI 0)])) (cs := [(vI 0)]) rfl rfl (fun y3 => ?_))))))))
 refine TO.qa rfl (TO.nl (T.s (T.rg (TO.qm rfl (TO.q (q_la 2 uT25 rfl inf25 rfl rfl rfl) (TO.q (q_fa uT27 rfl inf25 rfl rfl) (TO.q (q_load_part 1 (vs := (dC a j)) uT25 rfl inf25 rfl rfl rfl rfl) (TO.l rfl (l_call ent37 (CallT.un [0] (doS w [] y3 x a i j 43 ent43 (fun w1 hI => haveI := tbz hI; andZ w1 hz hx ha i j (hI.atB hi) (hI.atB hj) em1))) rfl ?_)))))))))
 rintro vr O' ⟨A1, rfl, k1, rfl, rfl⟩
 
 refine TO.l rfl (l_alloc inf25 rfl (fun y4 => ?_))
 refine TO.l rfl (l_sb (v := (dV m1 k1)) (vs := (dC m1 k1)) 0 inf25 rfl rfl rfl rfl rfl rfl (by simp [putL]) ?_)
 refine TO.nl (T.s (T.rg (TO.qm rfl (TO.qm rfl (TO.q (q_la 0 uT25 rfl inf25 rfl rfl rfl) (TO.q (q_fa uT27 rfl inf25 rfl rfl) (TO.q (q_load_part 3 (vs := (dC g k)) uT25 rfl inf25 rfl rfl rfl rfl) (TO.l rfl (l_call ent37 (CallT.un [2, 1] (doS w [dI 48 4 3 m1 k1] y3 m1 g k1 k 45 ent45 (fun w1 hI => haveI := tbz hI; minusZ w1 hz hm1 hg k1 k (hI.at (k := k1) (mG 0 rfl)) (hI.atB hk) em2))) rfl ?_)))))))))
 rintro vr O' ⟨A1, rfl, k2, rfl, rfl⟩
 
 refine TO.l rfl (l_call ent44 (CallT.un [1, 0] (ansS w [dI 48 4 3 m2 k2] y3 m2 hm2.has.valid k2 (fun w1 hI => haveI := tbz hI; (hI.at (k := k2) (mG 0 rfl))))) rfl ?_)
 rintro vr O' ⟨A1, rfl, res, wb, wc, hL, rfl, rfl⟩
 refine TO.q (q_extract (vs := _) rfl rfl) (TO.q (q_extract (vs := _) rfl rfl) (TO.q (q_extract (vs := _) rfl rfl) (TO.qa rfl (TO.qa rfl (TO.qa rfl (TO.nl (T.ret (Res.drop ?_))))))))
 refine Res.three (.slice wb ((res.getD []).length) wc) (.bool (!res.isSome)) (vI 0) Tryz.results12 rfl rfl rfl ?_
 subst em2
 subst em1
 exact ⟨[rowI wb wc 5 1 (byts (res.getD []))], (Sub.pick [0] rfl), res, wb, wc, hL, rfl, rfl⟩
theorem refC (w : World) [Tab Tryz.prog w] {z a b c d : DFA} {p q p2 q2 : List Nat → Bool} (hz : Valid z) (ha : InL z a p) (hb : InL z b q) (hc : InL z c p2) (hd : InL z d q2) (j1 j2 j3 j4 : DK) (hj1 : At w a j1) (hj2 : At w b j2) (hj3 : At w c j3) (hj4 : At w d j4) :
  PureT Tryz.prog 20 [cV a b j1 j2, cV c d j3 j4] w fun v N => ∃ res wb wc, LeastA (opD orB (opD minusB c a) (opD minusB (satD a b) (satD c d))) res ∧ v = .tuple #[.slice wb (res.getD []).length wc, .bool (!res.isSome), vI 0] ∧ N = [rowI wb wc 5 1 (byts (res.getD []))] := by
 refine CallT.enter func20 rfl ntmps20 rfl ?_
 have hS1 := (InL.sat hz ha hb).2
 obtain ⟨S1, eS1⟩ : ∃ m, satD a b = m := ⟨_, rfl⟩
 rw [eS1] at hS1
 have hS2 := (InL.sat hz hc hd).2
 obtain ⟨S2, eS2⟩ : ∃ m, satD c d = m := ⟨_, rfl⟩
 rw [eS2] at hS2
 have hm1 := (InL.op (f := minusB) hz hc ha).2
 obtain ⟨m1, em1⟩ : ∃ m, opD minusB c a = m := ⟨_, rfl⟩
 rw [em1] at hm1
 have hm2 := (InL.op (f := minusB) hz hS1 hS2).2
 obtain ⟨m2, em2⟩ : ∃ m, opD minusB S1 S2 = m := ⟨_, rfl⟩
 rw [em2] at hm2
 have hm3 := (InL.op (f := orB) hz hm1 hm2).2
 obtain ⟨m3, em3⟩ : ∃ m, opD orB m1 m2 = m := ⟨_, rfl⟩
 rw [em3] at hm3
 refine T.s (T.rg (TO.l rfl (l_box (v := (cV a b j1 j2)) (cs := (cC a b j1 j2)) rfl rfl (fun y1 => ?_))))
 refine TO.l rfl (l_box (v := (cV c d j3 j4)) (cs := (cC c d j3 j4)) rfl rfl (fun y2 => ?_))
 refine TO.qa rfl (TO.qa rfl (TO.qa rfl (TO.nl (T.s (T.rg (TO.q (q_la 1 uT27 rfl inf27 rfl rfl rfl) (TO.q (q_la 0 uT27 rfl inf27 rfl rfl rfl) (TO.l rfl (l_call ent35 (CallT.op fun w1 hI => (haveI := tbz hI; startC w1 hz ha hb hc hd j1 j2 j3 j4 (hI.atB hj1) (hI.atB hj2) (hI.atB hj3) (hI.atB hj4) eS1 eS2)) rfl ?_)))))))))
 rintro vr O' ⟨N, rfl, bp, s1, s2, rfl, rfl⟩
 refine TO.qa rfl (TO.nl ?_)
 refine T.cut (fun ρ O => ∃ (b8 : Nat) (k1 : DK), O = [oI b8 25 (dC m1 k1), dI 48 4 3 m1 k1, oI bp 59 (bC (vI 0) S1 S2 s1 s2), dI 48 4 3 S1 s1, dI 48 4 3 S2 s2, oI y2 27 (cC c d j3 j4), oI y1 27 (cC a b j1 j2)] ∧ Heads [(0, (cV a b j1 j2)), (1, (cV c d j3 j4)), (2, (.pointer (aD y1))), (3, (.pointer (aD y2))), (4, nS), (5, .bool false), (6, vI 0), (7, (.pointer (aD bp))), (8, (.pointer (aD b8)))] ρ) ?_ ?_
 ·refine T.treeT [oI bp 59 (bC (vI 0) S1 S2 s1 s2), dI 48 4 3 S1 s1, dI 48 4 3 S2 s2, oI y2 27 (cC c d j3 j4), oI y1 27 (cC a b j1 j2)] [9] 10 mixed rfl (by exact Sub.rf) (fun _ _ _ h => h) ?_
  refine RO.quietTT 0 rfl (by kernel_rfl) (q_move rfl) ?_
  refine RO.quietTT 1 rfl (by kernel_rfl) (q_nilCheck rfl) ?_
  refine RO.quietTT 2 rfl (by kernel_rfl) (q_fa uT59 rfl inf57 rfl rfl) ?_
  refine RO.quietTT 3 rfl (by kernel_rfl) (q_fa uT27 rfl inf25 rfl rfl) ?_
  refine RO.quietTT 4 rfl (by kernel_rfl) (q_load_part 3 (vs := (dC c j3)) uT25 rfl inf25 rfl rfl rfl rfl) ?_
  refine RO.quietTT 5 rfl (by kernel_rfl) (q_fa uT27 rfl inf25 rfl rfl) ?_
  refine RO.quietTT 6 rfl (by kernel_rfl) (q_load_part 4 (vs := (dC a j1)) uT25 rfl inf25 rfl rfl rfl rfl) ?_
  have hk20 := CallT.under (A := [oI bp 59 (bC (vI 0) S1 S2 s1 s2)]) (B := [dI 48 4 3 S1 s1, dI 48 4 3 S2 s2, oI y2 27 (cC c d j3 j4), oI y1 27 (cC a b j1 j2)]) (O := [oI bp 59 (bC (vI 0) S1 S2 s1 s2), dI 48 4 3 S1 s1, dI 48 4 3 S2 s2, oI y2 27 (cC c d j3 j4), oI y1 27 (cC a b j1 j2)]) (doB w [] bp S1 S2 s1 s2 c a j3 j1 45 ent45 (fun w1 hI => haveI := tbz hI; minusZ w1 hz hc ha j3 j1 (hI.atB hj3) (hI.atB hj1) em1)) (by exact Sub.rf)
  refine RO.forkT [7, 8] (by kernel_rfl) rfl ⟨⟨_, rfl, rfl, l_call ent37 hk20 rfl ?_⟩, ⟨_, rfl, rfl, l_alloc inf25 rfl (fun b8 => ⟨.inr (by exact Sub.d (.k (.k (.k (.k (.k .z)))))), ?_⟩)⟩, trivial⟩ (by kernel_rfl)
  ·clear hk20
   rintro vr O' ⟨A1, rfl, k1, rfl, rfl⟩
   
   refine ⟨.inr (by exact Sub.d (.k (.k (.k (.k (.k .z)))))), ?_⟩
   refine RO.forkT [8] (by kernel_rfl) rfl ⟨⟨_, rfl, rfl, l_alloc inf25 rfl (fun b8 => ⟨.inr (by exact Sub.d (.d (.k (.k (.k (.k (.k .z))))))), ?_⟩)⟩, trivial⟩ (by kernel_rfl)
   refine RO.forkT [9] (by kernel_rfl) rfl ⟨⟨_, rfl, rfl, l_sb (v := (dV m1 k1)) (vs := (dC m1 k1)) 0 inf25 rfl rfl rfl rfl rfl rfl (by simp [putL]) ⟨.inl (by decide), ?_⟩⟩, trivial⟩ (by kernel_rfl)
   exact RO.fin (by kernel_rfl) ⟨b8, k1, rfl, (.of rfl)⟩ (Sub.pick [0, 0, 0, 0, 0, 0, 0] rfl)
  refine RO.forkT [7] (by kernel_rfl) rfl ⟨⟨_, rfl, rfl, l_call ent37 (CallT.un [1] (doB w [] bp S1 S2 s1 s2 c a j3 j1 45 ent45 (fun w1 hI => haveI := tbz hI; minusZ w1 hz hc ha j3 j1 (hI.atB hj3) (hI.atB hj1) em1))) rfl ?_⟩, trivial⟩ (by kernel_rfl)
  rintro vr O' ⟨A1, rfl, k1, rfl, rfl⟩
  
  refine ⟨.inr (by exact Sub.d (.k (.d (.k (.k (.k (.k .z))))))), ?_⟩
  refine RO.forkT [9] (by kernel_rfl) rfl ⟨⟨_, rfl, rfl, l_sb (v := (dV m1 k1)) (vs := (dC m1 k1)) 2 inf25 rfl rfl rfl rfl rfl rfl (by simp [putL]) ⟨.inl (by decide), ?_⟩⟩, trivial⟩ (by kernel_rfl)
  exact RO.fin (by kernel_rfl) ⟨b8, k1, rfl, (.of rfl)⟩ (Sub.pick [2, 0, 0, 0, 0, 0, 0] rfl)
 rintro ρ O ⟨b8, k1, rfl, hH⟩
 obtain ⟨ρ0, rfl⟩ := hH.elim
 clear hH
 refine T.cut (fun ρ O => ∃ (b9 : Nat) (k2 : DK), O = [oI b9 25 (dC m2 k2), dI 48 4 3 m2 k2, oI b8 25 (dC m1 k1), dI 48 4 3 m1 k1, oI bp 59 (bC (vI 0) S1 S2 s1 s2), dI 48 4 3 S1 s1, dI 48 4 3 S2 s2, oI y2 27 (cC c d j3 j4), oI y1 27 (cC a b j1 j2)] ∧ Heads [(0, (cV a b j1 j2)), (1, (cV c d j3 j4)), (2, (.pointer (aD y1))), (3, (.pointer (aD y2))), (4, nS), (5, .bool false), (6, vI 0), (7, (.pointer (aD bp))), (8, (.pointer (aD b8))), (9, (.pointer (aD b9)))] ρ) ?_ ?_
 ·refine T.treeT [oI b8 25 (dC m1 k1), dI 48 4 3 m1 k1, oI bp 59 (bC (vI 0) S1 S2 s1 s2), dI 48 4 3 S1 s1, dI 48 4 3 S2 s2, oI y2 27 (cC c d j3 j4), oI y1 27 (cC a b j1 j2)] [13] 14 mixed rfl (by exact Sub.rf) (fun _ _ _ h => h) ?_
  refine RO.quietTT 0 rfl (by kernel_rfl) (q_move rfl) ?_
  refine RO.quietTT 1 rfl (by kernel_rfl) (q_nilCheck rfl) ?_
  refine RO.quietTT 2 rfl (by kernel_rfl) (q_fa uT59 rfl inf57 rfl rfl) ?_
  refine RO.quietTT 3 rfl (by kernel_rfl) (q_move rfl) ?_
  refine RO.quietTT 4 rfl (by kernel_rfl) (q_nilCheck rfl) ?_
  refine RO.quietTT 5 rfl (by kernel_rfl) (q_fa uT59 rfl inf25 rfl rfl) ?_
  refine RO.quietTT 6 rfl (by kernel_rfl) (q_load_part 2 (vs := (dC S1 s1)) uT25 rfl inf25 rfl rfl rfl rfl) ?_
  refine RO.quietTT 7 rfl (by kernel_rfl) (q_move rfl) ?_
  refine RO.quietTT 8 rfl (by kernel_rfl) (q_nilCheck rfl) ?_
  refine RO.quietTT 9 rfl (by kernel_rfl) (q_fa uT59 rfl inf25 rfl rfl) ?_
  refine RO.quietTT 10 rfl (by kernel_rfl) (q_load_part 2 (vs := (dC S2 s2)) uT25 rfl inf25 rfl rfl rfl rfl) ?_
  have hk32 := CallT.under (A := [oI bp 59 (bC (vI 0) S1 S2 s1 s2), dI 48 4 3 S1 s1, dI 48 4 3 S2 s2]) (B := [oI b8 25 (dC m1 k1), dI 48 4 3 m1 k1, oI y2 27 (cC c d j3 j4), oI y1 27 (cC a b j1 j2)]) (O := [oI b8 25 (dC m1 k1), dI 48 4 3 m1 k1, oI bp 59 (bC (vI 0) S1 S2 s1 s2), dI 48 4 3 S1 s1, dI 48 4 3 S2 s2, oI y2 27 (cC c d j3 j4), oI y1 27 (cC a b j1 j2)]) (doB w [dI 48 4 3 S1 s1, dI 48 4 3 S2 s2] bp S1 S2 s1 s2 S1 S2 s1 s2 45 ent45 (fun w1 hI => haveI := tbz hI; minusZ w1 hz hS1 hS2 s1 s2 (hI.at (k := s1) (mG 0 rfl)) (hI.at (k := s2) (mG 1 rfl)) em2)) (by exact Sub.pull [oI b8 25 (dC m1 k1), dI 48 4 3 m1 k1] _ (.pull [oI b8 25 (dC m1 k1), dI 48 4 3 m1 k1] _ (.pull [oI b8 25 (dC m1 k1), dI 48 4 3 m1 k1] _ (.k (.k (.k (.k .z)))))))
  refine RO.forkT [11, 12] (by kernel_rfl) rfl ⟨⟨_, rfl, rfl, l_call ent37 hk32 rfl ?_⟩, ⟨_, rfl, rfl, l_alloc inf25 rfl (fun b9 => ⟨.inr (by exact Sub.d (.k (.k (.k (.k (.k (.k (.k .z)))))))), ?_⟩)⟩, trivial⟩ (by kernel_rfl)
  ·clear hk32
   rintro vr O' ⟨A1, rfl, k2, rfl, rfl⟩
   
   refine ⟨.inr (by exact Sub.d (.pull [oI bp 59 (bC (vI 0) S1 S2 s1 s2), dI 48 4 3 S1 s1, dI 48 4 3 S2 s2] _ (.pull [oI bp 59 (bC (vI 0) S1 S2 s1 s2), dI 48 4 3 S1 s1, dI 48 4 3 S2 s2] _ (.k (.k (.k (.k (.k .z)))))))), ?_⟩
   refine RO.forkT [12] (by kernel_rfl) rfl ⟨⟨_, rfl, rfl, l_alloc inf25 rfl (fun b9 => ⟨.inr (by exact Sub.d (.d (.pull [oI bp 59 (bC (vI 0) S1 S2 s1 s2), dI 48 4 3 S1 s1, dI 48 4 3 S2 s2] _ (.pull [oI bp 59 (bC (vI 0) S1 S2 s1 s2), dI 48 4 3 S1 s1, dI 48 4 3 S2 s2] _ (.k (.k (.k (.k (.k .z))))))))), ?_⟩)⟩, trivial⟩ (by kernel_rfl)
   refine RO.forkT [13] (by kernel_rfl) rfl ⟨⟨_, rfl, rfl, l_sb (v := (dV m2 k2)) (vs := (dC m2 k2)) 0 inf25 rfl rfl rfl rfl rfl rfl (by simp [putL]) ⟨.inl (by decide), ?_⟩⟩, trivial⟩ (by kernel_rfl)
   exact RO.fin (by kernel_rfl) ⟨b9, k2, rfl, (.of rfl)⟩ (Sub.pick [0, 0, 3, 3, 0, 0, 0, 0, 0] rfl)
  refine RO.forkT [11] (by kernel_rfl) rfl ⟨⟨_, rfl, rfl, l_call ent37 (CallT.un [3, 3, 3] (doB w [dI 48 4 3 S1 s1, dI 48 4 3 S2 s2] bp S1 S2 s1 s2 S1 S2 s1 s2 45 ent45 (fun w1 hI => haveI := tbz hI; minusZ w1 hz hS1 hS2 s1 s2 (hI.at (k := s1) (mG 0 rfl)) (hI.at (k := s2) (mG 1 rfl)) em2))) rfl ?_⟩, trivial⟩ (by kernel_rfl)
  rintro vr O' ⟨A1, rfl, k2, rfl, rfl⟩
  
  refine ⟨.inr (by exact Sub.d (.pull [oI bp 59 (bC (vI 0) S1 S2 s1 s2), dI 48 4 3 S1 s1, dI 48 4 3 S2 s2, oI b9 25 [(vI 0), (vI 0), nS, nS]] _ (.pull [oI bp 59 (bC (vI 0) S1 S2 s1 s2), dI 48 4 3 S1 s1, dI 48 4 3 S2 s2, oI b9 25 [(vI 0), (vI 0), nS, nS]] _ (.k (.k (.k (.d (.k (.k .z))))))))), ?_⟩
  refine RO.forkT [13] (by kernel_rfl) rfl ⟨⟨_, rfl, rfl, l_sb (v := (dV m2 k2)) (vs := (dC m2 k2)) 4 inf25 rfl rfl rfl rfl rfl rfl (by simp [putL]) ⟨.inl (by decide), ?_⟩⟩, trivial⟩ (by kernel_rfl)
  exact RO.fin (by kernel_rfl) ⟨b9, k2, rfl, (.of rfl)⟩ (Sub.pick [4, 0, 3, 3, 0, 0, 0, 0, 0] rfl)
 rintro ρ O ⟨b9, k2, rfl, hH⟩
 obtain ⟨ρ0, rfl⟩ := hH.elim
 clear hH
 refine T.s ?_
 refine T.draws _ [(0, 0), (1, 0), (2, 0), (3, 0), (4, 0), (5, 0), (6, 0), (7, 0), (8, 1), (9, 1), (10, 0), (11, 0), (12, 0), (13, 0), (14, 0), (15, 0)] mixed (drawF_ok (by kernel_rfl)) (Sub.of (List.Sublist.refl _)) (fun _ _ _ h => h) ?_
 refine DO.q rfl (q_move rfl) (DO.q rfl (q_nilCheck rfl) (DO.q rfl (q_fa uT59 rfl inf57 rfl rfl) (DO.q rfl (q_move rfl) (DO.q rfl (q_nilCheck rfl) (DO.q rfl (q_fa uT59 rfl inf57 rfl rfl) (DO.q rfl (q_la 2 uT25 rfl inf25 rfl rfl rfl) (DO.q rfl (q_la 0 uT25 rfl inf25 rfl rfl rfl) ?_)))))))
 refine DO.loud rfl rfl (l_call ent37 (CallT.un [4, 3, 1] (doB w [dI 48 4 3 m1 k1, dI 48 4 3 m2 k2] bp S1 S2 s1 s2 m1 m2 k1 k2 54 ent54 (fun w1 hI => haveI := tbz hI; orZ w1 hz hm1 hm2 k1 k2 (hI.at (k := k1) (mG 0 rfl)) (hI.at (k := k2) (mG 1 rfl)) em3))) rfl ?_)
 rintro vr O' ⟨A1, rfl, k3, rfl, rfl⟩
 refine ⟨by exact Sub.d (.pull [oI bp 59 (bC (vI 0) S1 S2 s1 s2), dI 48 4 3 m1 k1, dI 48 4 3 m2 k2] _ (.pull [oI bp 59 (bC (vI 0) S1 S2 s1 s2), dI 48 4 3 m1 k1] _ (.pull [oI bp 59 (bC (vI 0) S1 S2 s1 s2), dI 48 4 3 m1 k1] _ (.pull [oI bp 59 (bC (vI 0) S1 S2 s1 s2)] _ (.k (.k (.k (.k (.k .z))))))))), ?_⟩
 
 refine DO.loud rfl rfl (l_call ent44 (CallT.un [1, 0] (ansB w [dI 48 4 3 m3 k3] bp S1 S2 s1 s2 m3 hm3.has.valid k3 (fun w1 hI => haveI := tbz hI; (hI.at (k := k3) (mG 0 rfl))))) rfl ?_)
 rintro vr O' ⟨A1, rfl, res, wb, wc, hL, rfl, rfl⟩
 refine ⟨by exact Sub.d (.pull [oI bp 59 (bC (vI 0) S1 S2 s1 s2), dI 48 4 3 m3 k3, dI 48 4 3 m1 k1, dI 48 4 3 m2 k2] _ (.pull [oI bp 59 (bC (vI 0) S1 S2 s1 s2), dI 48 4 3 m3 k3, dI 48 4 3 m1 k1] _ (.pull [oI bp 59 (bC (vI 0) S1 S2 s1 s2), dI 48 4 3 m3 k3, dI 48 4 3 m1 k1] _ (.pull [oI bp 59 (bC (vI 0) S1 S2 s1 s2), dI 48 4 3 m3 k3] _ (.k (.d (.k (.k (.k (.k .z)))))))))), ?_⟩
 refine DO.q rfl (q_extract (vs := _) rfl rfl) (DO.q rfl (q_extract (vs := _) rfl rfl) (DO.q rfl (q_extract (vs := _) rfl rfl) (DO.q rfl (q_assign rfl) (DO.q rfl (q_assign rfl) (DO.q rfl (q_assign rfl) ?_)))))
 refine DO.done ?_
 refine T.ret (Res.drop ?_)
 refine Res.three (.slice wb ((res.getD []).length) wc) (.bool (!res.isSome)) (vI 0) Tryz.results20 rfl rfl rfl ?_
 subst em3
 subst em2
 subst em1
 subst eS2
 subst eS1
 exact ⟨[rowI wb wc 5 1 (byts (res.getD []))], (Sub.pick [0] rfl), res, wb, wc, hL, rfl, rfl⟩
theorem meetC (w : World) [Tab Tryz.prog w] {z a b c d : DFA} {p q p2 q2 : List Nat → Bool} (hz : Valid z) (ha : InL z a p) (hb : InL z b q) (hc : InL z c p2) (hd : InL z d q2) (j1 j2 j3 j4 : DK) (hj1 : At w a j1) (hj2 : At w b j2) (hj3 : At w c j3) (hj4 : At w d j4) :
  PureT Tryz.prog 22 [cV a b j1 j2, cV c d j3 j4] w fun v N => ∃ k1 k2 : DK, v = .tuple #[cV (opD orB a c) (opD andB (satD a b) (satD c d)) k1 k2, vI 0] ∧ N = [dI 48 4 3 (opD orB a c) k1, dI 48 4 3 (opD andB (satD a b) (satD c d)) k2] := by
 refine CallT.enter func22 rfl ntmps22 rfl ?_
 have hS1 := (InL.sat hz ha hb).2
 obtain ⟨S1, eS1⟩ : ∃ m, satD a b = m := ⟨_, rfl⟩
 rw [eS1] at hS1
 have hS2 := (InL.sat hz hc hd).2
 obtain ⟨S2, eS2⟩ : ∃ m, satD c d = m := ⟨_, rfl⟩
 rw [eS2] at hS2
 have hm1 := (InL.op (f := andB) hz hS1 hS2).2
 obtain ⟨m1, em1⟩ : ∃ m, opD andB S1 S2 = m := ⟨_, rfl⟩
 rw [em1] at hm1
 have hm2 := (InL.op (f := orB) hz ha hc).2
 obtain ⟨m2, em2⟩ : ∃ m, opD orB a c = m := ⟨_, rfl⟩
 rw [em2] at hm2
 refine T.s (T.rg (TO.l rfl (l_box (v := (cV a b j1 j2)) (cs := (cC a b j1 j2)) rfl rfl (fun y1 => ?_))))
 refine TO.l rfl (l_box (v := (cV c d j3 j4)) (cs := (cC c d j3 j4)) rfl rfl (fun y2 => ?_))
 refine TO.l rfl (l_alloc inf27 rfl (fun y3 => ?_))
 refine TO.qa rfl (TO.nl (T.s (T.rg (TO.q (q_la 2 uT27 rfl inf27 rfl rfl rfl) (TO.q (q_la 1 uT27 rfl inf27 rfl rfl rfl) (TO.l rfl (l_call ent35 (CallT.op fun w1 hI => (haveI := tbz hI; startC w1 hz ha hb hc hd j1 j2 j3 j4 (hI.atB hj1) (hI.atB hj2) (hI.atB hj3) (hI.atB hj4) eS1 eS2)) rfl ?_)))))))
 rintro vr O' ⟨N, rfl, bp, s1, s2, rfl, rfl⟩
 refine TO.qa rfl (TO.nl ?_)
 refine T.cut (fun ρ O => ∃ (b8 : Nat) (k1 : DK), O = [oI b8 25 (dC m1 k1), dI 48 4 3 m1 k1, oI bp 59 (bC (vI 0) S1 S2 s1 s2), dI 48 4 3 S1 s1, dI 48 4 3 S2 s2, oI y3 27 [(vI 0), (vI 0), nS, nS, (vI 0), (vI 0), nS, nS], oI y2 27 (cC c d j3 j4), oI y1 27 (cC a b j1 j2)] ∧ Heads [(0, (cV a b j1 j2)), (1, (cV c d j3 j4)), (2, (.pointer (aD y1))), (3, (.pointer (aD y2))), (4, (.pointer (aD y3))), (5, vI 0), (6, (.pointer (aD bp))), (7, (.pointer (aD b8)))] ρ) ?_ ?_
 ·refine T.treeT [oI bp 59 (bC (vI 0) S1 S2 s1 s2), dI 48 4 3 S1 s1, dI 48 4 3 S2 s2, oI y3 27 [(vI 0), (vI 0), nS, nS, (vI 0), (vI 0), nS, nS], oI y2 27 (cC c d j3 j4), oI y1 27 (cC a b j1 j2)] [13] 14 mixed rfl (by exact Sub.rf) (fun _ _ _ h => h) ?_
  refine RO.quietTT 0 rfl (by kernel_rfl) (q_move rfl) ?_
  refine RO.quietTT 1 rfl (by kernel_rfl) (q_nilCheck rfl) ?_
  refine RO.quietTT 2 rfl (by kernel_rfl) (q_fa uT59 rfl inf57 rfl rfl) ?_
  refine RO.quietTT 3 rfl (by kernel_rfl) (q_move rfl) ?_
  refine RO.quietTT 4 rfl (by kernel_rfl) (q_nilCheck rfl) ?_
  refine RO.quietTT 5 rfl (by kernel_rfl) (q_fa uT59 rfl inf25 rfl rfl) ?_
  refine RO.quietTT 6 rfl (by kernel_rfl) (q_load_part 0 (vs := (dC S1 s1)) uT25 rfl inf25 rfl rfl rfl rfl) ?_
  refine RO.quietTT 7 rfl (by kernel_rfl) (q_move rfl) ?_
  refine RO.quietTT 8 rfl (by kernel_rfl) (q_nilCheck rfl) ?_
  refine RO.quietTT 9 rfl (by kernel_rfl) (q_fa uT59 rfl inf25 rfl rfl) ?_
  refine RO.quietTT 10 rfl (by kernel_rfl) (q_load_part 0 (vs := (dC S2 s2)) uT25 rfl inf25 rfl rfl rfl rfl) ?_
  have hk22 := CallT.under (A := [oI bp 59 (bC (vI 0) S1 S2 s1 s2), dI 48 4 3 S1 s1, dI 48 4 3 S2 s2]) (B := [oI y3 27 [(vI 0), (vI 0), nS, nS, (vI 0), (vI 0), nS, nS], oI y2 27 (cC c d j3 j4), oI y1 27 (cC a b j1 j2)]) (O := [oI bp 59 (bC (vI 0) S1 S2 s1 s2), dI 48 4 3 S1 s1, dI 48 4 3 S2 s2, oI y3 27 [(vI 0), (vI 0), nS, nS, (vI 0), (vI 0), nS, nS], oI y2 27 (cC c d j3 j4), oI y1 27 (cC a b j1 j2)]) (doB w [dI 48 4 3 S1 s1, dI 48 4 3 S2 s2] bp S1 S2 s1 s2 S1 S2 s1 s2 43 ent43 (fun w1 hI => haveI := tbz hI; andZ w1 hz hS1 hS2 s1 s2 (hI.at (k := s1) (mG 0 rfl)) (hI.at (k := s2) (mG 1 rfl)) em1)) (by exact Sub.rf)
  refine RO.forkT [11, 12] (by kernel_rfl) rfl ⟨⟨_, rfl, rfl, l_call ent37 hk22 rfl ?_⟩, ⟨_, rfl, rfl, l_alloc inf25 rfl (fun b8 => ⟨.inr (by exact Sub.d (.k (.k (.k (.k (.k (.k .z))))))), ?_⟩)⟩, trivial⟩ (by kernel_rfl)
  ·clear hk22
   rintro vr O' ⟨A1, rfl, k1, rfl, rfl⟩
   
   refine ⟨.inr (by exact Sub.d (.k (.k (.k (.k (.k (.k .z))))))), ?_⟩
   refine RO.forkT [12] (by kernel_rfl) rfl ⟨⟨_, rfl, rfl, l_alloc inf25 rfl (fun b8 => ⟨.inr (by exact Sub.d (.d (.k (.k (.k (.k (.k (.k .z)))))))), ?_⟩)⟩, trivial⟩ (by kernel_rfl)
   refine RO.forkT [13] (by kernel_rfl) rfl ⟨⟨_, rfl, rfl, l_sb (v := (dV m1 k1)) (vs := (dC m1 k1)) 0 inf25 rfl rfl rfl rfl rfl rfl (by simp [putL]) ⟨.inl (by decide), ?_⟩⟩, trivial⟩ (by kernel_rfl)
   exact RO.fin (by kernel_rfl) ⟨b8, k1, rfl, (.of rfl)⟩ (Sub.pick [0, 0, 0, 0, 0, 0, 0, 0] rfl)
  refine RO.forkT [11] (by kernel_rfl) rfl ⟨⟨_, rfl, rfl, l_call ent37 (CallT.un [1, 1, 1] (doB w [dI 48 4 3 S1 s1, dI 48 4 3 S2 s2] bp S1 S2 s1 s2 S1 S2 s1 s2 43 ent43 (fun w1 hI => haveI := tbz hI; andZ w1 hz hS1 hS2 s1 s2 (hI.at (k := s1) (mG 0 rfl)) (hI.at (k := s2) (mG 1 rfl)) em1))) rfl ?_⟩, trivial⟩ (by kernel_rfl)
  rintro vr O' ⟨A1, rfl, k1, rfl, rfl⟩
  
  refine ⟨.inr (by exact Sub.d (.k (.k (.k (.d (.k (.k (.k .z)))))))), ?_⟩
  refine RO.forkT [13] (by kernel_rfl) rfl ⟨⟨_, rfl, rfl, l_sb (v := (dV m1 k1)) (vs := (dC m1 k1)) 4 inf25 rfl rfl rfl rfl rfl rfl (by simp [putL]) ⟨.inl (by decide), ?_⟩⟩, trivial⟩ (by kernel_rfl)
  exact RO.fin (by kernel_rfl) ⟨b8, k1, rfl, (.of rfl)⟩ (Sub.pick [4, 0, 0, 0, 0, 0, 0, 0] rfl)
 rintro ρ O ⟨b8, k1, rfl, hH⟩
 obtain ⟨ρ0, rfl⟩ := hH.elim
 clear hH
 refine T.s ?_
 refine T.draws _ [(0, 0), (1, 0), (2, 0), (3, 0), (4, 0), (5, 0), (6, 0), (7, 0), (9, 0), (8, 1), (10, 1), (11, 0), (12, 0), (13, 2), (14, 2)] mixed (drawF_ok (by kernel_rfl)) (Sub.of (List.Sublist.refl _)) (fun _ _ _ h => h) ?_
 refine DO.q rfl (q_move rfl) (DO.q rfl (q_move rfl) (DO.q rfl (q_nilCheck rfl) (DO.q rfl (q_fa uT59 rfl inf57 rfl rfl) (DO.q rfl (q_fa uT27 rfl inf25 rfl rfl) (DO.q rfl (q_load_part 7 (vs := (dC a j1)) uT25 rfl inf25 rfl rfl rfl rfl) (DO.q rfl (q_fa uT27 rfl inf25 rfl rfl) (DO.q rfl (q_load_part 6 (vs := (dC c j3)) uT25 rfl inf25 rfl rfl rfl rfl) (DO.q rfl (q_la 0 uT25 rfl inf25 rfl rfl rfl) ?_))))))))
 refine DO.loud rfl rfl (l_call ent37 (CallT.un [2] (doB w [] bp S1 S2 s1 s2 a c j1 j3 54 ent54 (fun w1 hI => haveI := tbz hI; orZ w1 hz ha hc j1 j3 (hI.atB hj1) (hI.atB hj3) em2))) rfl ?_)
 rintro vr O' ⟨A1, rfl, k2, rfl, rfl⟩
 refine ⟨by exact Sub.d (.pull [oI bp 59 (bC (vI 0) S1 S2 s1 s2)] _ (.pull [oI bp 59 (bC (vI 0) S1 S2 s1 s2)] _ (.k (.k (.k (.k (.k (.k .z)))))))), ?_⟩
 
 refine DO.loud rfl rfl (l_call ent36 (CallT.un [1] (built w [] bp S1 S2 s1 s2 m2 m1 k2 k1)) rfl ?_)
 rintro vr O' ⟨A1, rfl, rfl, rfl⟩
 refine ⟨by exact Sub.pull [oI bp 59 (bC (vI 0) S1 S2 s1 s2), dI 48 4 3 m2 k2] _ (.pull [oI bp 59 (bC (vI 0) S1 S2 s1 s2), dI 48 4 3 m2 k2] _ (.k (.d (.k (.k (.k (.k (.k .z)))))))), ?_⟩
 refine DO.q rfl (q_extract (vs := _) rfl rfl) (DO.q rfl (q_extract (vs := _) rfl rfl) ?_)
 refine DO.last rfl rfl (l_sb (v := (cV m2 m1 k2 k1)) (vs := (cC m2 m1 k2 k1)) 6 inf27 rfl rfl rfl rfl rfl rfl (by simp [putL]) ?_)
 refine DO.last rfl rfl (LT.oq rfl rfl (q_assign rfl) ?_)
 refine DO.done ?_
 refine T.ret (Res.drop ?_)
 refine Res.cell1b (vI 0) (i := 6) Tryz.results22 uT27 rfl inf27 rfl rfl rfl rfl ?_
 exact ⟨[dI 48 4 3 m2 k2, dI 48 4 3 m1 k1], (Sub.pick [1, 2] rfl), k2, k1, by subst em2; subst em1; subst eS2; subst eS1; rfl, by subst em2; subst em1; subst eS2; subst eS1; rfl⟩
theorem joinC (w : World) [Tab Tryz.prog w] {z a b c d : DFA} {p q p2 q2 : List Nat → Bool} (hz : Valid z) (ha : InL z a p) (hb : InL z b q) (hc : InL z c p2) (hd : InL z d q2) (j1 j2 j3 j4 : DK) (hj1 : At w a j1) (hj2 : At w b j2) (hj3 : At w c j3) (hj4 : At w d j4) :
  PureT Tryz.prog 24 [cV a b j1 j2, cV c d j3 j4] w fun v N => ∃ k1 k2 : DK, v = .tuple #[cV (opD andB a c) (opD orB (satD a b) (satD c d)) k1 k2, vI 0] ∧ N = [dI 48 4 3 (opD andB a c) k1, dI 48 4 3 (opD orB (satD a b) (satD c d)) k2] := by
 refine CallT.enter func24 rfl ntmps24 rfl ?_
 have hS1 := (InL.sat hz ha hb).2
 obtain ⟨S1, eS1⟩ : ∃ m, satD a b = m := ⟨_, rfl⟩
 rw [eS1] at hS1
 have hS2 := (InL.sat hz hc hd).2
 obtain ⟨S2, eS2⟩ : ∃ m, satD c d = m := ⟨_, rfl⟩
 rw [eS2] at hS2
 have hm1 := (InL.op (f := orB) hz hS1 hS2).2
 obtain ⟨m1, em1⟩ : ∃ m, opD orB S1 S2 = m := ⟨_, rfl⟩
 rw [em1] at hm1
 have hm2 := (InL.op (f := andB) hz ha hc).2
 obtain ⟨m2, em2⟩ : ∃ m, opD andB a c = m := ⟨_, rfl⟩
 rw [em2] at hm2
 refine T.s (T.rg (TO.l rfl (l_box (v := (cV a b j1 j2)) (cs := (cC a b j1 j2)) rfl rfl (fun y1 => ?_))))
 refine TO.l rfl (l_box (v := (cV c d j3 j4)) (cs := (cC c d j3 j4)) rfl rfl (fun y2 => ?_))
 refine TO.l rfl (l_alloc inf27 rfl (fun y3 => ?_))
 refine TO.qa rfl (TO.nl (T.s (T.rg (TO.q (q_la 2 uT27 rfl inf27 rfl rfl rfl) (TO.q (q_la 1 uT27 rfl inf27 rfl rfl rfl) (TO.l rfl (l_call ent35 (CallT.op fun w1 hI => (haveI := tbz hI; startC w1 hz ha hb hc hd j1 j2 j3 j4 (hI.atB hj1) (hI.atB hj2) (hI.atB hj3) (hI.atB hj4) eS1 eS2)) rfl ?_)))))))
 rintro vr O' ⟨N, rfl, bp, s1, s2, rfl, rfl⟩
 refine TO.qa rfl (TO.nl ?_)
 refine T.cut (fun ρ O => ∃ (b8 : Nat) (k1 : DK), O = [oI b8 25 (dC m1 k1), dI 48 4 3 m1 k1, oI bp 59 (bC (vI 0) S1 S2 s1 s2), dI 48 4 3 S1 s1, dI 48 4 3 S2 s2, oI y3 27 [(vI 0), (vI 0), nS, nS, (vI 0), (vI 0), nS, nS], oI y2 27 (cC c d j3 j4), oI y1 27 (cC a b j1 j2)] ∧ Heads [(0, (cV a b j1 j2)), (1, (cV c d j3 j4)), (2, (.pointer (aD y1))), (3, (.pointer (aD y2))), (4, (.pointer (aD y3))), (5, vI 0), (6, (.pointer (aD bp))), (7, (.pointer (aD b8)))] ρ) ?_ ?_
 ·refine T.treeT [oI bp 59 (bC (vI 0) S1 S2 s1 s2), dI 48 4 3 S1 s1, dI 48 4 3 S2 s2, oI y3 27 [(vI 0), (vI 0), nS, nS, (vI 0), (vI 0), nS, nS], oI y2 27 (cC c d j3 j4), oI y1 27 (cC a b j1 j2)] [13] 14 mixed rfl (by exact Sub.rf) (fun _ _ _ h => h) ?_
  refine RO.quietTT 0 rfl (by kernel_rfl) (q_move rfl) ?_
  refine RO.quietTT 1 rfl (by kernel_rfl) (q_nilCheck rfl) ?_
  refine RO.quietTT 2 rfl (by kernel_rfl) (q_fa uT59 rfl inf57 rfl rfl) ?_
  refine RO.quietTT 3 rfl (by kernel_rfl) (q_move rfl) ?_
  refine RO.quietTT 4 rfl (by kernel_rfl) (q_nilCheck rfl) ?_
  refine RO.quietTT 5 rfl (by kernel_rfl) (q_fa uT59 rfl inf25 rfl rfl) ?_
  refine RO.quietTT 6 rfl (by kernel_rfl) (q_load_part 0 (vs := (dC S1 s1)) uT25 rfl inf25 rfl rfl rfl rfl) ?_
  refine RO.quietTT 7 rfl (by kernel_rfl) (q_move rfl) ?_
  refine RO.quietTT 8 rfl (by kernel_rfl) (q_nilCheck rfl) ?_
  refine RO.quietTT 9 rfl (by kernel_rfl) (q_fa uT59 rfl inf25 rfl rfl) ?_
  refine RO.quietTT 10 rfl (by kernel_rfl) (q_load_part 0 (vs := (dC S2 s2)) uT25 rfl inf25 rfl rfl rfl rfl) ?_
  have hk22 := CallT.under (A := [oI bp 59 (bC (vI 0) S1 S2 s1 s2), dI 48 4 3 S1 s1, dI 48 4 3 S2 s2]) (B := [oI y3 27 [(vI 0), (vI 0), nS, nS, (vI 0), (vI 0), nS, nS], oI y2 27 (cC c d j3 j4), oI y1 27 (cC a b j1 j2)]) (O := [oI bp 59 (bC (vI 0) S1 S2 s1 s2), dI 48 4 3 S1 s1, dI 48 4 3 S2 s2, oI y3 27 [(vI 0), (vI 0), nS, nS, (vI 0), (vI 0), nS, nS], oI y2 27 (cC c d j3 j4), oI y1 27 (cC a b j1 j2)]) (doB w [dI 48 4 3 S1 s1, dI 48 4 3 S2 s2] bp S1 S2 s1 s2 S1 S2 s1 s2 54 ent54 (fun w1 hI => haveI := tbz hI; orZ w1 hz hS1 hS2 s1 s2 (hI.at (k := s1) (mG 0 rfl)) (hI.at (k := s2) (mG 1 rfl)) em1)) (by exact Sub.rf)
  refine RO.forkT [11, 12] (by kernel_rfl) rfl ⟨⟨_, rfl, rfl, l_call ent37 hk22 rfl ?_⟩, ⟨_, rfl, rfl, l_alloc inf25 rfl (fun b8 => ⟨.inr (by exact Sub.d (.k (.k (.k (.k (.k (.k .z))))))), ?_⟩)⟩, trivial⟩ (by kernel_rfl)
  ·clear hk22
   rintro vr O' ⟨A1, rfl, k1, rfl, rfl⟩
   
   refine ⟨.inr (by exact Sub.d (.k (.k (.k (.k (.k (.k .z))))))), ?_⟩
   refine RO.forkT [12] (by kernel_rfl) rfl ⟨⟨_, rfl, rfl, l_alloc inf25 rfl (fun b8 => ⟨.inr (by exact Sub.d (.d (.k (.k (.k (.k (.k (.k .z)))))))), ?_⟩)⟩, trivial⟩ (by kernel_rfl)
   refine RO.forkT [13] (by kernel_rfl) rfl ⟨⟨_, rfl, rfl, l_sb (v := (dV m1 k1)) (vs := (dC m1 k1)) 0 inf25 rfl rfl rfl rfl rfl rfl (by simp [putL]) ⟨.inl (by decide), ?_⟩⟩, trivial⟩ (by kernel_rfl)
   exact RO.fin (by kernel_rfl) ⟨b8, k1, rfl, (.of rfl)⟩ (Sub.pick [0, 0, 0, 0, 0, 0, 0, 0] rfl)
  refine RO.forkT [11] (by kernel_rfl) rfl ⟨⟨_, rfl, rfl, l_call ent37 (CallT.un [1, 1, 1] (doB w [dI 48 4 3 S1 s1, dI 48 4 3 S2 s2] bp S1 S2 s1 s2 S1 S2 s1 s2 54 ent54 (fun w1 hI => haveI := tbz hI; orZ w1 hz hS1 hS2 s1 s2 (hI.at (k := s1) (mG 0 rfl)) (hI.at (k := s2) (mG 1 rfl)) em1))) rfl ?_⟩, trivial⟩ (by kernel_rfl)
  rintro vr O' ⟨A1, rfl, k1, rfl, rfl⟩
  
  refine ⟨.inr (by exact Sub.d (.k (.k (.k (.d (.k (.k (.k .z)))))))), ?_⟩
  refine RO.forkT [13] (by kernel_rfl) rfl ⟨⟨_, rfl, rfl, l_sb (v := (dV m1 k1)) (vs := (dC m1 k1)) 4 inf25 rfl rfl rfl rfl rfl rfl (by simp [putL]) ⟨.inl (by decide), ?_⟩⟩, trivial⟩ (by kernel_rfl)
  exact RO.fin (by kernel_rfl) ⟨b8, k1, rfl, (.of rfl)⟩ (Sub.pick [4, 0, 0, 0, 0, 0, 0, 0] rfl)
 rintro ρ O ⟨b8, k1, rfl, hH⟩
 obtain ⟨ρ0, rfl⟩ := hH.elim
 clear hH
 refine T.s ?_
 refine T.draws _ [(0, 0), (1, 0), (2, 0), (3, 0), (4, 0), (5, 0), (6, 0), (7, 0), (9, 0), (8, 1), (10, 1), (11, 0), (12, 0), (13, 2), (14, 2)] mixed (drawF_ok (by kernel_rfl)) (Sub.of (List.Sublist.refl _)) (fun _ _ _ h => h) ?_
 refine DO.q rfl (q_move rfl) (DO.q rfl (q_move rfl) (DO.q rfl (q_nilCheck rfl) (DO.q rfl (q_fa uT59 rfl inf57 rfl rfl) (DO.q rfl (q_fa uT27 rfl inf25 rfl rfl) (DO.q rfl (q_load_part 7 (vs := (dC a j1)) uT25 rfl inf25 rfl rfl rfl rfl) (DO.q rfl (q_fa uT27 rfl inf25 rfl rfl) (DO.q rfl (q_load_part 6 (vs := (dC c j3)) uT25 rfl inf25 rfl rfl rfl rfl) (DO.q rfl (q_la 0 uT25 rfl inf25 rfl rfl rfl) ?_))))))))
 refine DO.loud rfl rfl (l_call ent37 (CallT.un [2] (doB w [] bp S1 S2 s1 s2 a c j1 j3 43 ent43 (fun w1 hI => haveI := tbz hI; andZ w1 hz ha hc j1 j3 (hI.atB hj1) (hI.atB hj3) em2))) rfl ?_)
 rintro vr O' ⟨A1, rfl, k2, rfl, rfl⟩
 refine ⟨by exact Sub.d (.pull [oI bp 59 (bC (vI 0) S1 S2 s1 s2)] _ (.pull [oI bp 59 (bC (vI 0) S1 S2 s1 s2)] _ (.k (.k (.k (.k (.k (.k .z)))))))), ?_⟩
 
 refine DO.loud rfl rfl (l_call ent36 (CallT.un [1] (built w [] bp S1 S2 s1 s2 m2 m1 k2 k1)) rfl ?_)
 rintro vr O' ⟨A1, rfl, rfl, rfl⟩
 refine ⟨by exact Sub.pull [oI bp 59 (bC (vI 0) S1 S2 s1 s2), dI 48 4 3 m2 k2] _ (.pull [oI bp 59 (bC (vI 0) S1 S2 s1 s2), dI 48 4 3 m2 k2] _ (.k (.d (.k (.k (.k (.k (.k .z)))))))), ?_⟩
 refine DO.q rfl (q_extract (vs := _) rfl rfl) (DO.q rfl (q_extract (vs := _) rfl rfl) ?_)
 refine DO.last rfl rfl (l_sb (v := (cV m2 m1 k2 k1)) (vs := (cC m2 m1 k2 k1)) 6 inf27 rfl rfl rfl rfl rfl rfl (by simp [putL]) ?_)
 refine DO.last rfl rfl (LT.oq rfl rfl (q_assign rfl) ?_)
 refine DO.done ?_
 refine T.ret (Res.drop ?_)
 refine Res.cell1b (vI 0) (i := 6) Tryz.results24 uT27 rfl inf27 rfl rfl rfl rfl ?_
 exact ⟨[dI 48 4 3 m2 k2, dI 48 4 3 m1 k1], (Sub.pick [1, 2] rfl), k2, k1, by subst em2; subst em1; subst eS2; subst eS1; rfl, by subst em2; subst em1; subst eS2; subst eS1; rfl⟩
theorem compC (w : World) [Tab Tryz.prog w] {z a b c d : DFA} {p q p2 q2 : List Nat → Bool} (hz : Valid z) (ha : InL z a p) (hb : InL z b q) (hc : InL z c p2) (hd : InL z d q2) (j1 j2 j3 j4 : DK) (hj1 : At w a j1) (hj2 : At w b j2) (hj3 : At w c j3) (hj4 : At w d j4) :
  PureT Tryz.prog 26 [cV a b j1 j2, cV c d j3 j4] w fun v N => ∃ k1 k2 : DK, v = .tuple #[cV (opD orB (opD andB a c) (notD (opD andB (satD a b) (satD c d)))) (opD andB (satD a b) (satD c d)) k1 k2, vI 0] ∧ N = [dI 48 4 3 (opD orB (opD andB a c) (notD (opD andB (satD a b) (satD c d)))) k1, dI 48 4 3 (opD andB (satD a b) (satD c d)) k2] := by
 refine CallT.enter func26 rfl ntmps26 rfl ?_
 have hS1 := (InL.sat hz ha hb).2
 obtain ⟨S1, eS1⟩ : ∃ m, satD a b = m := ⟨_, rfl⟩
 rw [eS1] at hS1
 have hS2 := (InL.sat hz hc hd).2
 obtain ⟨S2, eS2⟩ : ∃ m, satD c d = m := ⟨_, rfl⟩
 rw [eS2] at hS2
 have hm1 := (InL.op (f := andB) hz hS1 hS2).2
 obtain ⟨m1, em1⟩ : ∃ m, opD andB S1 S2 = m := ⟨_, rfl⟩
 rw [em1] at hm1
 have hm2 := (InL.op (f := andB) hz ha hc).2
 obtain ⟨m2, em2⟩ : ∃ m, opD andB a c = m := ⟨_, rfl⟩
 rw [em2] at hm2
 have hm3 := (InL.not hz hm1).2
 obtain ⟨m3, em3⟩ : ∃ m, notD m1 = m := ⟨_, rfl⟩
 rw [em3] at hm3
 have hm4 := (InL.op (f := orB) hz hm2 hm3).2
 obtain ⟨m4, em4⟩ : ∃ m, opD orB m2 m3 = m := ⟨_, rfl⟩
 rw [em4] at hm4
 refine T.s (T.rg (TO.l rfl (l_box (v := (cV a b j1 j2)) (cs := (cC a b j1 j2)) rfl rfl (fun y1 => ?_))))
 refine TO.l rfl (l_box (v := (cV c d j3 j4)) (cs := (cC c d j3 j4)) rfl rfl (fun y2 => ?_))
 refine TO.l rfl (l_alloc inf27 rfl (fun y3 => ?_))
 refine TO.qa rfl (TO.nl (T.s (T.rg (TO.q (q_la 2 uT27 rfl inf27 rfl rfl rfl) (TO.q (q_la 1 uT27 rfl inf27 rfl rfl rfl) (TO.l rfl (l_call ent35 (CallT.op fun w1 hI => (haveI := tbz hI; startC w1 hz ha hb hc hd j1 j2 j3 j4 (hI.atB hj1) (hI.atB hj2) (hI.atB hj3) (hI.atB hj4) eS1 eS2)) rfl ?_)))))))
 rintro vr O' ⟨N, rfl, bp, s1, s2, rfl, rfl⟩
 refine TO.qa rfl (TO.nl ?_)
 refine T.cut (fun ρ O => ∃ (b7 : Nat) (k1 : DK), O = [oI b7 25 (dC m1 k1), dI 48 4 3 m1 k1, oI bp 59 (bC (vI 0) S1 S2 s1 s2), dI 48 4 3 S1 s1, dI 48 4 3 S2 s2, oI y3 27 [(vI 0), (vI 0), nS, nS, (vI 0), (vI 0), nS, nS], oI y2 27 (cC c d j3 j4), oI y1 27 (cC a b j1 j2)] ∧ Heads [(0, (cV a b j1 j2)), (1, (cV c d j3 j4)), (2, (.pointer (aD y1))), (3, (.pointer (aD y2))), (4, (.pointer (aD y3))), (5, vI 0), (6, (.pointer (aD bp))), (7, (.pointer (aD b7)))] ρ) ?_ ?_
 ·refine T.treeT [oI bp 59 (bC (vI 0) S1 S2 s1 s2), dI 48 4 3 S1 s1, dI 48 4 3 S2 s2, oI y3 27 [(vI 0), (vI 0), nS, nS, (vI 0), (vI 0), nS, nS], oI y2 27 (cC c d j3 j4), oI y1 27 (cC a b j1 j2)] [13] 14 mixed rfl (by exact Sub.rf) (fun _ _ _ h => h) ?_
  refine RO.quietTT 0 rfl (by kernel_rfl) (q_move rfl) ?_
  refine RO.quietTT 1 rfl (by kernel_rfl) (q_nilCheck rfl) ?_
  refine RO.quietTT 2 rfl (by kernel_rfl) (q_fa uT59 rfl inf57 rfl rfl) ?_
  refine RO.quietTT 3 rfl (by kernel_rfl) (q_move rfl) ?_
  refine RO.quietTT 4 rfl (by kernel_rfl) (q_nilCheck rfl) ?_
  refine RO.quietTT 5 rfl (by kernel_rfl) (q_fa uT59 rfl inf25 rfl rfl) ?_
  refine RO.quietTT 6 rfl (by kernel_rfl) (q_load_part 0 (vs := (dC S1 s1)) uT25 rfl inf25 rfl rfl rfl rfl) ?_
  refine RO.quietTT 7 rfl (by kernel_rfl) (q_move rfl) ?_
  refine RO.quietTT 8 rfl (by kernel_rfl) (q_nilCheck rfl) ?_
  refine RO.quietTT 9 rfl (by kernel_rfl) (q_fa uT59 rfl inf25 rfl rfl) ?_
  refine RO.quietTT 10 rfl (by kernel_rfl) (q_load_part 0 (vs := (dC S2 s2)) uT25 rfl inf25 rfl rfl rfl rfl) ?_
  have hk24 := CallT.under (A := [oI bp 59 (bC (vI 0) S1 S2 s1 s2), dI 48 4 3 S1 s1, dI 48 4 3 S2 s2]) (B := [oI y3 27 [(vI 0), (vI 0), nS, nS, (vI 0), (vI 0), nS, nS], oI y2 27 (cC c d j3 j4), oI y1 27 (cC a b j1 j2)]) (O := [oI bp 59 (bC (vI 0) S1 S2 s1 s2), dI 48 4 3 S1 s1, dI 48 4 3 S2 s2, oI y3 27 [(vI 0), (vI 0), nS, nS, (vI 0), (vI 0), nS, nS], oI y2 27 (cC c d j3 j4), oI y1 27 (cC a b j1 j2)]) (doB w [dI 48 4 3 S1 s1, dI 48 4 3 S2 s2] bp S1 S2 s1 s2 S1 S2 s1 s2 43 ent43 (fun w1 hI => haveI := tbz hI; andZ w1 hz hS1 hS2 s1 s2 (hI.at (k := s1) (mG 0 rfl)) (hI.at (k := s2) (mG 1 rfl)) em1)) (by exact Sub.rf)
  refine RO.forkT [11, 12] (by kernel_rfl) rfl ⟨⟨_, rfl, rfl, l_call ent37 hk24 rfl ?_⟩, ⟨_, rfl, rfl, l_alloc inf25 rfl (fun b7 => ⟨.inr (by exact Sub.d (.k (.k (.k (.k (.k (.k .z))))))), ?_⟩)⟩, trivial⟩ (by kernel_rfl)
  ·clear hk24
   rintro vr O' ⟨A1, rfl, k1, rfl, rfl⟩
   
   refine ⟨.inr (by exact Sub.d (.k (.k (.k (.k (.k (.k .z))))))), ?_⟩
   refine RO.forkT [12] (by kernel_rfl) rfl ⟨⟨_, rfl, rfl, l_alloc inf25 rfl (fun b7 => ⟨.inr (by exact Sub.d (.d (.k (.k (.k (.k (.k (.k .z)))))))), ?_⟩)⟩, trivial⟩ (by kernel_rfl)
   refine RO.forkT [13] (by kernel_rfl) rfl ⟨⟨_, rfl, rfl, l_sb (v := (dV m1 k1)) (vs := (dC m1 k1)) 0 inf25 rfl rfl rfl rfl rfl rfl (by simp [putL]) ⟨.inl (by decide), ?_⟩⟩, trivial⟩ (by kernel_rfl)
   exact RO.fin (by kernel_rfl) ⟨b7, k1, rfl, (.of rfl)⟩ (Sub.pick [0, 0, 0, 0, 0, 0, 0, 0] rfl)
  refine RO.forkT [11] (by kernel_rfl) rfl ⟨⟨_, rfl, rfl, l_call ent37 (CallT.un [1, 1, 1] (doB w [dI 48 4 3 S1 s1, dI 48 4 3 S2 s2] bp S1 S2 s1 s2 S1 S2 s1 s2 43 ent43 (fun w1 hI => haveI := tbz hI; andZ w1 hz hS1 hS2 s1 s2 (hI.at (k := s1) (mG 0 rfl)) (hI.at (k := s2) (mG 1 rfl)) em1))) rfl ?_⟩, trivial⟩ (by kernel_rfl)
  rintro vr O' ⟨A1, rfl, k1, rfl, rfl⟩
  
  refine ⟨.inr (by exact Sub.d (.k (.k (.k (.d (.k (.k (.k .z)))))))), ?_⟩
  refine RO.forkT [13] (by kernel_rfl) rfl ⟨⟨_, rfl, rfl, l_sb (v := (dV m1 k1)) (vs := (dC m1 k1)) 4 inf25 rfl rfl rfl rfl rfl rfl (by simp [putL]) ⟨.inl (by decide), ?_⟩⟩, trivial⟩ (by kernel_rfl)
  exact RO.fin (by kernel_rfl) ⟨b7, k1, rfl, (.of rfl)⟩ (Sub.pick [4, 0, 0, 0, 0, 0, 0, 0] rfl)
 rintro ρ O ⟨b7, k1, rfl, hH⟩
 obtain ⟨ρ0, rfl⟩ := hH.elim
 clear hH
 refine T.cut (fun ρ O => ∃ (b8 : Nat) (k2 : DK), O = [oI b8 25 (dC m2 k2), dI 48 4 3 m2 k2, oI b7 25 (dC m1 k1), dI 48 4 3 m1 k1, oI bp 59 (bC (vI 0) S1 S2 s1 s2), dI 48 4 3 S1 s1, dI 48 4 3 S2 s2, oI y3 27 [(vI 0), (vI 0), nS, nS, (vI 0), (vI 0), nS, nS], oI y2 27 (cC c d j3 j4), oI y1 27 (cC a b j1 j2)] ∧ Heads [(0, (cV a b j1 j2)), (1, (cV c d j3 j4)), (2, (.pointer (aD y1))), (3, (.pointer (aD y2))), (4, (.pointer (aD y3))), (5, vI 0), (6, (.pointer (aD bp))), (7, (.pointer (aD b7))), (8, (.pointer (aD b8)))] ρ) ?_ ?_
 ·refine T.treeT [oI b7 25 (dC m1 k1), dI 48 4 3 m1 k1, oI bp 59 (bC (vI 0) S1 S2 s1 s2), dI 48 4 3 S1 s1, dI 48 4 3 S2 s2, oI y3 27 [(vI 0), (vI 0), nS, nS, (vI 0), (vI 0), nS, nS], oI y2 27 (cC c d j3 j4), oI y1 27 (cC a b j1 j2)] [9] 10 mixed rfl (by exact Sub.rf) (fun _ _ _ h => h) ?_
  refine RO.quietTT 0 rfl (by kernel_rfl) (q_move rfl) ?_
  refine RO.quietTT 1 rfl (by kernel_rfl) (q_nilCheck rfl) ?_
  refine RO.quietTT 2 rfl (by kernel_rfl) (q_fa uT59 rfl inf57 rfl rfl) ?_
  refine RO.quietTT 3 rfl (by kernel_rfl) (q_fa uT27 rfl inf25 rfl rfl) ?_
  refine RO.quietTT 4 rfl (by kernel_rfl) (q_load_part 7 (vs := (dC a j1)) uT25 rfl inf25 rfl rfl rfl rfl) ?_
  refine RO.quietTT 5 rfl (by kernel_rfl) (q_fa uT27 rfl inf25 rfl rfl) ?_
  refine RO.quietTT 6 rfl (by kernel_rfl) (q_load_part 6 (vs := (dC c j3)) uT25 rfl inf25 rfl rfl rfl rfl) ?_
  have hk32 := CallT.under (A := [oI bp 59 (bC (vI 0) S1 S2 s1 s2)]) (B := [oI b7 25 (dC m1 k1), dI 48 4 3 m1 k1, dI 48 4 3 S1 s1, dI 48 4 3 S2 s2, oI y3 27 [(vI 0), (vI 0), nS, nS, (vI 0), (vI 0), nS, nS], oI y2 27 (cC c d j3 j4), oI y1 27 (cC a b j1 j2)]) (O := [oI b7 25 (dC m1 k1), dI 48 4 3 m1 k1, oI bp 59 (bC (vI 0) S1 S2 s1 s2), dI 48 4 3 S1 s1, dI 48 4 3 S2 s2, oI y3 27 [(vI 0), (vI 0), nS, nS, (vI 0), (vI 0), nS, nS], oI y2 27 (cC c d j3 j4), oI y1 27 (cC a b j1 j2)]) (doB w [] bp S1 S2 s1 s2 a c j1 j3 43 ent43 (fun w1 hI => haveI := tbz hI; andZ w1 hz ha hc j1 j3 (hI.atB hj1) (hI.atB hj3) em2)) (by exact Sub.pull [oI b7 25 (dC m1 k1), dI 48 4 3 m1 k1] _ (.k (.k (.k (.k (.k (.k (.k .z))))))))
  refine RO.forkT [7, 8] (by kernel_rfl) rfl ⟨⟨_, rfl, rfl, l_call ent37 hk32 rfl ?_⟩, ⟨_, rfl, rfl, l_alloc inf25 rfl (fun b8 => ⟨.inr (by exact Sub.d (.k (.k (.k (.k (.k (.k (.k (.k .z))))))))), ?_⟩)⟩, trivial⟩ (by kernel_rfl)
  ·clear hk32
   rintro vr O' ⟨A1, rfl, k2, rfl, rfl⟩
   
   refine ⟨.inr (by exact Sub.d (.pull [oI bp 59 (bC (vI 0) S1 S2 s1 s2)] _ (.pull [oI bp 59 (bC (vI 0) S1 S2 s1 s2)] _ (.k (.k (.k (.k (.k (.k .z))))))))), ?_⟩
   refine RO.forkT [8] (by kernel_rfl) rfl ⟨⟨_, rfl, rfl, l_alloc inf25 rfl (fun b8 => ⟨.inr (by exact Sub.d (.d (.pull [oI bp 59 (bC (vI 0) S1 S2 s1 s2)] _ (.pull [oI bp 59 (bC (vI 0) S1 S2 s1 s2)] _ (.k (.k (.k (.k (.k (.k .z)))))))))), ?_⟩)⟩, trivial⟩ (by kernel_rfl)
   refine RO.forkT [9] (by kernel_rfl) rfl ⟨⟨_, rfl, rfl, l_sb (v := (dV m2 k2)) (vs := (dC m2 k2)) 0 inf25 rfl rfl rfl rfl rfl rfl (by simp [putL]) ⟨.inl (by decide), ?_⟩⟩, trivial⟩ (by kernel_rfl)
   exact RO.fin (by kernel_rfl) ⟨b8, k2, rfl, (.of rfl)⟩ (Sub.pick [0, 0, 1, 1, 0, 0, 0, 0, 0, 0] rfl)
  refine RO.forkT [7] (by kernel_rfl) rfl ⟨⟨_, rfl, rfl, l_call ent37 (CallT.un [3] (doB w [] bp S1 S2 s1 s2 a c j1 j3 43 ent43 (fun w1 hI => haveI := tbz hI; andZ w1 hz ha hc j1 j3 (hI.atB hj1) (hI.atB hj3) em2))) rfl ?_⟩, trivial⟩ (by kernel_rfl)
  rintro vr O' ⟨A1, rfl, k2, rfl, rfl⟩
  
  refine ⟨.inr (by exact Sub.d (.pull [oI bp 59 (bC (vI 0) S1 S2 s1 s2), oI b8 25 [(vI 0), (vI 0), nS, nS]] _ (.pull [oI bp 59 (bC (vI 0) S1 S2 s1 s2), oI b8 25 [(vI 0), (vI 0), nS, nS]] _ (.k (.d (.k (.k (.k (.k (.k .z)))))))))), ?_⟩
  refine RO.forkT [9] (by kernel_rfl) rfl ⟨⟨_, rfl, rfl, l_sb (v := (dV m2 k2)) (vs := (dC m2 k2)) 2 inf25 rfl rfl rfl rfl rfl rfl (by simp [putL]) ⟨.inl (by decide), ?_⟩⟩, trivial⟩ (by kernel_rfl)
  exact RO.fin (by kernel_rfl) ⟨b8, k2, rfl, (.of rfl)⟩ (Sub.pick [2, 0, 1, 1, 0, 0, 0, 0, 0, 0] rfl)
 rintro ρ O ⟨b8, k2, rfl, hH⟩
 obtain ⟨ρ0, rfl⟩ := hH.elim
 clear hH
 refine T.cut (fun ρ O => ∃ (b9 : Nat) (k3 : DK), O = [oI b9 25 (dC m3 k3), dI 48 4 3 m3 k3, oI b8 25 (dC m2 k2), dI 48 4 3 m2 k2, oI b7 25 (dC m1 k1), dI 48 4 3 m1 k1, oI bp 59 (bC (vI 0) S1 S2 s1 s2), dI 48 4 3 S1 s1, dI 48 4 3 S2 s2, oI y3 27 [(vI 0), (vI 0), nS, nS, (vI 0), (vI 0), nS, nS], oI y2 27 (cC c d j3 j4), oI y1 27 (cC a b j1 j2)] ∧ Heads [(0, (cV a b j1 j2)), (1, (cV c d j3 j4)), (2, (.pointer (aD y1))), (3, (.pointer (aD y2))), (4, (.pointer (aD y3))), (5, vI 0), (6, (.pointer (aD bp))), (7, (.pointer (aD b7))), (8, (.pointer (aD b8))), (9, (.pointer (aD b9)))] ρ) ?_ ?_
 ·refine T.treeT [oI b8 25 (dC m2 k2), dI 48 4 3 m2 k2, oI b7 25 (dC m1 k1), dI 48 4 3 m1 k1, oI bp 59 (bC (vI 0) S1 S2 s1 s2), dI 48 4 3 S1 s1, dI 48 4 3 S2 s2, oI y3 27 [(vI 0), (vI 0), nS, nS, (vI 0), (vI 0), nS, nS], oI y2 27 (cC c d j3 j4), oI y1 27 (cC a b j1 j2)] [6] 7 mixed rfl (by exact Sub.rf) (fun _ _ _ h => h) ?_
  refine RO.quietTT 0 rfl (by kernel_rfl) (q_move rfl) ?_
  refine RO.quietTT 1 rfl (by kernel_rfl) (q_nilCheck rfl) ?_
  refine RO.quietTT 2 rfl (by kernel_rfl) (q_fa uT59 rfl inf57 rfl rfl) ?_
  refine RO.quietTT 3 rfl (by kernel_rfl) (q_la 2 uT25 rfl inf25 rfl rfl rfl) ?_
  have hk37 := CallT.under (A := [oI bp 59 (bC (vI 0) S1 S2 s1 s2), dI 48 4 3 m1 k1]) (B := [oI b8 25 (dC m2 k2), dI 48 4 3 m2 k2, oI b7 25 (dC m1 k1), dI 48 4 3 S1 s1, dI 48 4 3 S2 s2, oI y3 27 [(vI 0), (vI 0), nS, nS, (vI 0), (vI 0), nS, nS], oI y2 27 (cC c d j3 j4), oI y1 27 (cC a b j1 j2)]) (O := [oI b8 25 (dC m2 k2), dI 48 4 3 m2 k2, oI b7 25 (dC m1 k1), dI 48 4 3 m1 k1, oI bp 59 (bC (vI 0) S1 S2 s1 s2), dI 48 4 3 S1 s1, dI 48 4 3 S2 s2, oI y3 27 [(vI 0), (vI 0), nS, nS, (vI 0), (vI 0), nS, nS], oI y2 27 (cC c d j3 j4), oI y1 27 (cC a b j1 j2)]) (notM w [dI 48 4 3 m1 k1] bp S1 S2 s1 s2 hz hm1 k1 (fun w1 hI => haveI := tbz hI; (hI.at (k := k1) (mG 0 rfl))) em3) (by exact Sub.pull [oI b8 25 (dC m2 k2), dI 48 4 3 m2 k2, oI b7 25 (dC m1 k1), dI 48 4 3 m1 k1] _ (.pull [oI b8 25 (dC m2 k2), dI 48 4 3 m2 k2, oI b7 25 (dC m1 k1)] _ (.k (.k (.k (.k (.k (.k (.k (.k .z))))))))))
  refine RO.forkT [4, 5] (by kernel_rfl) rfl ⟨⟨_, rfl, rfl, l_call ent57 hk37 rfl ?_⟩, ⟨_, rfl, rfl, l_alloc inf25 rfl (fun b9 => ⟨.inr (by exact Sub.d (.k (.k (.k (.k (.k (.k (.k (.k (.k (.k .z))))))))))), ?_⟩)⟩, trivial⟩ (by kernel_rfl)
  ·clear hk37
   rintro vr O' ⟨A1, rfl, k3, rfl, rfl⟩
   refine ⟨.inr (by exact Sub.d (.pull [oI bp 59 (bC (vI 0) S1 S2 s1 s2), dI 48 4 3 m1 k1] _ (.pull [oI bp 59 (bC (vI 0) S1 S2 s1 s2), dI 48 4 3 m1 k1] _ (.pull [oI bp 59 (bC (vI 0) S1 S2 s1 s2), dI 48 4 3 m1 k1] _ (.pull [oI bp 59 (bC (vI 0) S1 S2 s1 s2)] _ (.k (.k (.k (.k (.k (.k .z))))))))))), ?_⟩
   refine RO.forkT [5] (by kernel_rfl) rfl ⟨⟨_, rfl, rfl, l_alloc inf25 rfl (fun b9 => ⟨.inr (by exact Sub.d (.d (.pull [oI bp 59 (bC (vI 0) S1 S2 s1 s2), dI 48 4 3 m1 k1] _ (.pull [oI bp 59 (bC (vI 0) S1 S2 s1 s2), dI 48 4 3 m1 k1] _ (.pull [oI bp 59 (bC (vI 0) S1 S2 s1 s2), dI 48 4 3 m1 k1] _ (.pull [oI bp 59 (bC (vI 0) S1 S2 s1 s2)] _ (.k (.k (.k (.k (.k (.k .z)))))))))))), ?_⟩)⟩, trivial⟩ (by kernel_rfl)
   refine RO.forkT [6] (by kernel_rfl) rfl ⟨⟨_, rfl, rfl, l_sb (v := (dV m3 k3)) (vs := (dC m3 k3)) 0 inf25 rfl rfl rfl rfl rfl rfl (by simp [putL]) ⟨.inl (by decide), ?_⟩⟩, trivial⟩ (by kernel_rfl)
   exact RO.fin (by kernel_rfl) ⟨b9, k3, rfl, (.of rfl)⟩ (Sub.pick [0, 0, 2, 2, 2, 1, 0, 0, 0, 0, 0, 0] rfl)
  refine RO.forkT [4] (by kernel_rfl) rfl ⟨⟨_, rfl, rfl, l_call ent57 (CallT.un [5, 4] (notM w [dI 48 4 3 m1 k1] bp S1 S2 s1 s2 hz hm1 k1 (fun w1 hI => haveI := tbz hI; (hI.at (k := k1) (mG 0 rfl))) em3)) rfl ?_⟩, trivial⟩ (by kernel_rfl)
  rintro vr O' ⟨A1, rfl, k3, rfl, rfl⟩
  refine ⟨.inr (by exact Sub.d (.pull [oI bp 59 (bC (vI 0) S1 S2 s1 s2), dI 48 4 3 m1 k1, oI b9 25 [(vI 0), (vI 0), nS, nS]] _ (.pull [oI bp 59 (bC (vI 0) S1 S2 s1 s2), dI 48 4 3 m1 k1, oI b9 25 [(vI 0), (vI 0), nS, nS]] _ (.pull [oI bp 59 (bC (vI 0) S1 S2 s1 s2), dI 48 4 3 m1 k1, oI b9 25 [(vI 0), (vI 0), nS, nS]] _ (.pull [oI bp 59 (bC (vI 0) S1 S2 s1 s2)] _ (.k (.d (.k (.k (.k (.k (.k .z)))))))))))), ?_⟩
  refine RO.forkT [6] (by kernel_rfl) rfl ⟨⟨_, rfl, rfl, l_sb (v := (dV m3 k3)) (vs := (dC m3 k3)) 3 inf25 rfl rfl rfl rfl rfl rfl (by simp [putL]) ⟨.inl (by decide), ?_⟩⟩, trivial⟩ (by kernel_rfl)
  exact RO.fin (by kernel_rfl) ⟨b9, k3, rfl, (.of rfl)⟩ (Sub.pick [3, 0, 2, 2, 2, 1, 0, 0, 0, 0, 0, 0] rfl)
 rintro ρ O ⟨b9, k3, rfl, hH⟩
 obtain ⟨ρ0, rfl⟩ := hH.elim
 clear hH
 refine T.s ?_
 refine T.draws _ [(0, 0), (1, 0), (2, 0), (3, 0), (4, 0), (5, 0), (7, 0), (6, 1), (8, 1), (9, 0), (10, 0), (11, 2), (12, 2)] mixed (drawF_ok (by kernel_rfl)) (Sub.of (List.Sublist.refl _)) (fun _ _ _ h => h) ?_
 refine DO.q rfl (q_move rfl) (DO.q rfl (q_move rfl) (DO.q rfl (q_nilCheck rfl) (DO.q rfl (q_fa uT59 rfl inf57 rfl rfl) (DO.q rfl (q_la 2 uT25 rfl inf25 rfl rfl rfl) (DO.q rfl (q_la 0 uT25 rfl inf25 rfl rfl rfl) (DO.q rfl (q_la 4 uT25 rfl inf25 rfl rfl rfl) ?_))))))
 refine DO.loud rfl rfl (l_call ent37 (CallT.un [6, 3, 1] (doB w [dI 48 4 3 m2 k2, dI 48 4 3 m3 k3] bp S1 S2 s1 s2 m2 m3 k2 k3 54 ent54 (fun w1 hI => haveI := tbz hI; orZ w1 hz hm2 hm3 k2 k3 (hI.at (k := k2) (mG 0 rfl)) (hI.at (k := k3) (mG 1 rfl)) em4))) rfl ?_)
 rintro vr O' ⟨A1, rfl, k4, rfl, rfl⟩
 refine ⟨by exact Sub.d (.pull [oI bp 59 (bC (vI 0) S1 S2 s1 s2), dI 48 4 3 m2 k2, dI 48 4 3 m3 k3] _ (.pull [oI bp 59 (bC (vI 0) S1 S2 s1 s2), dI 48 4 3 m2 k2] _ (.pull [oI bp 59 (bC (vI 0) S1 S2 s1 s2), dI 48 4 3 m2 k2] _ (.pull [oI bp 59 (bC (vI 0) S1 S2 s1 s2)] _ (.pull [oI bp 59 (bC (vI 0) S1 S2 s1 s2)] _ (.pull [oI bp 59 (bC (vI 0) S1 S2 s1 s2)] _ (.k (.k (.k (.k (.k (.k .z)))))))))))), ?_⟩
 
 refine DO.loud rfl rfl (l_call ent36 (CallT.un [1] (built w [] bp S1 S2 s1 s2 m4 m1 k4 k1)) rfl ?_)
 rintro vr O' ⟨A1, rfl, rfl, rfl⟩
 refine ⟨by exact Sub.pull [oI bp 59 (bC (vI 0) S1 S2 s1 s2), dI 48 4 3 m4 k4, dI 48 4 3 m2 k2, dI 48 4 3 m3 k3] _ (.pull [oI bp 59 (bC (vI 0) S1 S2 s1 s2), dI 48 4 3 m4 k4, dI 48 4 3 m2 k2] _ (.pull [oI bp 59 (bC (vI 0) S1 S2 s1 s2), dI 48 4 3 m4 k4, dI 48 4 3 m2 k2] _ (.pull [oI bp 59 (bC (vI 0) S1 S2 s1 s2), dI 48 4 3 m4 k4] _ (.pull [oI bp 59 (bC (vI 0) S1 S2 s1 s2), dI 48 4 3 m4 k4] _ (.pull [oI bp 59 (bC (vI 0) S1 S2 s1 s2), dI 48 4 3 m4 k4] _ (.k (.d (.k (.k (.k (.k (.k .z)))))))))))), ?_⟩
 refine DO.q rfl (q_extract (vs := _) rfl rfl) (DO.q rfl (q_extract (vs := _) rfl rfl) ?_)
 refine DO.last rfl rfl (l_sb (v := (cV m4 m1 k4 k1)) (vs := (cC m4 m1 k4 k1)) 10 inf27 rfl rfl rfl rfl rfl rfl (by simp [putL]) ?_)
 refine DO.last rfl rfl (LT.oq rfl rfl (q_assign rfl) ?_)
 refine DO.done ?_
 refine T.ret (Res.drop ?_)
 refine Res.cell1b (vI 0) (i := 10) Tryz.results26 uT27 rfl inf27 rfl rfl rfl rfl ?_
 exact ⟨[dI 48 4 3 m4 k4, dI 48 4 3 m1 k1], (Sub.pick [1, 6] rfl), k4, k1, by subst em4; subst em3; subst em2; subst em1; subst eS2; subst eS1; rfl, by subst em4; subst em3; subst em2; subst em1; subst eS2; subst eS1; rfl⟩
theorem satC (w : World) [Tab Tryz.prog w] {z a b : DFA} {p q : List Nat → Bool} (hz : Valid z) (ha : InL z a p) (hb : InL z b q) (j1 j2 : DK) (hj1 : At w a j1) (hj2 : At w b j2) :
  PureT Tryz.prog 10 [cV a b j1 j2] w fun v N => ∃ k1 k2 : DK, v = .tuple #[cV (minD a) (satD a b) k1 k2, vI 0] ∧ N = [dI 48 4 3 (minD a) k1, dI 48 4 3 (satD a b) k2] := by
 refine CallT.enter func10 rfl ntmps10 rfl ?_
 have hS1 := (InL.sat hz ha hb).2
 obtain ⟨S1, eS1⟩ : ∃ m, satD a b = m := ⟨_, rfl⟩
 rw [eS1] at hS1
 obtain ⟨mA, emA⟩ : ∃ m, minD a = m := ⟨_, rfl⟩
 refine T.s (T.rg (TO.l rfl (l_box (v := (cV a b j1 j2)) (cs := (cC a b j1 j2)) rfl rfl (fun y1 => ?_))))
 refine TO.l rfl (l_alloc inf27 rfl (fun y2 => ?_))
 refine TO.qa rfl (TO.nl (T.s (T.rg (TO.q (q_la 1 uT27 rfl inf27 rfl rfl rfl) (TO.q (q_la 1 uT27 rfl inf27 rfl rfl rfl) (TO.l rfl (l_call ent35 (CallT.op fun w1 hI => (haveI := tbz hI; startC w1 hz ha hb ha hb j1 j2 j1 j2 (hI.atB hj1) (hI.atB hj2) (hI.atB hj1) (hI.atB hj2) eS1 eS1)) rfl ?_)))))))
 rintro vr O' ⟨N, rfl, bp, s1, s2, rfl, rfl⟩
 refine TO.qa rfl (TO.nl (T.s ?_))
 refine T.draws _ [(0, 0), (1, 0), (2, 0), (3, 0), (4, 0), (5, 0), (6, 0), (7, 0), (9, 0), (10, 0), (11, 0), (12, 0), (8, 1), (13, 1), (14, 0), (15, 0), (16, 2), (17, 2)] mixed (drawF_ok (by kernel_rfl)) (Sub.of (List.Sublist.refl _)) (fun _ _ _ h => h) ?_
 refine DO.q rfl (q_move rfl) (DO.q rfl (q_move rfl) (DO.q rfl (q_nilCheck rfl) (DO.q rfl (q_fa uT59 rfl inf57 rfl rfl) (DO.q rfl (q_fa uT27 rfl inf25 rfl rfl) (DO.q rfl (q_load_part 4 (vs := (dC a j1)) uT25 rfl inf25 rfl rfl rfl rfl) (DO.q rfl (q_fa uT27 rfl inf25 rfl rfl) (DO.q rfl (q_load_part 4 (vs := (dC a j1)) uT25 rfl inf25 rfl rfl rfl rfl) (DO.q rfl (q_move rfl) (DO.q rfl (q_nilCheck rfl) (DO.q rfl (q_fa uT59 rfl inf25 rfl rfl) (DO.q rfl (q_load_part 0 (vs := (dC S1 s1)) uT25 rfl inf25 rfl rfl rfl rfl) ?_)))))))))))
 refine DO.loud rfl rfl (l_call ent37 (CallT.un [0] (doB w [] bp S1 S1 s1 s2 a a j1 j1 38 ent38 (fun w1 hI => haveI := tbz hI; min1Z w1 a a ha.has.valid j1 j1 (hI.atB hj1) emA))) rfl ?_)
 rintro vr O' ⟨A1, rfl, kA, rfl, rfl⟩
 refine ⟨by exact Sub.d (.k (.k (.k (.k (.k .z))))), ?_⟩
 refine DO.loud rfl rfl (l_call ent36 (CallT.un [1] (built w [] bp S1 S1 s1 s2 mA S1 kA s1)) rfl ?_)
 rintro vr O' ⟨A1, rfl, rfl, rfl⟩
 refine ⟨by exact Sub.k (.d (.k (.k (.k (.k .z))))), ?_⟩
 refine DO.q rfl (q_extract (vs := _) rfl rfl) (DO.q rfl (q_extract (vs := _) rfl rfl) ?_)
 refine DO.last rfl rfl (l_sb (v := (cV mA S1 kA s1)) (vs := (cC mA S1 kA s1)) 4 inf27 rfl rfl rfl rfl rfl rfl (by simp [putL]) ?_)
 refine DO.last rfl rfl (LT.oq rfl rfl (q_assign rfl) ?_)
 refine DO.done ?_
 refine T.ret (Res.drop ?_)
 refine Res.cell1b (vI 0) (i := 4) Tryz.results10 uT27 rfl inf27 rfl rfl rfl rfl ?_
 exact ⟨[dI 48 4 3 mA kA, dI 48 4 3 S1 s1], (Sub.pick [1, 1] rfl), kA, s1, by subst eS1; subst emA; rfl, by subst eS1; subst emA; rfl⟩
end Go.Proofs.YtnpehjpookcfkaaGreatDoor


namespace Go.Proofs.YtnpehjpookcfkaaGreatDoor
open Go.Lx Go.RowKit _root_.Go.Proofs.Tryz
theorem indexFunc (base : World) [Tab Tryz.prog base] (b : Option Addr) (c : Nat) (xs : List Nat) (hS : Sl base b (byts xs)) (hb : xs.length < 9223372036854775807) (fv : Value) (p : Nat → Bool) (OO : List Lx.Item) (hy : ∀ x ∈ xs, CallV Tryz.prog base fv [.int .u8 (x : Int)] OO (fun v O' => v = .bool (p x) ∧ O' = OO)) :
  CallT Tryz.prog base 117 [.slice b xs.length c, fv] OO (fun v O' => ∃ i : Int, v = vI i ∧ decide (i ≥ 0) = xs.any p ∧ O' = OO) := by
 refine CallT.enter func117 rfl ntmps117 rfl ?_
 refine T.s (T.rg (TO.qa rfl (TO.nl (T.s (T.s (T.rg (TO.qm rfl (TO.q (q_len underlying34 rfl) (TO.qm rfl (TO.nl (T.block ?_)))))))))))
 refine T.loop (fun (k : Nat) ρ O => O = OO ∧ k ≤ xs.length ∧ (xs.take k).any p = false ∧ Heads [(0, (.slice b xs.length c)), (1, fv), (7, vI (xs.length : Int)), (8, vI (k : Int))] ρ) (fun k => xs.length - k) 0 ?_ ?_
 ·exact ⟨rfl, Nat.zero_le _, rfl, ⟨rfl, rfl, rfl, rfl, trivial⟩⟩
 rintro k ρ O ⟨rfl, hk, hany, hH⟩
 obtain ⟨ρ0, rfl⟩ := hH.elim
 clear hH
 refine T.s (T.rg (TO.q (q_lss rfl rfl) (TO.nl (T.s (T.condP rfl (fun hc => ?_) (fun hc => ?_))))))
 ·have hlt9 : k < xs.length := by omega
  refine T.skip (T.s (T.block (T.s (T.rg (TO.qm rfl (TO.qa rfl (TO.nl (T.s (T.rg (TO.qm rfl (TO.qm rfl (TO.qm rfl (TO.q (q_ix (i := k) underlying34 inf5 rfl rfl (Sl.o hS) hlt9 (by rw [List.length_map]; exact hlt9)) (TO.q (q_ld underlying5 rfl rfl (Sl.o hS) (byts_get hlt9)) ?_))))))))))))))
  have hk16 := hy xs[k] (List.getElem_mem hlt9)
  refine TO.l rfl (l_callG hk16 rfl rfl ?_)
  clear hk16
  rintro v O' ⟨rfl, rfl⟩
  refine TO.nl (T.cond rfl (fun hc => ?_) (fun hc => ?_))
  ·refine T.s ?_
   refine T.rg (TO.qm rfl (TO.qa rfl (TO.nl (T.ret (Res.drop ?_)))))
   refine Res.one (vI (k : Int)) Tryz.results117 rfl ?_
   exact ⟨_, Sub.of (List.Sublist.refl _), k, rfl, by rw [any_at hlt9 hc]; exact decide_eq_true (by omega), rfl⟩
  refine T.skip (T.rg (TO.q (q_inc rfl rfl (by omega)) (TO.qm rfl (TO.nl ?_))))
  exact ⟨k + 1, by omega, rfl, by omega, any_take hlt9 hany hc, ⟨rfl, rfl, rfl, rfl, trivial⟩⟩
 have hge9 : ¬ k < xs.length := by omega
 refine T.exit ?_
 refine T.s (T.rg (TO.qa rfl (TO.nl (T.ret (Res.drop ?_)))))
 refine Res.one (vI (-1)) Tryz.results117 rfl ?_
 exact ⟨_, Sub.of (List.Sublist.refl _), -1, rfl, by rw [List.take_of_length_le (by omega)] at hany; rw [hany]; decide, rfl⟩
theorem containsFunc (base : World) [Tab Tryz.prog base] (b : Option Addr) (c : Nat) (xs : List Nat) (hS : Sl base b (byts xs)) (hb : xs.length < 9223372036854775807) (fv : Value) (p : Nat → Bool) (OO : List Lx.Item) (hy : ∀ x ∈ xs, CallV Tryz.prog base fv [.int .u8 (x : Int)] OO (fun v O' => v = .bool (p x) ∧ O' = OO)) :
  CallT Tryz.prog base 111 [.slice b xs.length c, fv] OO (fun v O' => v = .bool (xs.any p) ∧ O' = OO) := by
 refine CallT.enter func111 rfl ntmps111 rfl ?_
 refine T.s (T.rg (TO.qa rfl (TO.nl (T.s (T.rg (TO.qm rfl (TO.qm rfl ?_)))))))
 have hk7 := indexFunc base b c xs hS hb fv p OO hy
 refine TO.l rfl (l_call ent117 hk7 rfl ?_)
 clear hk7
 rintro v O' ⟨i, rfl, hi, rfl⟩
 refine TO.q (q_geq rfl rfl) (TO.qa rfl (TO.nl (T.ret (Res.drop ?_))))
 refine Res.one (.bool (decide (i ≥ 0))) Tryz.results111 rfl ?_
 exact ⟨_, Sub.of (List.Sublist.refl _), congrArg Value.bool hi, rfl⟩
theorem tooGreat (base : World) [Tab Tryz.prog base] (d : DFA) (nb fb : Option Addr) (nc fc : Nat) (hv0 : 0 ≤ d.vars) (hv6 : d.vars ≤ 6) (bx x : Nat) (hx : x < 256) :
  CallT Tryz.prog base 112 [.int .u8 (x : Int), .pointer (aD bx)] [oI bx 25 [(vI d.vars), (vI d.start), (.slice nb d.next.length nc), (.slice fb d.final.length fc)]] (fun v O' => v = .bool (decide (2 ^ d.vars.toNat ≤ x)) ∧ O' = [oI bx 25 [(vI d.vars), (vI d.start), (.slice nb d.next.length nc), (.slice fb d.final.length fc)]]) := by
 refine CallT.enter func112 rfl ntmps112 rfl ?_
 refine T.s (T.rg (TO.qa rfl (TO.nl (T.s (T.rg (TO.qm rfl (TO.q (q_conv_id underlying5 underlying3 rfl (wrap64_id ⟨by omega, by omega⟩)) (TO.q (q_fa underlying25 rfl inf3 rfl rfl) (TO.q (q_lb 0 underlying3 rfl rfl rfl rfl) (TO.q (q_shl1 (v := d.vars.toNat) rfl (by show Value.int _ d.vars = _; rw [Int.toNat_of_nonneg hv0]) (by omega)) (TO.q (q_geq rfl rfl) (TO.qa rfl (TO.nl (T.ret ?_))))))))))))))
 refine Res.one (.bool (decide ((x : Int) ≥ ((2 ^ d.vars.toNat : Nat) : Int)))) Tryz.results112 rfl ?_
 exact ⟨congrArg Value.bool (decide_eq_decide.2 (by omega)), rfl⟩
theorem runM (w : World) [Tab Tryz.prog w] (d : DFA) (nb fb : Option Addr) (nc fc : Nat) (vs : List Value) (h : DfaAt w d nb vs fb) (hv : Valid d) (wb : Option Addr) (wc : Nat) (l : List Nat) (hW : Sl w wb (byts l)) (hwb : l.length < 9223372036854775807) (hwd : Wd d l) :
  PureT Tryz.prog 113 [.agg (dfaCells d nb nc fb fc).toArray, .slice wb l.length wc] w fun v N => v = vI ((Lx.runN d d.start.toNat l : Nat) : Int) ∧ N = [] := by
 refine CallT.enter func113 rfl ntmps113 rfl ?_
 have hs0 := hv.s0
 have hs1 := hv.s1
 have hvl := h.rows.1
 refine T.s (T.rg (TO.l rfl (l_box (v := (.agg #[(vI d.vars), (vI d.start), (.slice nb d.next.length nc), (.slice fb d.final.length fc)])) (cs := [(vI d.vars), (vI d.start), (.slice nb d.next.length nc), (.slice fb d.final.length fc)]) rfl rfl (fun b1 => ?_))))
 refine TO.qa rfl (TO.nl (T.s (T.rg (TO.q (q_fa underlying141 rfl inf25 rfl rfl) (TO.q (q_fa underlying25 rfl inf3 rfl rfl) (TO.q (QT.cast (q_lb 0 underlying3 rfl rfl rfl rfl) (v' := vI ((Lx.runN d d.start.toNat (l.take 0) : Nat) : Int)) (by show Value.int _ d.start = _; rw [show Lx.runN d d.start.toNat (l.take 0) = d.start.toNat from rfl, Int.toNat_of_nonneg hs0])) (TO.qa rfl (TO.nl (T.s (T.s (T.rg (TO.qm rfl (TO.q (q_len underlying34 rfl) (TO.qm rfl (TO.nl (T.block ?_))))))))))))))))
 refine T.loop (fun (k : Nat) ρ O => O = [oI b1 141 [(vI d.vars), (vI d.start), (.slice nb d.next.length nc), (.slice fb d.final.length fc)]] ∧ k ≤ l.length ∧ Heads [(0, (.agg #[(vI d.vars), (vI d.start), (.slice nb d.next.length nc), (.slice fb d.final.length fc)])), (1, (.slice wb l.length wc)), (2, (.pointer (aD b1))), (4, vI 0), (5, vI ((Lx.runN d d.start.toNat (l.take k) : Nat) : Int)), (11, (.slice wb l.length wc)), (12, vI (l.length : Int)), (13, vI (k : Int))] ρ) (fun k => l.length - k) 0 ?_ ?_
 ·exact ⟨rfl, Nat.zero_le _, (.of rfl)⟩
 rintro k ρ O ⟨rfl, hk, hH⟩
 obtain ⟨ρ0, rfl⟩ := hH.elim
 clear hH
 refine T.s (T.rg (TO.q (q_lss rfl rfl) (TO.nl (T.s (T.condP rfl (fun hc => ?_) (fun hc => ?_))))))
 ·have hlt14 : k < l.length := by omega
  obtain ⟨o, ho⟩ : ∃ o, Lx.runN d d.start.toNat (l.take k) = o := ⟨_, rfl⟩
  have ho9 : o < d.next.length := by rw [← ho]; exact runN_lt hv.toVal (by omega) _ (fun x hx => hwd x (List.mem_of_mem_take hx))
  have hlx : l[k] < 2 ^ d.vars.toNat := hwd _ (List.getElem_mem hlt14)
  obtain ⟨vb, vc, g1, s1⟩ := h.rows.get ho9
  have hl1 : d.next[o].length = 2 ^ d.vars.toNat := hv.len _ (List.getElem_mem ho9)
  obtain ⟨hta, _, hxk1, hx1⟩ := hv.toN_lt ho9 hlx
  have hx1 : (ints d.next[o])[l[k]]? = some (vI ((toN d o l[k] : Nat) : Int)) := by rw [ints_get hxk1, hx1]
  refine T.skip (T.s (T.block (T.s (T.rg (TO.q (q_ix (i := k) underlying34 inf5 rfl rfl (Sl.o hW) hlt14 (by rw [List.length_map]; exact hlt14)) (TO.q (q_ld underlying5 rfl rfl (Sl.o hW) (byts_get hlt14)) (TO.qa rfl (TO.nl (T.rg (TO.q (q_fa underlying141 rfl inf25 rfl rfl) (TO.q (q_fa underlying25 rfl inf22 rfl rfl) (TO.q (q_lb 0 underlying22 rfl rfl rfl rfl) (TO.q (QT.cast (q_move rfl) (v' := vI ((o : Nat) : Int)) (by show Value.int _ _ = _; rw [ho])) (TO.q (q_ix (i := o) underlying22 inf48 rfl rfl (Sl.o h.outer) ho9 (hvl ▸ ho9)) (TO.q (q_ld underlying48 rfl rfl (Sl.o h.outer) g1) (TO.qm rfl (TO.q (q_ix (i := l[k]) underlying48 inf3 rfl rfl (Sl.o s1) (by rw [hl1]; exact hlx) (by rw [List.length_map, hl1]; exact hlx)) (TO.q (q_ld underlying3 rfl rfl (Sl.o s1) hx1) (TO.qa rfl (TO.nl (T.rg (TO.q (q_inc rfl rfl (by omega)) (TO.qm rfl ?_)))))))))))))))))))))))
  refine TO.nl ?_
  refine ⟨k + 1, by omega, rfl, by omega, ?_⟩
  rw [runN_take hlt14, ho]; exact (.of rfl)
 have hge14 : ¬ k < l.length := by omega
 refine T.exit ?_
 refine T.s (T.rg (TO.qm rfl (TO.qa rfl (TO.nl (T.ret (Res.drop ?_))))))
 refine Res.one (vI ((Lx.runN d d.start.toNat (l.take k) : Nat) : Int)) Tryz.results113 rfl ?_
 have hke : k = l.length := by omega
 exact ⟨[], Sub.of (List.nil_sublist _), by rw [List.take_of_length_le (by omega)], rfl⟩
theorem runA (w : World) [Tab Tryz.prog w] (d : DFA) (nb fb : Option Addr) (nc fc : Nat) (vs : List Value) (h : DfaAt w d nb vs fb) (hb : d.next.length < 9223372036854775807) (hbr : ∀ r ∈ d.next, r.length < 9223372036854775807) (hbf : d.final.length < 9223372036854775807) (wb : Option Addr) (wc : Nat) (l : List Nat) (hW : Sl w wb (byts l)) (hwb : l.length < 9223372036854775807) (hw8 : ∀ x ∈ l, x < 256) :
  PureT Tryz.prog 100 [.agg (dfaCells d nb nc fb fc).toArray, .slice wb l.length wc] w fun v N => v = .tuple #[vI ((runV d l : Nat) : Int), vI ((runE d l : Nat) : Int)] ∧ N = [] := by
 refine CallT.enter func100 rfl ntmps100 rfl ?_
 refine T.s (T.rg (TO.l rfl (l_box (v := (.agg #[(vI d.vars), (vI d.start), (.slice nb d.next.length nc), (.slice fb d.final.length fc)])) (cs := [(vI d.vars), (vI d.start), (.slice nb d.next.length nc), (.slice fb d.final.length fc)]) rfl rfl (fun b1 => ?_))))
 refine TO.qa rfl (TO.qa rfl (TO.nl (T.s (T.s (T.rg (TO.q (q_la 0 underlying25 rfl inf25 rfl rfl rfl) ?_))))))
 have hk9 := fun (w1 : World) (hI : Inv w [oI b1 25 [(vI d.vars), (vI d.start), (.slice nb d.next.length nc), (.slice fb d.final.length fc)]] w1) => (haveI := Inv.tab (P := Tryz.prog) hI; subsetCheck w1 d nb fb nc fc vs (hI.dfa h) hb hbr hbf)
 refine TO.l rfl (l_call ent33 (CallT.op hk9) rfl ?_)
 clear hk9
 rintro v O' ⟨N, rfl, rfl, rfl⟩
 refine TO.qa rfl (TO.nl (T.s (T.rg (TO.qm rfl ?_))))
 by_cases hE : (checkD d : Int) ≠ 0
 ·refine TO.q (QT.toB (q_neq rfl rfl) (decide_eq_true hE)) ?_
  refine TO.nl ?_
  refine T.cond1 rfl ?_
  refine T.s (T.rg (TO.qm rfl (TO.qa rfl (TO.qa rfl (TO.nl (T.ret (Res.drop ?_)))))))
  refine Res.two (vI 0) (vI (checkD d : Int)) Tryz.results100 rfl rfl ?_
  have hE1 : runE d l = checkD d := by unfold runE; rw [if_pos (by omega)]
  have hE0 : ¬ runE d l = 0 := by omega
  exact ⟨[], Sub.of (List.nil_sublist _), by unfold runV; rw [if_neg hE0, hE1]; try rfl, rfl⟩
 refine TO.q (QT.toB (q_neq rfl rfl) (decide_eq_false hE)) (TO.nl (T.cond0 rfl (T.skip (T.s (T.block (T.s ?_))))))
 have he : checkD d = 0 := by omega
 have hv : Valid d := checkD_zero.1 he
 refine T.rg (TO.qm rfl (TO.q (q_len underlying34 rfl) ?_))
 by_cases h64 : (l.length : Int) > 64
 ·refine TO.q (QT.toB (q_gtr rfl rfl) (decide_eq_true h64)) ?_
  refine TO.qa rfl (TO.nl ?_)
  refine T.cond1 rfl ?_
  refine T.s (T.rg (TO.qa rfl (TO.qa rfl (TO.nl (T.ret (Res.drop ?_))))))
  refine Res.two (vI 0) (vI 4) Tryz.results100 rfl rfl ?_
  have hE1 : runE d l = 4 := by unfold runE; rw [if_neg (by simp [he]), if_pos (by omega)]
  have hE0 : ¬ runE d l = 0 := by omega
  exact ⟨[], Sub.of (List.nil_sublist _), by unfold runV; rw [if_neg hE0, hE1]; try rfl, rfl⟩
 refine TO.q (QT.toB (q_gtr rfl rfl) (decide_eq_false h64)) (TO.qa rfl (TO.nl (T.cond0 rfl (T.s (T.rg (TO.qm rfl (TO.q (q_makeFunc) ?_)))))))
 by_cases hany : l.any (fun x => decide (2 ^ d.vars.toNat ≤ x)) = true
 ·have hk20 := (containsFunc w wb wc l hW hwb (.func (.func 112) #[] #[.pointer (aD b1)]) (fun x => decide (2 ^ d.vars.toNat ≤ x)) [oI b1 25 [(vI d.vars), (vI d.start), (.slice nb d.next.length nc), (.slice fb d.final.length fc)]] (fun x hx => CallV.of_fn (first := []) (args := [.int .u8 (x : Int)]) (caps := [.pointer (aD b1)]) ent112 (tooGreat w d nb fb nc fc hv.v0 hv.v6 b1 x (hw8 x hx)))).mono (fun v O' hh => (⟨hh.1.trans (congrArg Value.bool ((show ∀ b : Bool, b = decide (b = true) from fun b => by cases b <;> rfl) _)), hh.2⟩ : v = .bool (decide (l.any (fun x => decide (2 ^ d.vars.toNat ≤ x)) = true)) ∧ O' = [oI b1 25 [(vI d.vars), (vI d.start), (.slice nb d.next.length nc), (.slice fb d.final.length fc)]]))
  refine TO.l rfl (l_call ent111 hk20 rfl ?_)
  clear hk20
  rintro v O' ⟨rfl, rfl⟩
  rw [decide_eq_true hany]
  refine TO.qa rfl (TO.nl ?_)
  refine T.cond1 rfl ?_
  refine T.s (T.rg (TO.qa rfl (TO.qa rfl (TO.nl (T.ret (Res.drop ?_))))))
  refine Res.two (vI 0) (vI 1) Tryz.results100 rfl rfl ?_
  have hE1 : runE d l = 1 := by unfold runE; rw [if_neg (by simp [he]), if_neg (by omega), if_pos hany]
  have hE0 : ¬ runE d l = 0 := by omega
  exact ⟨[], Sub.of (List.nil_sublist _), by unfold runV; rw [if_neg hE0, hE1]; try rfl, rfl⟩
 have hk20 := (containsFunc w wb wc l hW hwb (.func (.func 112) #[] #[.pointer (aD b1)]) (fun x => decide (2 ^ d.vars.toNat ≤ x)) [oI b1 25 [(vI d.vars), (vI d.start), (.slice nb d.next.length nc), (.slice fb d.final.length fc)]] (fun x hx => CallV.of_fn (first := []) (args := [.int .u8 (x : Int)]) (caps := [.pointer (aD b1)]) ent112 (tooGreat w d nb fb nc fc hv.v0 hv.v6 b1 x (hw8 x hx)))).mono (fun v O' hh => (⟨hh.1.trans (congrArg Value.bool ((show ∀ b : Bool, b = decide (b = true) from fun b => by cases b <;> rfl) _)), hh.2⟩ : v = .bool (decide (l.any (fun x => decide (2 ^ d.vars.toNat ≤ x)) = true)) ∧ O' = [oI b1 25 [(vI d.vars), (vI d.start), (.slice nb d.next.length nc), (.slice fb d.final.length fc)]]))
 refine TO.l rfl (l_call ent111 hk20 rfl ?_)
 clear hk20
 rintro v O' ⟨rfl, rfl⟩
 rw [decide_eq_false hany]
 refine TO.qa rfl (TO.nl (T.cond0 rfl (T.skip (T.s ?_))))
 have hE0 : runE d l = 0 := by unfold runE; rw [if_neg (by simp [he]), if_neg (by omega), if_neg hany]
 have hwd : Wd d l := (runE_zero.1 hE0).2.2
 refine T.rg (TO.q (q_la 0 underlying25 rfl inf25 rfl rfl rfl) (TO.q (q_build (cs := [(vI d.vars), (vI d.start), (.slice nb d.next.length nc), (.slice fb d.final.length fc)]) plan141 inf141 (by kernel_rfl)) (TO.q (q_makeFunc) (TO.qa rfl (TO.nl (T.s (T.rg (TO.qm rfl (TO.qm rfl ?_)))))))))
 have hk26 := CallV.of_fn (first := [.agg (dfaCells d nb nc fb fc).toArray]) (args := [.slice wb l.length wc]) (caps := []) ent113 (CallT.op (fun w1 (hI : Inv w [oI b1 25 [(vI d.vars), (vI d.start), (.slice nb d.next.length nc), (.slice fb d.final.length fc)]] w1) => haveI := Inv.tab (P := Tryz.prog) hI; runM w1 d nb fb nc fc vs (hI.dfa h) hv wb wc l (hI.sl hW) hwb hwd))
 refine TO.l rfl (l_callG hk26 rfl rfl ?_)
 clear hk26
 rintro v O' ⟨N, rfl, rfl, rfl⟩
 refine TO.qa rfl (TO.qa rfl (TO.nl (T.ret (Res.drop ?_))))
 refine Res.two (vI ((Lx.runN d d.start.toNat l : Nat) : Int)) (vI 0) Tryz.results100 rfl rfl ?_
 have hE1 := hE0
 exact ⟨[], Sub.of (List.nil_sublist _), by unfold runV; rw [if_pos hE0, hE1]; try rfl, rfl⟩
theorem acceptsA (w : World) [Tab Tryz.prog w] (d : DFA) (nb fb : Option Addr) (nc fc : Nat) (vs : List Value) (h : DfaAt w d nb vs fb) (hb : d.next.length < 9223372036854775807) (hbr : ∀ r ∈ d.next, r.length < 9223372036854775807) (hbf : d.final.length < 9223372036854775807) (wb : Option Addr) (wc : Nat) (l : List Nat) (hW : Sl w wb (byts l)) (hwb : l.length < 9223372036854775807) (hw8 : ∀ x ∈ l, x < 256) :
  PureT Tryz.prog 81 [.agg (dfaCells d nb nc fb fc).toArray, .slice wb l.length wc] w fun v N => v = .tuple #[.bool (accV d l), vI ((runE d l : Nat) : Int)] ∧ N = [] := by
 refine CallT.enter func81 rfl ntmps81 rfl ?_
 refine T.s (T.rg (TO.l rfl (l_box (v := (.agg #[(vI d.vars), (vI d.start), (.slice nb d.next.length nc), (.slice fb d.final.length fc)])) (cs := [(vI d.vars), (vI d.start), (.slice nb d.next.length nc), (.slice fb d.final.length fc)]) rfl rfl (fun b1 => ?_))))
 refine TO.qa rfl (TO.qa rfl (TO.nl (T.s (T.rg (TO.q (q_la 0 underlying25 rfl inf25 rfl rfl rfl) (TO.qm rfl ?_))))))
 have hk11 := fun (w1 : World) (hI : Inv w [oI b1 25 [(vI d.vars), (vI d.start), (.slice nb d.next.length nc), (.slice fb d.final.length fc)]] w1) => (haveI := Inv.tab (P := Tryz.prog) hI; runA w1 d nb fb nc fc vs (hI.dfa h) hb hbr hbf wb wc l (hI.sl hW) hwb hw8)
 refine TO.l rfl (l_call ent100 (CallT.op hk11) rfl ?_)
 clear hk11
 rintro v O' ⟨N, rfl, rfl, rfl⟩
 refine TO.qm rfl (TO.q (q_extract (vs := _) rfl rfl) (TO.q (q_extract (vs := _) rfl rfl) (TO.qa rfl (TO.qa rfl (TO.nl (T.s ?_))))))
 have hfin : runE d l = 0 → runV d l < d.final.length := fun h0 => by
  obtain ⟨hv, _, hwd⟩ := runE_zero.1 h0
  unfold runV; rw [if_pos h0, hv.fin]
  exact runN_lt hv.toVal (by have := hv.s0; have := hv.s1; omega) _ hwd
 refine T.rg (TO.qm rfl ?_)
 by_cases h0 : ((runE d l : Nat) : Int) = 0
 ·refine TO.q (QT.toB (q_eql rfl rfl) (decide_eq_true h0)) ?_
  refine TO.qm rfl (TO.gq rfl rfl (q_fa underlying25 rfl inf23 rfl rfl) (TO.gq rfl rfl (q_lb 0 underlying23 rfl rfl rfl rfl) (TO.gq rfl rfl (q_move rfl) (TO.gq rfl rfl (q_ix (i := (runV d l)) underlying23 inf4 rfl rfl (Sl.o h.final) (hfin (by omega)) (by rw [List.length_map]; exact hfin (by omega))) (TO.gq rfl rfl (q_ld underlying4 rfl rfl (Sl.o h.final) (show (bools d.final)[runV d l]? = some (.bool (finN d (runV d l))) by rw [bools_get (hfin (by omega))]; simp [finN, hfin (by omega)])) (TO.q (q_pick1 rfl rfl) (TO.qm rfl (TO.qa rfl (TO.qa rfl (TO.nl (T.ret (Res.drop ?_))))))))))))
  refine Res.two (.bool (finN d (runV d l))) (vI ((runE d l : Nat) : Int)) Tryz.results81 rfl rfl ?_
  have h9 : runE d l = 0 := by omega
  exact ⟨[], Sub.of (List.nil_sublist _), by unfold accV runV; rw [if_pos h9, if_pos h9], rfl⟩
 refine TO.q (QT.toB (q_eql rfl rfl) (decide_eq_false h0)) (TO.qm rfl (TO.pd rfl rfl (TO.pd rfl rfl (TO.pd rfl rfl (TO.pd rfl rfl (TO.pd rfl rfl (TO.q (q_pick0 rfl rfl) (TO.qm rfl (TO.qa rfl (TO.qa rfl (TO.nl (T.ret (Res.drop ?_)))))))))))))
 refine Res.two (.bool false) (vI ((runE d l : Nat) : Int)) Tryz.results81 rfl rfl ?_
 have h9 : ¬ runE d l = 0 := by omega
 exact ⟨[], Sub.of (List.nil_sublist _), by unfold accV; rw [if_neg h9], rfl⟩
end Go.Proofs.YtnpehjpookcfkaaGreatDoor


namespace Go.Lx
open Go.RowKit
def conO : DFA := ⟨1, 0, [[1, 0], [1, 1]], [true, false]⟩
def conS : DFA := ⟨1, 0, [[1, 1], [2, 2], [2, 2]], [true, true, false]⟩
theorem conO_valid : Valid conO := checkD_zero.1 (by decide)
theorem conS_valid : Valid conS := checkD_zero.1 (by decide)
theorem conA_valid : Valid (stayD 1 true) := stay_valid (by decide) (by decide) true
theorem conA2_valid : Valid (stayD 2 true) := stay_valid (by decide) (by decide) true
theorem conO_min : minD conO = conO := by kernel_rfl
theorem conA_min : minD (stayD 1 true) = stayD 1 true := by kernel_rfl
theorem stay_accT {w : List Nat} (hw : WdV 1 w) : acc (stayD 1 true) w = true := stay_acc (by decide) (by decide) true hw
theorem ones_iff : ∀ u : List Nat, (∀ x ∈ u, x < 2) → (acc conO u = true ↔ ∀ x ∈ u, x = 1) := by
 have key : ∀ u : List Nat, (∀ x ∈ u, x < 2) → runN conO 1 u = 1 := by
  intro u
  induction u with
  | nil => intro _; rfl
  | cons x l ih =>
   intro h
   have hx : x = 0 ∨ x = 1 := by have := h x (by simp); omega
   have hl := ih (fun y hy => h y (by simp [hy]))
   rcases hx with rfl | rfl <;> exact hl
 intro u
 induction u with
 | nil => intro _; exact ⟨fun _ x hx => by simp at hx, fun _ => rfl⟩
 | cons x l ih =>
  intro h
  have hx : x = 0 ∨ x = 1 := by have := h x (by simp); omega
  have hl := ih (fun y hy => h y (by simp [hy]))
  have kl := key l (fun y hy => h y (by simp [hy]))
  rcases hx with rfl | rfl
  ·have e : acc conO (0 :: l) = finN conO (runN conO 1 l) := rfl
   rw [e, kl]
   refine ⟨fun hh => absurd hh (by decide), fun hh => ?_⟩
   have := hh 0 (by simp)
   omega
  ·have e : acc conO (1 :: l) = acc conO l := rfl
   rw [e, hl]
   refine ⟨fun hh y hy => ?_, fun hh y hy => hh y (by simp [hy])⟩
   rcases List.mem_cons.1 hy with rfl | hy
   ·rfl
   ·exact hh y hy
theorem short_iff : ∀ u : List Nat, (∀ x ∈ u, x < 2) → (acc conS u = true ↔ u.length ≤ 1) := by
 have key : ∀ u : List Nat, (∀ x ∈ u, x < 2) → runN conS 2 u = 2 := by
  intro u
  induction u with
  | nil => intro _; rfl
  | cons x l ih =>
   intro h
   have hx : x = 0 ∨ x = 1 := by have := h x (by simp); omega
   have hl := ih (fun y hy => h y (by simp [hy]))
   rcases hx with rfl | rfl <;> exact hl
 intro u h
 match u, h with
 | [], _ => exact ⟨fun _ => by simp, fun _ => rfl⟩
 | [x], h =>
  have hx : x = 0 ∨ x = 1 := by have := h x (by simp); omega
  rcases hx with rfl | rfl
  ·exact ⟨fun _ => by simp, fun _ => rfl⟩
  ·exact ⟨fun _ => by simp, fun _ => rfl⟩
 | x :: y :: l, h =>
  have hx : x = 0 ∨ x = 1 := by have := h x (by simp); omega
  have hy : y = 0 ∨ y = 1 := by have := h y (by simp); omega
  have kl := key l (fun z hz => h z (by simp [hz]))
  have e : acc conS (x :: y :: l) = finN conS 2 := by
   have e1 : acc conS (x :: y :: l) = finN conS (runN conS 2 l) := by rcases hx with rfl | rfl <;> rcases hy with rfl | rfl <;> rfl
   rw [e1, kl]
  rw [e]
  exact ⟨fun hh => absurd hh (by decide), fun hh => absurd hh (by simp)⟩
theorem least_of {v : Int} {n : Nat} {d : DFA} {p : List Nat → Bool} (h : HasL v n d p) {w : List Nat} (hw : WdV v w) (hp : p w = true) (hle : ∀ u, WdV v u → p u = true → code w ≤ code u) {res : Option (List Nat)} (hr : LeastA d res) : res = some w :=
 hr.unique h.valid (b := some w) ⟨h.wd.2 hw, by rw [h.acc w hw]; exact hp, fun u hu ha => hle u (h.wd.1 hu) (by rw [← h.acc u (h.wd.1 hu)]; exact ha)⟩
theorem code_ge2 {u : List Nat} (h : ∀ x ∈ u, x = 1) (hl : ¬ u.length ≤ 1) : code [1, 1] ≤ code u := by
 by_cases h2 : u.length = 2
 ·match u, h2 with
  | [x, y], _ =>
   have := h x (by simp); have := h y (by simp)
   subst x; subst y
   exact Nat.le_refl _
 ·rcases Nat.lt_or_ge (code u) (code [1, 1]) with h3 | h3
  ·have := code_len u [1, 1] (fun x hx => by have := h x hx; omega) (fun x hx => by simp at hx; omega) (by omega)
   have e : [1, 1].length = 2 := rfl
   omega
  ·exact h3
theorem code_ge1 {u : List Nat} (h : u ≠ []) : code [0] ≤ code u := by
 have e : code [0] = 1 := rfl
 rw [e]
 have : ∀ u : List Nat, u ≠ [] → 1 ≤ code u := by
  intro u
  refine snocInd (p := fun u => u ≠ [] → 1 ≤ code u) (fun h => absurd rfl h) (fun l x _ _ => ?_) u
  rw [code_snoc]; omega
 exact this u h
end Go.Lx


namespace Go.Lx
open Go.RowKit
def Imp (v : Int) (p q r : List Nat → Bool) : Prop := ∀ w, WdV v w → p w = true → q w = true → r w = true
def Ref (v : Int) (p q p2 q2 : List Nat → Bool) : Prop := ∀ w, WdV v w → (p2 w = true → p w = true) ∧ ((q w || !p w) = true → (q2 w || !p2 w) = true)
noncomputable def impB (v : Int) (p q r : List Nat → Bool) : Bool := @decide (Imp v p q r) (Classical.propDecidable _)
noncomputable def refB (v : Int) (p q p2 q2 : List Nat → Bool) : Bool := @decide (Ref v p q p2 q2) (Classical.propDecidable _)
theorem impB_iff {v : Int} {p q r : List Nat → Bool} : impB v p q r = true ↔ Imp v p q r := @decide_eq_true_iff _ (Classical.propDecidable _)
theorem refB_iff {v : Int} {p q p2 q2 : List Nat → Bool} : refB v p q p2 q2 = true ↔ Ref v p q p2 q2 := @decide_eq_true_iff _ (Classical.propDecidable _)
theorem bool_iff {a b : Bool} (h : a = true ↔ b = true) : a = b := by cases a <;> cases b <;> simp_all
theorem isNone_iff {r : Option (List Nat)} : (!r.isSome) = true ↔ r = none := by cases r <;> simp
theorem impB_res {z x a g : DFA} {px p q : List Nat → Bool} (hz : Valid z) (hx : InL z x px) (ha : InL z a p) (hg : InL z g q) {res : Option (List Nat)} (h : LeastA (opD minusB (opD andB x a) g) res) : (!res.isSome) = impB z.vars px p q := by
 have hm := (InL.op (f := minusB) hz (InL.op (f := andB) hz hx ha).2 hg).1
 refine bool_iff (isNone_iff.trans ((h.none_iff hm.toHasL).trans (Iff.trans ?_ impB_iff.symm)))
 constructor
 ·intro hh w hw e1 e2
  have := hh w hw
  simp [minusB, andB, e1, e2] at this; exact this
 ·intro hh w hw
  have := hh w hw
  unfold minusB andB
  cases h1 : px w <;> cases h2 : p w <;> simp_all
theorem refB_res {z a b c d : DFA} {p q p2 q2 : List Nat → Bool} (hz : Valid z) (ha : InL z a p) (hb : InL z b q) (hc : InL z c p2) (hd : InL z d q2) {res : Option (List Nat)} (h : LeastA (opD orB (opD minusB c a) (opD minusB (satD a b) (satD c d))) res) : (!res.isSome) = refB z.vars p q p2 q2 := by
 have hm := (InL.op (f := orB) hz (InL.op (f := minusB) hz hc ha).2 (InL.op (f := minusB) hz (InL.sat hz ha hb).2 (InL.sat hz hc hd).2).2).1
 refine bool_iff (isNone_iff.trans ((h.none_iff hm.toHasL).trans (Iff.trans ?_ refB_iff.symm)))
 refine forall_congr' fun w => forall_congr' fun hw => ?_
 simp only [minusB, orB]
 cases p w <;> cases q w <;> cases p2 w <;> cases q2 w <;> simp
theorem res_none {r : Option (List Nat)} {b : Bool} (e : (!r.isSome) = b) (h : b = true) : r = none := isNone_iff.1 (e.trans h)
theorem HasL.short {v : Int} {n : Nat} {d : DFA} {p : List Nat → Bool} (h : HasL v n d p) {w : List Nat} (hw : WdV v w) (hp : p w = true) : ∃ u, WdV v u ∧ p u = true ∧ u.length < n := by
 obtain ⟨k, _, hD⟩ := Ds.some (d := d) (s := d.start.toNat) w.length w (h.wd.2 hw) (by have := h.acc w hw; rw [hp] at this; exact this) (Nat.le_refl _)
 obtain ⟨⟨u, h1, h2, h3⟩, _⟩ := id hD
 have hlt := Ds.lt h.valid.toVal (start_lt h.valid.toVal) hD
 have hl := h.len
 exact ⟨u, h.wd.1 h1, by rw [← h.acc u (h.wd.1 h1)]; exact h3, by omega⟩
theorem LeastA.short {v : Int} {n m : Nat} {a d : DFA} {p q : List Nat → Bool} (hd : HasL v n d p) (ha : HasL v m a q) (hq : ∀ w, WdV v w → q w = true → p w = true) {u : List Nat} (h : LeastA d (some u)) (hu : q u = true) : u.length < m := by
 obtain ⟨w, h1, h2, h3⟩ := ha.short (hd.wd.1 h.1) hu
 have hc := h.2.2 w (hd.wd.2 h1) (by rw [hd.acc w h1]; exact hq w h1 h2)
 have h6 := hd.v6
 have := code_len u w ((hd.wd.1 h.1).lt h6) (h1.lt h6) hc
 omega
theorem InL.accV {z d : DFA} {p : List Nat → Bool} (h : InL z d p) {w : List Nat} (hw : WdV z.vars w) (hl : w.length ≤ 64) : Lx.accV d w = p w := h.has.accV hw hl
section
variable {v : Int} {px py p q p1 q1 p2 q2 p3 q3 : List Nat → Bool}
theorem Ref.imp (h : Ref v p q p1 q1) (h2 : Imp v px p q) : Imp v px p1 q1 := fun w hw e1 e2 => by
 have a1 := h w hw
 have a2 := h2 w hw e1
 cases h1 : p w <;> cases h2 : q w <;> cases h3 : q1 w <;> simp_all
end
def satP (p q : List Nat → Bool) : List Nat → Bool := fun w => q w || !p w
def orP (p q : List Nat → Bool) : List Nat → Bool := fun w => p w || q w
def andP (p q : List Nat → Bool) : List Nat → Bool := fun w => p w && q w
def compP (p q p2 q2 : List Nat → Bool) : List Nat → Bool := fun w => (p w && p2 w) || !((q w || !p w) && (q2 w || !p2 w))
section
variable {z x a b c d : DFA} {px p q p2 q2 : List Nat → Bool}
theorem InL.orI (hz : Valid z) (ha : InL z a p) (hb : InL z b q) : InL z (opD orB a b) (orP p q) := (InL.op (f := orB) hz ha hb).2
theorem InL.andI (hz : Valid z) (ha : InL z a p) (hb : InL z b q) : InL z (opD andB a b) (andP p q) := (InL.op (f := andB) hz ha hb).2
theorem InL.satI (hz : Valid z) (ha : InL z a p) (hb : InL z b q) : InL z (satD a b) (satP p q) := (InL.sat hz ha hb).2
theorem InL.minI (hz : Valid z) (ha : InL z a p) : InL z (minD a) p := (InL.min hz ha).2
theorem InL.meetG (hz : Valid z) (ha : InL z a p) (hb : InL z b q) (hc : InL z c p2) (hd : InL z d q2) : InL z (opD andB (satD a b) (satD c d)) (andP (satP p q) (satP p2 q2)) := InL.andI hz (InL.satI hz ha hb) (InL.satI hz hc hd)
theorem InL.joinG (hz : Valid z) (ha : InL z a p) (hb : InL z b q) (hc : InL z c p2) (hd : InL z d q2) : InL z (opD orB (satD a b) (satD c d)) (orP (satP p q) (satP p2 q2)) := InL.orI hz (InL.satI hz ha hb) (InL.satI hz hc hd)
theorem InL.compA (hz : Valid z) (ha : InL z a p) (hb : InL z b q) (hc : InL z c p2) (hd : InL z d q2) : MinL z.vars z.next.length (opD orB (opD andB a c) (notD (opD andB (satD a b) (satD c d)))) (compP p q p2 q2) ∧ InL z (opD orB (opD andB a c) (notD (opD andB (satD a b) (satD c d)))) (compP p q p2 q2) :=
 InL.op (f := orB) hz (InL.op (f := andB) hz ha hc).2 (InL.not hz (InL.meetG hz ha hb hc hd)).2
end
section
variable {v : Int} {px py p q p1 q1 p2 q2 p3 q3 : List Nat → Bool}
theorem fc {P Q R : List Nat → Prop} (h : ∀ w, P w ↔ Q w ∧ R w) : (∀ w, WdV v w → P w) ↔ (∀ w, WdV v w → Q w) ∧ ∀ w, WdV v w → R w :=
 ⟨fun a => ⟨fun w hw => ((h w).1 (a w hw)).1, fun w hw => ((h w).1 (a w hw)).2⟩, fun a w hw => (h w).2 ⟨a.1 w hw, a.2 w hw⟩⟩
end
end Go.Lx


namespace Go.Lx
open Go.RowKit
abbrev allA : DFA := stayD 1 true
structure AwZ (z : DFA) : Prop where
 hz : Valid z
 v1 : z.vars = 1
 o : InL z conO (acc conO)
 s : InL z conS (acc conS)
 a : InL z allA (acc allA)
 len : z.next.length ≤ 6
theorem aw_z : ∃ z, AwZ z := by
 obtain ⟨h1, h2, h3, h4⟩ := zP_ok (v := 1) (by decide) (by decide) (l := [conO, conS, allA]) (fun d hd => by
  simp only [List.mem_cons, List.not_mem_nil, or_false] at hd
  rcases hd with rfl | rfl | rfl
  ·exact ⟨conO_valid.toVal, rfl⟩
  ·exact ⟨conS_valid.toVal, rfl⟩
  ·exact ⟨conA_valid.toVal, rfl⟩)
 have e : zN [conO, conS, allA] = 6 := rfl
 have hz : Valid (zP 1 [conO, conS, allA]) := ⟨h1, by rw [h3, e]; decide⟩
 refine ⟨zP 1 [conO, conS, allA], hz, h2, ?_, ?_, ?_, by rw [h3, e]; decide⟩
 ·exact InL.of hz conO_valid h2 (by rw [h3]; exact (h4 conO (by simp)).2) (h4 conO (by simp)).1
 ·exact InL.of hz conS_valid h2 (by rw [h3]; exact (h4 conS (by simp)).2) (h4 conS (by simp)).1
 ·exact InL.of hz conA_valid h2 (by rw [h3]; exact (h4 allA (by simp)).2) (h4 allA (by simp)).1
section
variable {z : DFA} (h : AwZ z)
theorem w2 {u : List Nat} (hu : WdV 1 u) : ∀ x ∈ u, x < 2 := hu
theorem all_t {u : List Nat} (hu : WdV 1 u) : acc allA u = true := stay_accT hu
theorem wd11 : WdV 1 [1, 1] := fun x hx => by simp at hx; subst hx; decide
theorem wd0 : WdV 1 [0] := fun x hx => by simp at hx; subst hx; decide
theorem not11 {u : List Nat} (hu : WdV 1 u) (h1 : acc conO u = true) (h2 : acc conS u = false) : code [1, 1] ≤ code u :=
 code_ge2 ((ones_iff u hu).1 h1) (fun hl => by rw [(short_iff u hu).2 hl] at h2; cases h2)
include h in
theorem AwZ.imp1 {res : Option (List Nat)} (hr : LeastA (opD minusB (opD andB conS conO) conS) res) : res = none := by
 have e := impB_res h.hz h.s h.o h.s hr
 exact res_none e (impB_iff.2 fun w _ e1 _ => e1)
include h in
theorem AwZ.imp2 {res : Option (List Nat)} (hr : LeastA (opD minusB (opD andB allA conO) conS) res) : res = some [1, 1] := by
 have hm := (InL.op (f := minusB) h.hz (InL.op (f := andB) h.hz h.a h.o).2 h.s).1.toHasL
 rw [h.v1] at hm
 refine least_of hm wd11 (by decide) (fun u hu hp => ?_) hr
 simp [minusB, andB] at hp
 exact not11 hu hp.1.2 hp.2
include h in
theorem AwZ.ref1 {res : Option (List Nat)} (hr : LeastA (opD orB (opD minusB conO conO) (opD minusB (satD conO conS) (satD conO allA))) res) : res = none := by
 have e := refB_res h.hz h.o h.s h.o h.a hr
 refine res_none e (refB_iff.2 fun w hw => ⟨id, fun _ => ?_⟩)
 rw [h.v1] at hw
 rw [all_t hw]; rfl
include h in
theorem AwZ.ref2 {res : Option (List Nat)} (hr : LeastA (opD orB (opD minusB conO conO) (opD minusB (satD conO allA) (satD conO conS))) res) : res = some [1, 1] := by
 have hm := (InL.op (f := orB) h.hz (InL.op (f := minusB) h.hz h.o h.o).2 (InL.op (f := minusB) h.hz (InL.sat h.hz h.o h.a).2 (InL.sat h.hz h.o h.s).2).2).1.toHasL
 rw [h.v1] at hm
 refine least_of hm wd11 (by decide) (fun u hu hp => ?_) hr
 simp only [orB, minusB] at hp
 refine not11 hu ?_ ?_
 ·cases h1 : acc conO u <;> simp_all
 ·cases h1 : acc conO u <;> cases h2 : acc conS u <;> simp_all
include h in
theorem AwZ.ref3 {res : Option (List Nat)} (hr : LeastA (opD orB (opD minusB allA conO) (opD minusB (satD conO conS) (satD allA conS))) res) : res = some [0] := by
 have hm := (InL.op (f := orB) h.hz (InL.op (f := minusB) h.hz h.a h.o).2 (InL.op (f := minusB) h.hz (InL.sat h.hz h.o h.s).2 (InL.sat h.hz h.a h.s).2).2).1.toHasL
 rw [h.v1] at hm
 refine least_of hm wd0 (by decide) (fun u hu hp => ?_) hr
 refine code_ge1 (fun e => ?_)
 subst e
 revert hp; decide
include h in
theorem AwZ.satF : accV (satD conO conS) [1, 1] = false ∧ accV (satD conO conS) [0, 0] = true ∧ accV (satD conO conS) [1] = true := by
 have hs := (InL.sat h.hz h.o h.s).2
 refine ⟨?_, ?_, ?_⟩
 ·rw [hs.accV (by rw [h.v1]; exact wd11) (by decide)]; decide
 ·rw [hs.accV (by rw [h.v1]; exact fun x hx => by simp at hx; subst hx; decide) (by decide)]; decide
 ·rw [hs.accV (by rw [h.v1]; exact fun x hx => by simp at hx; subst hx; decide) (by decide)]; decide
include h in
theorem AwZ.meet : opD orB conO allA = allA ∧ accV (opD andB (satD conO conS) (satD allA conS)) [0, 0] = false := by
 have hm := (InL.op (f := orB) h.hz h.o h.a).1
 have hi := (InL.min h.hz h.a).1
 rw [h.v1] at hm hi
 rw [show minD allA = allA from conA_min] at hi
 refine ⟨MinL.ext hm hi fun w hw => ?_, ?_⟩
 ·rw [all_t hw]; simp [orB]
 ·rw [(InL.meetG h.hz h.o h.s h.a h.s).accV (by rw [h.v1]; exact fun x hx => by simp at hx; subst hx; decide) (by decide)]; decide
include h in
theorem AwZ.comp : opD orB (opD andB conO conO) (notD (opD andB (satD conO conS) (satD conO conS))) = conO := by
 have hm := (InL.compA h.hz h.o h.s h.o h.s).1
 have hi := (InL.min h.hz h.o).1
 rw [conO_min] at hi
 refine MinL.ext hm hi fun w hw => ?_
 simp only [compP]
 cases h1 : acc conO w <;> cases h2 : acc conS w <;> rfl
end
end Go.Lx


namespace Go.Proofs.YtnpehjpookcfkaaGreatDoor
open Go.Lx Go.RowKit _root_.Go.Proofs.Tryz
theorem accF (w : World) [Tab Tryz.prog w] (a : DFA) (j : DK) (ha : At w a j) (ba : a.next.length < 9223372036854775807 ∧ (∀ r ∈ a.next, r.length < 9223372036854775807) ∧ a.final.length < 9223372036854775807) (wb : Option Addr) (wc : Nat) (l : List Nat) (hW : Sl w wb (byts l)) (hwb : l.length < 9223372036854775807) (hw8 : ∀ x ∈ l, x < 256) {b : Bool} (hb : accV a l = b) :
  PureT Tryz.prog 52 [dV a j, .slice wb l.length wc] w fun v N => v = .bool b ∧ N = [] := by
 refine CallT.enter func52 rfl ntmps52 rfl ?_
 subst hb
 refine T.s (T.rg (TO.l rfl (l_box (v := (dV a j)) (cs := (dC a j)) rfl rfl (fun b1 => ?_))))
 refine TO.qa rfl (TO.nl (T.s (T.rg (TO.q (q_la 0 uT25 rfl inf25 rfl rfl rfl) (TO.qm rfl (TO.l rfl (l_call ent81 (CallT.op fun w1 hI => (haveI := tbz hI; acceptsA w1 a j.nb j.fb j.nc j.fc (vals j.qs) (hI.dfa ha) ba.1 ba.2.1 ba.2.2 wb wc l (hI.sl hW) hwb hw8)) rfl ?_)))))))
 rintro v O' ⟨N, rfl, rfl, rfl⟩
 refine TO.qm rfl (TO.q (q_extract (vs := _) rfl rfl) (TO.q (q_extract (vs := _) rfl rfl) (TO.qa rfl (TO.qa rfl (TO.nl (T.s (T.rg (TO.qm rfl ?_))))))))
 by_cases hs14 : (accV a l) = true
 ·refine TO.q (QT.toB (q_move rfl) (hs14)) ?_
  refine TO.gq rfl rfl (q_move rfl) (TO.gq rfl rfl (q_eql rfl rfl) (TO.q (q_pick1 rfl rfl) (TO.qa rfl (TO.nl (T.ret (Res.drop ?_))))))
  refine Res.one (.bool (decide ((runE a l : Int) = 0))) Tryz.results52 rfl ?_
  exact ⟨[], Sub.z, congrArg Value.bool (by
   by_cases he : runE a l = 0
   ·simp_all
   ·have h9 : accV a l = false := by unfold accV; rw [if_neg he]
    simp_all), rfl⟩
 refine TO.q (QT.toB (q_move rfl) (Bool.eq_false_iff.2 hs14)) (TO.pd rfl rfl (TO.pd rfl rfl (TO.q (q_pick0 rfl rfl) (TO.qa rfl (TO.nl (T.ret (Res.drop ?_)))))))
 refine Res.one (.bool false) Tryz.results52 rfl ?_
 exact ⟨[], Sub.z, congrArg Value.bool (by
  by_cases he : runE a l = 0
  ·simp_all
  ·have h9 : accV a l = false := by unfold accV; rw [if_neg he]
   simp_all), rfl⟩
theorem isC (w : World) [Tab Tryz.prog w] (b1 b2 : Option Addr) (c1 c2 : Nat) (l : List Nat) (h1 : Sl w b1 (byts l)) (h2 : Sl w b2 (byts l)) (hl : l.length < 9223372036854775807) (b : Bool) :
  PureT Tryz.prog 53 [.slice b1 l.length c1, .bool b, vI 0, .bool b, .slice b2 l.length c2] w fun v N => v = .bool true ∧ N = [] := by
 refine CallT.enter func53 rfl ntmps53 rfl ?_
 refine T.s (T.rg (TO.qa rfl (TO.nl (T.s (T.rg (TO.qm rfl (TO.qm rfl ?_)))))))
 refine TO.l rfl (l_call ent15 (CallT.op fun w1 hI => (haveI := tbz hI; (show PureT _ _ _ _ _ from by
   have h9 := equalBytes w1 b1 b2 c1 c2 l l (hI.sl h1) (hI.sl h2) hl
   rw [decide_eq_true rfl] at h9
   exact h9))) rfl ?_)
 rintro v O' ⟨N, rfl, rfl, rfl⟩
 refine TO.qm rfl (TO.gq rfl rfl (q_move rfl) (TO.gq rfl rfl (q_move rfl) (TO.gq rfl rfl (QT.toB (q_beql uT4 rfl rfl) (decide_eq_true rfl)) (TO.q (q_pick1 rfl rfl) (TO.qm rfl (TO.gq rfl rfl (q_move rfl) (TO.gq rfl rfl (QT.toB (q_eql rfl rfl) (decide_eq_true rfl)) (TO.q (q_pick1 rfl rfl) (TO.qa rfl ?_)))))))))
 refine TO.nl (T.ret (Res.drop ?_))
 refine Res.one (.bool true) Tryz.results53 rfl ?_
 exact ⟨[], Sub.z, rfl, rfl⟩
theorem equalK (w : World) [Tab Tryz.prog w] (d : DFA) (j k : DK) (h1 : At w d j) (h2 : At w d k) (bd : d.next.length < 9223372036854775807 ∧ (∀ r ∈ d.next, r.length < 9223372036854775807) ∧ d.final.length < 9223372036854775807) :
  PureT Tryz.prog 16 [dV d j, dV d k] w fun v N => v = .bool true ∧ N = [] :=
 (CallT.none (equalDFA w d d j.nb k.nb j.fb k.fb j.nc k.nc j.fc k.fc (vals j.qs) (vals k.qs) h1 h2 bd.1 bd.2.1 bd.2.2)).mono fun v N ⟨h1, O2, h2, _⟩ => ⟨h2.trans (congrArg Value.bool (decide_eq_true rfl)), h1⟩
theorem equalC (w : World) [Tab Tryz.prog w] (a g : DFA) (j k j2 k2 : DK) (h1 : At w a j) (h2 : At w g k) (h3 : At w a j2) (h4 : At w g k2) (ba : a.next.length < 9223372036854775807 ∧ (∀ r ∈ a.next, r.length < 9223372036854775807) ∧ a.final.length < 9223372036854775807) (bg : g.next.length < 9223372036854775807 ∧ (∀ r ∈ g.next, r.length < 9223372036854775807) ∧ g.final.length < 9223372036854775807) :
  PureT Tryz.prog 14 [cV a g j k, cV a g j2 k2] w fun v N => v = .bool true ∧ N = [] := by
 refine CallT.enter func14 rfl ntmps14 rfl ?_
 refine T.s (T.rg (TO.l rfl (l_box (v := (cV a g j k)) (cs := (cC a g j k)) rfl rfl (fun b1 => ?_))))
 refine TO.l rfl (l_box (v := (cV a g j2 k2)) (cs := (cC a g j2 k2)) rfl rfl (fun b2 => ?_))
 refine TO.qa rfl (TO.nl (T.s (T.rg (TO.q (q_fa uT27 rfl inf25 rfl rfl) (TO.q (q_load_part 1 (vs := (dC a j)) uT25 rfl inf25 rfl rfl rfl rfl) (TO.q (q_fa uT27 rfl inf25 rfl rfl) (TO.q (q_load_part 0 (vs := (dC a j2)) uT25 rfl inf25 rfl rfl rfl rfl) (TO.l rfl (l_call ent16 (CallT.op fun w1 hI => (haveI := tbz hI; equalK w1 a j j2 (hI.atB h1) (hI.atB h3) ba)) rfl ?_)))))))))
 rintro v O' ⟨N, rfl, rfl, rfl⟩
 refine TO.qm rfl (TO.gq rfl rfl (q_fa uT27 rfl inf25 rfl rfl) (TO.gq rfl rfl (q_load_part 1 (vs := (dC g k)) uT25 rfl inf25 rfl rfl rfl rfl) (TO.gq rfl rfl (q_fa uT27 rfl inf25 rfl rfl) (TO.gq rfl rfl (q_load_part 0 (vs := (dC g k2)) uT25 rfl inf25 rfl rfl rfl rfl) ?_))))
 refine TO.gd rfl rfl rfl (l_call ent16 (CallT.op fun w1 hI => (haveI := tbz hI; equalK w1 g k k2 (hI.atB h2) (hI.atB h4) bg)) rfl ?_)
 rintro v O' ⟨N, rfl, rfl, rfl⟩
 refine TO.q (q_pick1 rfl rfl) (TO.qa rfl (TO.nl (T.ret (Res.drop ?_))))
 refine Res.one (.bool true) Tryz.results14 rfl ?_
 exact ⟨[], Sub.z, rfl, rfl⟩
theorem onesK (w : World) [Tab Tryz.prog w] : PureT Tryz.prog 28 [] w fun v N => ∃ k' : DK, v = dV conO k' ∧ N = [dI 48 4 3 conO k'] := by
 refine CallT.enter func28 rfl ntmps28 rfl ?_
 refine T.s (T.rg (TO.l rfl (l_alloc inf25 rfl (fun z1 => ?_))))
 refine TO.nl (T.s (T.rg (TO.l rfl (l_buildSlice (m := 2) (parts := [(0, .const (vI 1)), (1, .const (vI 0))]) (cs := [vI 1, vI 0]) uT48 inf3 (by decide) (by kernel_rfl) rfl (fun z2 => ?_)))))
 refine TO.l rfl (l_buildSlice (m := 2) (parts := [(0, .const (vI 1)), (1, .const (vI 1))]) (cs := [vI 1, vI 1]) uT48 inf3 (by decide) (by kernel_rfl) rfl (fun z3 => ?_))
 refine TO.l rfl (l_buildSlice (m := 2) (parts := [(0, .tmp 1), (1, .tmp 2)]) (cs := [(.slice (aD z2) 2 2), (.slice (aD z3) 2 2)]) uT22 inf48 (by decide) (by kernel_rfl) rfl (fun z4 => ?_))
 refine TO.l rfl (l_buildSlice (m := 2) (parts := [(0, .const (.bool true)), (1, .const (.bool false))]) (cs := [.bool true, .bool false]) uT23 inf4 (by decide) (by kernel_rfl) rfl (fun z5 => ?_))
 refine TO.q (q_build (cs := [vI 1, (vI 0), (.slice (aD z4) 2 2), (.slice (aD z5) 2 2)]) plan25 inf25 (by kernel_rfl)) (TO.l rfl (l_sb (v := (.agg #[vI 1, (vI 0), (.slice (aD z4) 2 2), (.slice (aD z5) 2 2)])) (vs := [vI 1, (vI 0), (.slice (aD z4) 2 2), (.slice (aD z5) 2 2)]) 4 inf25 rfl rfl rfl rfl rfl rfl (by simp [putL]) ?_))
 refine TO.nl ?_
 refine T.sub (O' := [rowI (aD z4) 2 48 1 [(.slice (aD z2) 2 2), (.slice (aD z3) 2 2)], rowI (aD z5) 2 4 1 [.bool true, .bool false], rowI (aD z2) 2 3 1 [vI 1, vI 0], rowI (aD z3) 2 3 1 [vI 1, vI 1], oI z1 25 [vI 1, (vI 0), (.slice (aD z4) 2 2), (.slice (aD z5) 2 2)]]) (Sub.pick [1, 0, 1, 0, 0] rfl) ?_
 obtain ⟨k0, hk0⟩ : ∃ k : DK, k = ⟨some ⟨z4, 0, none⟩, 2, some ⟨z5, 0, none⟩, 2, [⟨some ⟨z2, 0, none⟩, 2, [1, 0]⟩, ⟨some ⟨z3, 0, none⟩, 2, [1, 1]⟩]⟩ := ⟨_, rfl⟩
 refine T.sub (O' := (([rowI k0.nb k0.nc 48 1 (vals k0.qs), rowI k0.fb k0.fc 4 1 (bools conO.final)] ++ itms 3 k0.qs) ++ [oI z1 25 [vI 1, (vI 0), (.slice (aD z4) 2 2), (.slice (aD z5) 2 2)]])) (by subst hk0; exact Sub.rf) ?_
 refine T.pack (φ := nums k0.qs = conO.next) (by subst hk0; rfl) ?_
 refine T.sub (O' := [dI 48 4 3 conO k0, oI z1 25 (dC conO k0)]) (by subst hk0; exact Sub.rf) ?_
 refine T.ret (Res.drop ?_)
 refine Res.cell1 (i := 1) Tryz.results28 uT25 rfl inf25 rfl rfl rfl ?_
 exact ⟨[dI 48 4 3 conO k0], (Sub.pick [0] rfl), k0, rfl, rfl⟩
theorem shortK (w : World) [Tab Tryz.prog w] : PureT Tryz.prog 29 [] w fun v N => ∃ k' : DK, v = dV conS k' ∧ N = [dI 48 4 3 conS k'] := by
 refine CallT.enter func29 rfl ntmps29 rfl ?_
 refine T.s (T.rg (TO.l rfl (l_alloc inf25 rfl (fun z1 => ?_))))
 refine TO.nl (T.s (T.rg (TO.l rfl (l_buildSlice (m := 2) (parts := [(0, .const (vI 1)), (1, .const (vI 1))]) (cs := [vI 1, vI 1]) uT48 inf3 (by decide) (by kernel_rfl) rfl (fun z2 => ?_)))))
 refine TO.l rfl (l_buildSlice (m := 2) (parts := [(0, .const (vI 2)), (1, .const (vI 2))]) (cs := [vI 2, vI 2]) uT48 inf3 (by decide) (by kernel_rfl) rfl (fun z3 => ?_))
 refine TO.l rfl (l_buildSlice (m := 2) (parts := [(0, .const (vI 2)), (1, .const (vI 2))]) (cs := [vI 2, vI 2]) uT48 inf3 (by decide) (by kernel_rfl) rfl (fun z4 => ?_))
 refine TO.l rfl (l_buildSlice (m := 3) (parts := [(0, .tmp 1), (1, .tmp 2), (2, .tmp 3)]) (cs := [(.slice (aD z2) 2 2), (.slice (aD z3) 2 2), (.slice (aD z4) 2 2)]) uT22 inf48 (by decide) (by kernel_rfl) rfl (fun z5 => ?_))
 refine TO.l rfl (l_buildSlice (m := 3) (parts := [(0, .const (.bool true)), (1, .const (.bool true)), (2, .const (.bool false))]) (cs := [.bool true, .bool true, .bool false]) uT23 inf4 (by decide) (by kernel_rfl) rfl (fun z6 => ?_))
 refine TO.q (q_build (cs := [vI 1, (vI 0), (.slice (aD z5) 3 3), (.slice (aD z6) 3 3)]) plan25 inf25 (by kernel_rfl)) (TO.l rfl (l_sb (v := (.agg #[vI 1, (vI 0), (.slice (aD z5) 3 3), (.slice (aD z6) 3 3)])) (vs := [vI 1, (vI 0), (.slice (aD z5) 3 3), (.slice (aD z6) 3 3)]) 5 inf25 rfl rfl rfl rfl rfl rfl (by simp [putL]) ?_))
 refine TO.nl ?_
 refine T.sub (O' := [rowI (aD z5) 3 48 1 [(.slice (aD z2) 2 2), (.slice (aD z3) 2 2), (.slice (aD z4) 2 2)], rowI (aD z6) 3 4 1 [.bool true, .bool true, .bool false], rowI (aD z2) 2 3 1 [vI 1, vI 1], rowI (aD z3) 2 3 1 [vI 2, vI 2], rowI (aD z4) 2 3 1 [vI 2, vI 2], oI z1 25 [vI 1, (vI 0), (.slice (aD z5) 3 3), (.slice (aD z6) 3 3)]]) (Sub.pick [1, 0, 2, 1, 0, 0] rfl) ?_
 obtain ⟨k0, hk0⟩ : ∃ k : DK, k = ⟨some ⟨z5, 0, none⟩, 3, some ⟨z6, 0, none⟩, 3, [⟨some ⟨z2, 0, none⟩, 2, [1, 1]⟩, ⟨some ⟨z3, 0, none⟩, 2, [2, 2]⟩, ⟨some ⟨z4, 0, none⟩, 2, [2, 2]⟩]⟩ := ⟨_, rfl⟩
 refine T.sub (O' := (([rowI k0.nb k0.nc 48 1 (vals k0.qs), rowI k0.fb k0.fc 4 1 (bools conS.final)] ++ itms 3 k0.qs) ++ [oI z1 25 [vI 1, (vI 0), (.slice (aD z5) 3 3), (.slice (aD z6) 3 3)]])) (by subst hk0; exact Sub.rf) ?_
 refine T.pack (φ := nums k0.qs = conS.next) (by subst hk0; rfl) ?_
 refine T.sub (O' := [dI 48 4 3 conS k0, oI z1 25 (dC conS k0)]) (by subst hk0; exact Sub.rf) ?_
 refine T.ret (Res.drop ?_)
 refine Res.cell1 (i := 1) Tryz.results29 uT25 rfl inf25 rfl rfl rfl ?_
 exact ⟨[dI 48 4 3 conS k0], (Sub.pick [0] rfl), k0, rfl, rfl⟩
theorem all1K (w : World) [Tab Tryz.prog w] : PureT Tryz.prog 30 [vI 1] w fun v N => ∃ k' : DK, v = dV (stayD 1 true) k' ∧ N = [dI 48 4 3 (stayD 1 true) k'] := by
 refine CallT.enter func30 rfl ntmps30 rfl ?_
 refine T.s (T.rg (TO.l rfl (l_alloc inf25 rfl (fun z1 => ?_))))
 refine TO.nl (T.s (T.rg (TO.qm rfl (TO.qm rfl (TO.q (QT.cast (q_shl1 (v := 1) rfl rfl (by omega)) (v' := vI 2) rfl) (TO.l rfl (l_makeSlice (m := 2) uT48 inf3 rfl rfl (by omega) (by omega) (fun z2 => ?_))))))))
 refine TO.l rfl (l_build1 (v := (.slice (aD z2) 2 2)) uT22 inf48 rfl rfl rfl (fun z3 => ?_))
 refine TO.l rfl (l_build1 (v := .bool true) uT23 inf4 rfl rfl rfl (fun z4 => ?_))
 refine TO.q (q_build (cs := [vI 1, (vI 0), (.slice (aD z3) 1 1), (.slice (aD z4) 1 1)]) plan25 inf25 (by kernel_rfl)) (TO.l rfl (l_sb (v := (.agg #[vI 1, (vI 0), (.slice (aD z3) 1 1), (.slice (aD z4) 1 1)])) (vs := [vI 1, (vI 0), (.slice (aD z3) 1 1), (.slice (aD z4) 1 1)]) 3 inf25 rfl rfl rfl rfl rfl rfl (by simp [putL]) ?_))
 refine TO.nl ?_
 refine T.sub (O' := [rowI (aD z3) 1 48 1 [(.slice (aD z2) 2 2)], rowI (aD z4) 1 4 1 [.bool true], rowI (aD z2) 2 3 1 (List.replicate 2 (vI 0)), oI z1 25 [vI 1, (vI 0), (.slice (aD z3) 1 1), (.slice (aD z4) 1 1)]]) (Sub.pick [1, 0, 0, 0] rfl) ?_
 obtain ⟨k0, hk0⟩ : ∃ k : DK, k = ⟨some ⟨z3, 0, none⟩, 1, some ⟨z4, 0, none⟩, 1, [⟨some ⟨z2, 0, none⟩, 2, [0, 0]⟩]⟩ := ⟨_, rfl⟩
 refine T.sub (O' := (([rowI k0.nb k0.nc 48 1 (vals k0.qs), rowI k0.fb k0.fc 4 1 (bools (stayD 1 true).final)] ++ itms 3 k0.qs) ++ [oI z1 25 [vI 1, (vI 0), (.slice (aD z3) 1 1), (.slice (aD z4) 1 1)]])) (by subst hk0; exact Sub.rf) ?_
 refine T.pack (φ := nums k0.qs = (stayD 1 true).next) (by subst hk0; rfl) ?_
 refine T.sub (O' := [dI 48 4 3 (stayD 1 true) k0, oI z1 25 (dC (stayD 1 true) k0)]) (by subst hk0; exact Sub.rf) ?_
 refine T.ret (Res.drop ?_)
 refine Res.cell1 (i := 1) Tryz.results30 uT25 rfl inf25 rfl rfl rfl ?_
 exact ⟨[dI 48 4 3 (stayD 1 true) k0], (Sub.pick [0] rfl), k0, rfl, rfl⟩
theorem all2K (w : World) [Tab Tryz.prog w] : PureT Tryz.prog 30 [vI 2] w fun v N => ∃ k' : DK, v = dV (stayD 2 true) k' ∧ N = [dI 48 4 3 (stayD 2 true) k'] := by
 refine CallT.enter func30 rfl ntmps30 rfl ?_
 refine T.s (T.rg (TO.l rfl (l_alloc inf25 rfl (fun z1 => ?_))))
 refine TO.nl (T.s (T.rg (TO.qm rfl (TO.qm rfl (TO.q (QT.cast (q_shl1 (v := 2) rfl rfl (by omega)) (v' := vI 4) rfl) (TO.l rfl (l_makeSlice (m := 4) uT48 inf3 rfl rfl (by omega) (by omega) (fun z2 => ?_))))))))
 refine TO.l rfl (l_build1 (v := (.slice (aD z2) 4 4)) uT22 inf48 rfl rfl rfl (fun z3 => ?_))
 refine TO.l rfl (l_build1 (v := .bool true) uT23 inf4 rfl rfl rfl (fun z4 => ?_))
 refine TO.q (q_build (cs := [vI 2, (vI 0), (.slice (aD z3) 1 1), (.slice (aD z4) 1 1)]) plan25 inf25 (by kernel_rfl)) (TO.l rfl (l_sb (v := (.agg #[vI 2, (vI 0), (.slice (aD z3) 1 1), (.slice (aD z4) 1 1)])) (vs := [vI 2, (vI 0), (.slice (aD z3) 1 1), (.slice (aD z4) 1 1)]) 3 inf25 rfl rfl rfl rfl rfl rfl (by simp [putL]) ?_))
 refine TO.nl ?_
 refine T.sub (O' := [rowI (aD z3) 1 48 1 [(.slice (aD z2) 4 4)], rowI (aD z4) 1 4 1 [.bool true], rowI (aD z2) 4 3 1 (List.replicate 4 (vI 0)), oI z1 25 [vI 2, (vI 0), (.slice (aD z3) 1 1), (.slice (aD z4) 1 1)]]) (Sub.pick [1, 0, 0, 0] rfl) ?_
 obtain ⟨k0, hk0⟩ : ∃ k : DK, k = ⟨some ⟨z3, 0, none⟩, 1, some ⟨z4, 0, none⟩, 1, [⟨some ⟨z2, 0, none⟩, 4, [0, 0, 0, 0]⟩]⟩ := ⟨_, rfl⟩
 refine T.sub (O' := (([rowI k0.nb k0.nc 48 1 (vals k0.qs), rowI k0.fb k0.fc 4 1 (bools (stayD 2 true).final)] ++ itms 3 k0.qs) ++ [oI z1 25 [vI 2, (vI 0), (.slice (aD z3) 1 1), (.slice (aD z4) 1 1)]])) (by subst hk0; exact Sub.rf) ?_
 refine T.pack (φ := nums k0.qs = (stayD 2 true).next) (by subst hk0; rfl) ?_
 refine T.sub (O' := [dI 48 4 3 (stayD 2 true) k0, oI z1 25 (dC (stayD 2 true) k0)]) (by subst hk0; exact Sub.rf) ?_
 refine T.ret (Res.drop ?_)
 refine Res.cell1 (i := 1) Tryz.results30 uT25 rfl inf25 rfl rfl rfl ?_
 exact ⟨[dI 48 4 3 (stayD 2 true) k0], (Sub.pick [0] rfl), k0, rfl, rfl⟩
end Go.Proofs.YtnpehjpookcfkaaGreatDoor


namespace Go.Lx
open Go.RowKit
structure AwX (z dO dS dA dB mS mT mV : DFA) : Prop where
  hz : Valid z
  v1 : z.vars = 1
  eO : conO = dO
  eS : conS = dS
  eA : stayD 1 true = dA
  eB : stayD 2 true = dB
  o : InL z dO (acc dO)
  s : InL z dS (acc dS)
  a : InL z dA (acc dA)
  vB : Valid dB
  eM : minD dO = dO
  eSat : satD dO dS = mS
  hS : InL z mS (fun w => acc dS w || !acc dO w)
  s1 : accV mS [1, 1] = false
  s2 : accV mS [0, 0] = true
  s3 : accV mS [1] = true
  i1 : ∀ res, LeastA (opD minusB (opD andB dS dO) dS) res → res = none
  i2 : ∀ res, LeastA (opD minusB (opD andB dA dO) dS) res → res = some [1, 1]
  r1 : ∀ res, LeastA (opD orB (opD minusB dO dO) (opD minusB (satD dO dS) (satD dO dA))) res → res = none
  r2 : ∀ res, LeastA (opD orB (opD minusB dO dO) (opD minusB (satD dO dA) (satD dO dS))) res → res = some [1, 1]
  r3 : ∀ res, LeastA (opD orB (opD minusB dA dO) (opD minusB (satD dO dS) (satD dA dS))) res → res = some [0]
  m1 : opD orB dO dA = dA
  m2 : opD andB (satD dO dS) (satD dA dS) = mT
  m3 : accV mT [0, 0] = false
  bT : mT.next.length < 9223372036854775807 ∧ (∀ r ∈ mT.next, r.length < 9223372036854775807) ∧ mT.final.length < 9223372036854775807
  c1 : opD orB (opD andB dO dO) (notD (opD andB (satD dO dS) (satD dO dS))) = dO
  c2 : opD andB (satD dO dS) (satD dO dS) = mV
  e7 : cE dA dB = 7
theorem aw_x : ∃ z dO dS dA dB mS mT mV : DFA, AwX z dO dS dA dB mS mT mV := by
  obtain ⟨z, h⟩ := aw_z
  refine ⟨z, conO, conS, stayD 1 true, stayD 2 true, satD conO conS, opD andB (satD conO conS) (satD allA conS), opD andB (satD conO conS) (satD conO conS), ?_⟩
  exact { hz := h.hz, v1 := h.v1, eO := rfl, eS := rfl, eA := rfl, eB := rfl, o := h.o, s := h.s, a := h.a, vB := conA2_valid, eM := conO_min, eSat := rfl, hS := (InL.sat h.hz h.o h.s).2, s1 := h.satF.1, s2 := h.satF.2.1, s3 := h.satF.2.2,
          i1 := fun res hr => h.imp1 hr, i2 := fun res hr => h.imp2 hr, r1 := fun res hr => h.ref1 hr, r2 := fun res hr => h.ref2 hr, r3 := fun res hr => h.ref3 hr, m1 := h.meet.1, m2 := rfl, m3 := h.meet.2, bT := (InL.meetG h.hz h.o h.s h.a h.s).bds, c1 := h.comp, c2 := rfl,
          e7 := cE_vars (checkD_zero.2 conA_valid) (checkD_zero.2 conA2_valid) (by decide) }
end Go.Lx


namespace Go.Proofs.YtnpehjpookcfkaaGreatDoor
open Go.Lx Go.RowKit _root_.Go.Proofs.Tryz
theorem onesE (w : World) [Tab Tryz.prog w] {d : DFA} (h : conO = d) : PureT Tryz.prog 28 [] w fun v N => ∃ k' : DK, v = dV d k' ∧ N = [dI 48 4 3 d k'] := by
 subst h
 exact onesK w
theorem shortE (w : World) [Tab Tryz.prog w] {d : DFA} (h : conS = d) : PureT Tryz.prog 29 [] w fun v N => ∃ k' : DK, v = dV d k' ∧ N = [dI 48 4 3 d k'] := by
 subst h
 exact shortK w
theorem all1E (w : World) [Tab Tryz.prog w] {d : DFA} (h : stayD 1 true = d) : PureT Tryz.prog 30 [vI 1] w fun v N => ∃ k' : DK, v = dV d k' ∧ N = [dI 48 4 3 d k'] := by
 subst h
 exact all1K w
theorem all2E (w : World) [Tab Tryz.prog w] {d : DFA} (h : stayD 2 true = d) : PureT Tryz.prog 30 [vI 2] w fun v N => ∃ k' : DK, v = dV d k' ∧ N = [dI 48 4 3 d k'] := by
 subst h
 exact all2K w
theorem implL (w : World) [Tab Tryz.prog w] {z x a g : DFA} {px p q : List Nat → Bool} (hz : Valid z) (hx : InL z x px) (ha : InL z a p) (hg : InL z g q) (i j k : DK) (hi : At w x i) (hj : At w a j) (hk : At w g k) {r : Option (List Nat)} (hr : ∀ res, LeastA (opD minusB (opD andB x a) g) res → res = r) :
  PureT Tryz.prog 12 [dV x i, cV a g j k] w fun v N => ∃ wb wc, v = .tuple #[.slice wb (r.getD []).length wc, .bool (!r.isSome), vI 0] ∧ N = [rowI wb wc 5 1 (byts (r.getD []))] := by
 refine (implC w hz hx ha hg i j k hi hj hk).mono ?_
 rintro v N ⟨res, wb, wc, hL, rfl, rfl⟩
 obtain rfl := hr _ hL
 exact ⟨wb, wc, rfl, rfl⟩
theorem refL (w : World) [Tab Tryz.prog w] {z a b0 c d : DFA} {p q p2 q2 : List Nat → Bool} (hz : Valid z) (ha : InL z a p) (hb : InL z b0 q) (hc : InL z c p2) (hd : InL z d q2) (j1 j2 j3 j4 : DK) (hj1 : At w a j1) (hj2 : At w b0 j2) (hj3 : At w c j3) (hj4 : At w d j4) {r : Option (List Nat)} (hr : ∀ res, LeastA (opD orB (opD minusB c a) (opD minusB (satD a b0) (satD c d))) res → res = r) :
  PureT Tryz.prog 20 [cV a b0 j1 j2, cV c d j3 j4] w fun v N => ∃ wb wc, v = .tuple #[.slice wb (r.getD []).length wc, .bool (!r.isSome), vI 0] ∧ N = [rowI wb wc 5 1 (byts (r.getD []))] := by
 refine (refC w hz ha hb hc hd j1 j2 j3 j4 hj1 hj2 hj3 hj4).mono ?_
 rintro v N ⟨res, wb, wc, hL, rfl, rfl⟩
 obtain rfl := hr _ hL
 exact ⟨wb, wc, rfl, rfl⟩
theorem meetX (w : World) [Tab Tryz.prog w] {z a b c d : DFA} {p q p2 q2 : List Nat → Bool} (hz : Valid z) (ha : InL z a p) (hb : InL z b q) (hc : InL z c p2) (hd : InL z d q2) (j1 j2 j3 j4 : DK) (hj1 : At w a j1) (hj2 : At w b j2) (hj3 : At w c j3) (hj4 : At w d j4) {X Y : DFA} (e1 : (opD orB a c) = X) (e2 : (opD andB (satD a b) (satD c d)) = Y) :
  PureT Tryz.prog 22 [cV a b j1 j2, cV c d j3 j4] w fun v N => ∃ k1 k2 : DK, v = .tuple #[cV X Y k1 k2, vI 0] ∧ N = [dI 48 4 3 X k1, dI 48 4 3 Y k2] := by
 subst e1 e2
 exact meetC w hz ha hb hc hd j1 j2 j3 j4 hj1 hj2 hj3 hj4
theorem compX (w : World) [Tab Tryz.prog w] {z a b c d : DFA} {p q p2 q2 : List Nat → Bool} (hz : Valid z) (ha : InL z a p) (hb : InL z b q) (hc : InL z c p2) (hd : InL z d q2) (j1 j2 j3 j4 : DK) (hj1 : At w a j1) (hj2 : At w b j2) (hj3 : At w c j3) (hj4 : At w d j4) {X Y : DFA} (e1 : (opD orB (opD andB a c) (notD (opD andB (satD a b) (satD c d)))) = X) (e2 : (opD andB (satD a b) (satD c d)) = Y) :
  PureT Tryz.prog 26 [cV a b j1 j2, cV c d j3 j4] w fun v N => ∃ k1 k2 : DK, v = .tuple #[cV X Y k1 k2, vI 0] ∧ N = [dI 48 4 3 X k1, dI 48 4 3 Y k2] := by
 subst e1 e2
 exact compC w hz ha hb hc hd j1 j2 j3 j4 hj1 hj2 hj3 hj4
theorem satX (w : World) [Tab Tryz.prog w] {z a b : DFA} {p q : List Nat → Bool} (hz : Valid z) (ha : InL z a p) (hb : InL z b q) (j1 j2 : DK) (hj1 : At w a j1) (hj2 : At w b j2) {X Y : DFA} (e1 : minD a = X) (e2 : satD a b = Y) :
  PureT Tryz.prog 10 [cV a b j1 j2] w fun v N => ∃ k1 k2 : DK, v = .tuple #[cV X Y k1 k2, vI 0] ∧ N = [dI 48 4 3 X k1, dI 48 4 3 Y k2] := by
 subst e1 e2
 exact satC w hz ha hb j1 j2 hj1 hj2
theorem chk7 (w : World) [Tab Tryz.prog w] (a g : DFA) (j k : DK) (ha : At w a j) (hg : At w g k) (ba : Valid a) (bg : Valid g) (e : cE a g = 7) :
  PureT Tryz.prog 8 [cV a g j k] w fun v N => v = vI 7 ∧ N = [] := by
 have h := conCheck w a g j k ha hg ⟨by have := ba.n4; omega, ba.bound, by have := ba.fin; have := ba.n4; omega⟩ ⟨by have := bg.n4; omega, bg.bound, by have := bg.fin; have := bg.n4; omega⟩
 rw [e] at h
 exact h
theorem awakeC (w : World) [Tab Tryz.prog w] :
  PureT Tryz.prog 19 [] w fun v N => v = .bool true ∧ N = [] := by
 refine CallT.enter func19 rfl ntmps19 rfl ?_
 obtain ⟨z, dO, dS, dA, dB, mS, mT, mV, h⟩ := aw_x
 refine T.s (T.rg (TO.qa rfl (TO.nl (T.s (T.rg (TO.l rfl (l_call ent28 (CallT.op fun w1 hI => (haveI := tbz hI; onesE w1 h.eO)) rfl ?_)))))))
 rintro vr O' ⟨N, rfl, k1, rfl, rfl⟩
 refine TO.l rfl (l_call ent29 (CallT.op fun w1 hI => (haveI := tbz hI; shortE w1 h.eS)) rfl ?_)
 rintro vr O' ⟨N, rfl, k2, rfl, rfl⟩
 refine TO.q (q_build (cs := (cC dO dS k1 k2)) plan27 inf27 (by kernel_rfl)) (TO.l rfl (l_alloc inf27 rfl (fun z1 => ?_)))
 refine TO.l rfl (l_sb (v := (cV dO dS k1 k2)) (vs := (cC dO dS k1 k2)) 0 inf27 rfl rfl rfl rfl rfl rfl (by simp [putL]) ?_)
 refine TO.nl (T.s (T.rg (TO.q (q_la 0 uT27 rfl inf27 rfl rfl rfl) (TO.l rfl (l_call ent10 (CallT.op fun w1 hI => (haveI := tbz hI; satX w1 h.hz h.o h.s k1 k2 (hI.at (k := k1) (mG 2 rfl)) (hI.at (k := k2) (mG 1 rfl)) h.eM h.eSat)) rfl ?_)))))
 rintro vr O' ⟨N, rfl, k3, k4, rfl, rfl⟩
 refine TO.qm rfl (TO.q (q_extract (vs := _) rfl rfl) (TO.q (q_extract (vs := _) rfl rfl) (TO.l rfl (l_alloc inf27 rfl (fun z2 => ?_)))))
 refine TO.l rfl (l_sb (v := (cV dO mS k3 k4)) (vs := (cC dO mS k3 k4)) 0 inf27 rfl rfl rfl rfl rfl rfl (by simp [putL]) ?_)
 refine TO.qa rfl (TO.nl (T.s ?_))
 refine T.draws [oI z1 27 (cC dO dS k1 k2)] [(1, 0), (0, 1), (2, 1), (3, 0), (4, 0), (5, 0), (6, 0), (7, 0), (8, 0), (9, 0)] mixed (by kernel_rfl) (by exact Sub.d (.d (.d (.k .z)))) (fun _ _ _ h => h) ?_
 refine DO.q rfl (q_la 0 uT27 rfl inf27 rfl rfl rfl) ?_
 refine DO.loud rfl rfl (l_call ent29 (CallT.op fun w1 hI => (haveI := tbz hI; shortE w1 h.eS)) rfl ?_)
 rintro vr O' ⟨N, rfl, k5, rfl, rfl⟩
 refine ⟨by exact Sub.d (.d (.d (.d (.k .z)))), ?_⟩
 refine DO.loud rfl rfl (l_call ent12 (CallT.op fun w1 hI => (haveI := tbz hI; implL w1 h.hz h.s h.o h.s k5 k1 k2 (hI.at (k := k5) (mG 0 rfl)) (hI.at (k := k1) (mG 6 rfl)) (hI.at (k := k2) (mG 5 rfl)) h.i1)) rfl ?_)
 rintro vr O' ⟨N, rfl, wb1, wc1, rfl, rfl⟩
 refine ⟨by exact Sub.d (.d (.d (.d (.d (.k .z))))), ?_⟩
 refine DO.q rfl (q_move rfl) (DO.q rfl (q_extract (vs := _) rfl rfl) (DO.q rfl (q_extract (vs := _) rfl rfl) (DO.q rfl (q_extract (vs := _) rfl rfl) (DO.q rfl (q_assign rfl) (DO.q rfl (q_assign rfl) (DO.q rfl (q_assign rfl) ?_))))))
 refine DO.done ?_
 refine T.s ?_
 refine T.draws [oI z1 27 (cC dO dS k1 k2)] [(1, 0), (0, 1), (2, 1), (3, 0), (4, 0), (5, 0), (6, 0), (7, 0), (8, 0), (9, 0)] mixed (by kernel_rfl) (by exact Sub.d (.d (.d (.d (.d (.k .z)))))) (fun _ _ _ h => h) ?_
 refine DO.q rfl (q_la 0 uT27 rfl inf27 rfl rfl rfl) ?_
 refine DO.loud rfl rfl (l_call ent30 (CallT.op fun w1 hI => (haveI := tbz hI; all1E w1 h.eA)) rfl ?_)
 rintro vr O' ⟨N, rfl, k6, rfl, rfl⟩
 refine ⟨by exact Sub.d (.d (.d (.d (.d (.d (.k .z)))))), ?_⟩
 refine DO.loud rfl rfl (l_call ent12 (CallT.op fun w1 hI => (haveI := tbz hI; implL w1 h.hz h.a h.o h.s k6 k1 k2 (hI.at (k := k6) (mG 0 rfl)) (hI.at (k := k1) (mG 8 rfl)) (hI.at (k := k2) (mG 7 rfl)) h.i2)) rfl ?_)
 rintro vr O' ⟨N, rfl, wb2, wc2, rfl, rfl⟩
 refine ⟨by exact Sub.d (.d (.d (.d (.d (.d (.d (.k .z))))))), ?_⟩
 refine DO.q rfl (q_move rfl) (DO.q rfl (q_extract (vs := _) rfl rfl) (DO.q rfl (q_extract (vs := _) rfl rfl) (DO.q rfl (q_extract (vs := _) rfl rfl) (DO.q rfl (q_assign rfl) (DO.q rfl (q_assign rfl) (DO.q rfl (q_assign rfl) ?_))))))
 refine DO.sub (O' := [rowI wb2 wc2 5 1 (byts [1, 1]), rowI wb1 wc1 5 1 (byts []), oI z2 27 (cC dO mS k3 k4), dI 48 4 3 dO k3, dI 48 4 3 mS k4, oI z1 27 (cC dO dS k1 k2), dI 48 4 3 dS k2, dI 48 4 3 dO k1]) (by exact Sub.k (.d (.k (.d (.k (.k (.k (.k (.k (.k .z)))))))))) ?_
 refine DO.done ?_
 refine T.s (T.s ?_)
 refine T.draws [oI z2 27 (cC dO mS k3 k4), oI z1 27 (cC dO dS k1 k2)] [(0, 0), (1, 0), (2, 0), (3, 0), (4, 0), (5, 1), (6, 1), (7, 0), (8, 0), (9, 0), (10, 0), (11, 1), (12, 1), (13, 0), (14, 0), (15, 0), (16, 0), (17, 0), (18, 1), (19, 1), (20, 0), (21, 0), (22, 0), (23, 0), (24, 0), (25, 1), (26, 1), (27, 0), (28, 0), (29, 0), (30, 0), (31, 0), (32, 0), (33, 1), (34, 0), (35, 0), (36, 0), (37, 0), (38, 0), (39, 0), (40, 1), (41, 2), (42, 2), (43, 2)] mixed (drawF_ok (by kernel_rfl)) (by exact Sub.d (.d (.k (.d (.d (.k .z)))))) (fun _ _ _ h => h) ?_
 refine DO.q rfl (q_move rfl) (DO.q rfl (QT.toB (q_neq rfl rfl) (decide_eq_false (fun h => h rfl))) (DO.q rfl (q_move rfl) ?_))
 refine DO.guarded rfl rfl rfl (q_fa uT27 rfl inf25 rfl rfl) ?_
 refine DO.guarded rfl rfl rfl (q_load_part 0 (vs := (dC mS k4)) uT25 rfl inf25 rfl rfl rfl rfl) ?_
 refine DO.loudG rfl rfl rfl rfl (l_buildSlice (m := 2) (parts := [(0, .const (.int .u8 1)), (1, .const (.int .u8 1))]) (cs := [.int .u8 1, .int .u8 1]) uT34 inf5 (by decide) (by kernel_rfl) rfl (fun z3 => ⟨by exact Sub.d (.d (.d (.k (.d (.d (.k .z)))))), ?_⟩))
 refine DO.loudG rfl rfl rfl rfl (l_call ent52 (CallT.op fun w1 hI => (haveI := tbz hI; accF w1 mS k4 (hI.at (k := k4) (mG 5 rfl)) h.hS.bds (aD z3) 2 [1, 1] (hI.slOf (mG 0 rfl)) (by decide) (by decide) h.s1)) rfl ?_)
 rintro vr O' ⟨N, rfl, rfl, rfl⟩
 refine ⟨by exact Sub.d (.d (.d (.k (.d (.d (.k .z)))))), ?_⟩
 refine DO.q rfl (q_pick0 rfl rfl) (DO.q rfl (q_move rfl) ?_)
 refine DO.guarded rfl rfl rfl (q_fa uT27 rfl inf25 rfl rfl) ?_
 refine DO.guarded rfl rfl rfl (q_load_part 0 (vs := (dC mS k4)) uT25 rfl inf25 rfl rfl rfl rfl) ?_
 refine DO.loudG rfl rfl rfl rfl (l_buildSlice (m := 2) (parts := [(0, .const (.int .u8 0)), (1, .const (.int .u8 0))]) (cs := [.int .u8 0, .int .u8 0]) uT34 inf5 (by decide) (by kernel_rfl) rfl (fun z4 => ⟨by exact Sub.d (.d (.d (.d (.k (.d (.d (.k .z))))))), ?_⟩))
 refine DO.loudG rfl rfl rfl rfl (l_call ent52 (CallT.op fun w1 hI => (haveI := tbz hI; accF w1 mS k4 (hI.at (k := k4) (mG 6 rfl)) h.hS.bds (aD z4) 2 [0, 0] (hI.slOf (mG 0 rfl)) (by decide) (by decide) h.s2)) rfl ?_)
 rintro vr O' ⟨N, rfl, rfl, rfl⟩
 refine ⟨by exact Sub.d (.d (.d (.d (.k (.d (.d (.k .z))))))), ?_⟩
 refine DO.guarded rfl rfl rfl (q_not rfl) ?_
 refine DO.q rfl (q_pick0 rfl rfl) (DO.q rfl (q_move rfl) ?_)
 refine DO.guarded rfl rfl rfl (q_fa uT27 rfl inf25 rfl rfl) ?_
 refine DO.guarded rfl rfl rfl (q_load_part 0 (vs := (dC mS k4)) uT25 rfl inf25 rfl rfl rfl rfl) ?_
 refine DO.loudG rfl rfl rfl rfl (l_build1 (v := .int .u8 1) uT34 inf5 rfl rfl rfl (fun z5 => ⟨by exact Sub.d (.d (.d (.d (.d (.k (.d (.d (.k .z)))))))), ?_⟩))
 refine DO.loudG rfl rfl rfl rfl (l_call ent52 (CallT.op fun w1 hI => (haveI := tbz hI; accF w1 mS k4 (hI.at (k := k4) (mG 7 rfl)) h.hS.bds (aD z5) 1 [1] (hI.slOf (mG 0 rfl)) (by decide) (by decide) h.s3)) rfl ?_)
 rintro vr O' ⟨N, rfl, rfl, rfl⟩
 refine ⟨by exact Sub.d (.d (.d (.d (.d (.k (.d (.d (.k .z)))))))), ?_⟩
 refine DO.guarded rfl rfl rfl (q_not rfl) ?_
 refine DO.q rfl (q_pick0 rfl rfl) (DO.q rfl (q_move rfl) ?_)
 refine DO.guarded rfl rfl rfl (q_fa uT27 rfl inf25 rfl rfl) ?_
 refine DO.guarded rfl rfl rfl (q_load_part 0 (vs := (dC dO k3)) uT25 rfl inf25 rfl rfl rfl rfl) ?_
 refine DO.loudG rfl rfl rfl rfl (l_call ent28 (CallT.op fun w1 hI => (haveI := tbz hI; onesE w1 h.eO)) rfl ?_)
 rintro vr O' ⟨N, rfl, k11, rfl, rfl⟩
 refine ⟨by exact Sub.d (.d (.d (.d (.d (.d (.k (.d (.d (.k .z))))))))), ?_⟩
 refine DO.loudG rfl rfl rfl rfl (l_call ent16 (CallT.op fun w1 hI => (haveI := tbz hI; equalK w1 dO k3 k11 (hI.at (k := k3) (mG 7 rfl)) (hI.at (k := k11) (mG 0 rfl)) h.o.bds)) rfl ?_)
 rintro vr O' ⟨N, rfl, rfl, rfl⟩
 refine ⟨by exact Sub.d (.d (.d (.d (.d (.d (.k (.d (.d (.k .z))))))))), ?_⟩
 refine DO.guarded rfl rfl rfl (q_not rfl) ?_
 refine DO.q rfl (q_pick0 rfl rfl) (DO.q rfl (q_move rfl) ?_)
 refine DO.guarded rfl rfl rfl (q_move rfl) ?_
 refine DO.guarded rfl rfl rfl (q_move rfl) ?_
 refine DO.guarded rfl rfl rfl (q_move rfl) ?_
 refine DO.loudG rfl rfl rfl rfl (l_call ent53 (CallT.op fun w1 hI => (haveI := tbz hI; isC w1 wb1 none wc1 0 [] (hI.slOf (mG 5 rfl)) (Sl.nil _ _) (by decide) true)) rfl ?_)
 rintro vr O' ⟨N, rfl, rfl, rfl⟩
 refine ⟨by exact Sub.d (.d (.d (.d (.d (.d (.k (.d (.d (.k .z))))))))), ?_⟩
 refine DO.guarded rfl rfl rfl (q_not rfl) ?_
 refine DO.q rfl (q_pick0 rfl rfl) (DO.q rfl (q_move rfl) ?_)
 refine DO.guarded rfl rfl rfl (q_move rfl) ?_
 refine DO.guarded rfl rfl rfl (q_move rfl) ?_
 refine DO.guarded rfl rfl rfl (q_move rfl) ?_
 refine DO.loudG rfl rfl rfl rfl (l_buildSlice (m := 2) (parts := [(0, .const (.int .u8 1)), (1, .const (.int .u8 1))]) (cs := [.int .u8 1, .int .u8 1]) uT34 inf5 (by decide) (by kernel_rfl) rfl (fun z6 => ⟨by exact Sub.d (.d (.d (.d (.d (.d (.d (.k (.d (.d (.k .z)))))))))), ?_⟩))
 refine DO.lastG rfl rfl rfl rfl (l_call ent53 (CallT.op fun w1 hI => (haveI := tbz hI; isC w1 wb2 (aD z6) wc2 2 [1, 1] (hI.slOf (mG 5 rfl)) (hI.slOf (mG 0 rfl)) (by decide) false)) rfl ?_)
 rintro vr O' ⟨N, rfl, rfl, rfl⟩
 refine DO.lastG rfl rfl rfl rfl (LT.oq rfl rfl (q_not rfl) ?_)
 refine DO.last rfl rfl (LT.oq rfl rfl (q_pick0 rfl rfl) ?_)
 refine DO.sub (O' := [oI z1 27 (cC dO dS k1 k2), dI 48 4 3 dS k2, dI 48 4 3 dO k1]) (by exact Sub.d (.d (.d (.d (.d (.d (.d (.d (.d (.d (.k (.k (.k .z))))))))))))) ?_
 refine DO.done ?_
 refine T.cond0 rfl (T.skip (T.s (T.rg (TO.l rfl (l_call ent28 (CallT.op fun w1 hI => (haveI := tbz hI; onesE w1 h.eO)) rfl ?_)))))
 rintro vr O' ⟨N, rfl, k7, rfl, rfl⟩
 refine TO.l rfl (l_call ent30 (CallT.op fun w1 hI => (haveI := tbz hI; all1E w1 h.eA)) rfl ?_)
 rintro vr O' ⟨N, rfl, k8, rfl, rfl⟩
 refine TO.q (q_build (cs := (cC dO dA k7 k8)) plan27 inf27 (by kernel_rfl)) (TO.l rfl (l_alloc inf27 rfl (fun z7 => ?_)))
 refine TO.l rfl (l_sb (v := (cV dO dA k7 k8)) (vs := (cC dO dA k7 k8)) 0 inf27 rfl rfl rfl rfl rfl rfl (by simp [putL]) ?_)
 refine TO.nl (T.s (T.rg (TO.l rfl (l_call ent30 (CallT.op fun w1 hI => (haveI := tbz hI; all1E w1 h.eA)) rfl ?_))))
 rintro vr O' ⟨N, rfl, k9, rfl, rfl⟩
 refine TO.l rfl (l_call ent29 (CallT.op fun w1 hI => (haveI := tbz hI; shortE w1 h.eS)) rfl ?_)
 rintro vr O' ⟨N, rfl, k10, rfl, rfl⟩
 refine TO.q (q_build (cs := (cC dA dS k9 k10)) plan27 inf27 (by kernel_rfl)) (TO.l rfl (l_alloc inf27 rfl (fun z8 => ?_)))
 refine TO.l rfl (l_sb (v := (cV dA dS k9 k10)) (vs := (cC dA dS k9 k10)) 0 inf27 rfl rfl rfl rfl rfl rfl (by simp [putL]) ?_)
 refine TO.nl (T.s (T.rg (TO.q (q_la 6 uT27 rfl inf27 rfl rfl rfl) (TO.q (q_la 3 uT27 rfl inf27 rfl rfl rfl) (TO.l rfl (l_call ent20 (CallT.op fun w1 hI => (haveI := tbz hI; refL w1 h.hz h.o h.s h.o h.a k1 k2 k7 k8 (hI.at (k := k1) (mG 8 rfl)) (hI.at (k := k2) (mG 7 rfl)) (hI.at (k := k7) (mG 5 rfl)) (hI.at (k := k8) (mG 4 rfl)) h.r1)) rfl ?_))))))
 rintro vr O' ⟨N, rfl, wb3, wc3, rfl, rfl⟩
 refine TO.qm rfl (TO.q (q_extract (vs := _) rfl rfl) (TO.q (q_extract (vs := _) rfl rfl) (TO.q (q_extract (vs := _) rfl rfl) (TO.qa rfl (TO.qa rfl (TO.qa rfl (TO.nl (T.s (T.rg (TO.q (q_la 4 uT27 rfl inf27 rfl rfl rfl) (TO.q (q_la 7 uT27 rfl inf27 rfl rfl rfl) (TO.l rfl (l_call ent20 (CallT.op fun w1 hI => (haveI := tbz hI; refL w1 h.hz h.o h.a h.o h.s k7 k8 k1 k2 (hI.at (k := k7) (mG 6 rfl)) (hI.at (k := k8) (mG 5 rfl)) (hI.at (k := k1) (mG 9 rfl)) (hI.at (k := k2) (mG 8 rfl)) h.r2)) rfl ?_)))))))))))))
 rintro vr O' ⟨N, rfl, wb4, wc4, rfl, rfl⟩
 refine TO.qm rfl (TO.q (q_extract (vs := _) rfl rfl) (TO.q (q_extract (vs := _) rfl rfl) (TO.q (q_extract (vs := _) rfl rfl) (TO.qa rfl (TO.qa rfl (TO.qa rfl (TO.nl (T.s (T.rg (TO.q (q_la 8 uT27 rfl inf27 rfl rfl rfl) (TO.q (q_la 2 uT27 rfl inf27 rfl rfl rfl) (TO.l rfl (l_call ent20 (CallT.op fun w1 hI => (haveI := tbz hI; refL w1 h.hz h.o h.s h.a h.s k1 k2 k9 k10 (hI.at (k := k1) (mG 10 rfl)) (hI.at (k := k2) (mG 9 rfl)) (hI.at (k := k9) (mG 4 rfl)) (hI.at (k := k10) (mG 3 rfl)) h.r3)) rfl ?_)))))))))))))
 rintro vr O' ⟨N, rfl, wb5, wc5, rfl, rfl⟩
 refine TO.qm rfl (TO.q (q_extract (vs := _) rfl rfl) (TO.q (q_extract (vs := _) rfl rfl) (TO.q (q_extract (vs := _) rfl rfl) (TO.qa rfl (TO.qa rfl (TO.qa rfl (TO.nl (T.s (T.s (T.rg (TO.qm rfl (TO.qm rfl (TO.qm rfl (TO.l rfl (l_call ent53 (CallT.op fun w1 hI => (haveI := tbz hI; isC w1 wb3 none wc3 0 [] (hI.slOf (mG 2 rfl)) (Sl.nil _ _) (by decide) true)) rfl ?_)))))))))))))))
 rintro vr O' ⟨N, rfl, rfl, rfl⟩
 refine TO.q (q_not rfl) (TO.qm rfl (TO.gq rfl rfl (q_move rfl) (TO.gq rfl rfl (q_move rfl) (TO.gq rfl rfl (q_move rfl) ?_))))
 refine TO.gd rfl rfl rfl (l_buildSlice (m := 2) (parts := [(0, .const (.int .u8 1)), (1, .const (.int .u8 1))]) (cs := [.int .u8 1, .int .u8 1]) uT34 inf5 (by decide) (by kernel_rfl) rfl (fun z9 => ?_))
 refine TO.gd rfl rfl rfl (l_call ent53 (CallT.op fun w1 hI => (haveI := tbz hI; isC w1 wb4 (aD z9) wc4 2 [1, 1] (hI.slOf (mG 2 rfl)) (hI.slOf (mG 0 rfl)) (by decide) false)) rfl ?_)
 rintro vr O' ⟨N, rfl, rfl, rfl⟩
 refine TO.gq rfl rfl (q_not rfl) (TO.q (q_pick0 rfl rfl) (TO.qm rfl (TO.gq rfl rfl (q_move rfl) (TO.gq rfl rfl (q_move rfl) (TO.gq rfl rfl (q_move rfl) ?_)))))
 refine TO.gd rfl rfl rfl (l_build1 (v := .int .u8 0) uT34 inf5 rfl rfl rfl (fun z10 => ?_))
 refine TO.gd rfl rfl rfl (l_call ent53 (CallT.op fun w1 hI => (haveI := tbz hI; isC w1 wb5 (aD z10) wc5 1 [0] (hI.slOf (mG 2 rfl)) (hI.slOf (mG 0 rfl)) (by decide) false)) rfl ?_)
 rintro vr O' ⟨N, rfl, rfl, rfl⟩
 refine TO.gq rfl rfl (q_not rfl) (TO.q (q_pick0 rfl rfl) ?_)
 refine TO.sub (O' := [oI z8 27 (cC dA dS k9 k10), dI 48 4 3 dS k10, dI 48 4 3 dA k9, oI z1 27 (cC dO dS k1 k2), dI 48 4 3 dS k2, dI 48 4 3 dO k1]) (by exact Sub.d (.d (.d (.d (.d (.k (.k (.k (.d (.d (.d (.k (.k (.k .z)))))))))))))) ?_
 refine TO.nl (T.cond0 rfl (T.skip (T.s (T.rg (TO.q (q_la 3 uT27 rfl inf27 rfl rfl rfl) (TO.q (q_la 0 uT27 rfl inf27 rfl rfl rfl) (TO.l rfl (l_call ent22 (CallT.op fun w1 hI => (haveI := tbz hI; meetX w1 h.hz h.o h.s h.a h.s k1 k2 k9 k10 (hI.at (k := k1) (mG 5 rfl)) (hI.at (k := k2) (mG 4 rfl)) (hI.at (k := k9) (mG 2 rfl)) (hI.at (k := k10) (mG 1 rfl)) h.m1 h.m2)) rfl ?_))))))))
 rintro vr O' ⟨N, rfl, k12, k13, rfl, rfl⟩
 refine TO.qm rfl (TO.q (q_extract (vs := _) rfl rfl) (TO.q (q_extract (vs := _) rfl rfl) (TO.l rfl (l_alloc inf27 rfl (fun z11 => ?_)))))
 refine TO.l rfl (l_sb (v := (cV dA mT k12 k13)) (vs := (cC dA mT k12 k13)) 0 inf27 rfl rfl rfl rfl rfl rfl (by simp [putL]) ?_)
 refine TO.qa rfl (TO.nl (T.s (T.rg (TO.q (q_la 6 uT27 rfl inf27 rfl rfl rfl) (TO.q (q_la 6 uT27 rfl inf27 rfl rfl rfl) (TO.l rfl (l_call ent26 (CallT.op fun w1 hI => (haveI := tbz hI; compX w1 h.hz h.o h.s h.o h.s k1 k2 k1 k2 (hI.at (k := k1) (mG 8 rfl)) (hI.at (k := k2) (mG 7 rfl)) (hI.at (k := k1) (mG 8 rfl)) (hI.at (k := k2) (mG 7 rfl)) h.c1 h.c2)) rfl ?_)))))))
 rintro vr O' ⟨N, rfl, k14, k15, rfl, rfl⟩
 refine TO.qm rfl (TO.q (q_extract (vs := _) rfl rfl) (TO.q (q_extract (vs := _) rfl rfl) (TO.l rfl (l_alloc inf27 rfl (fun z12 => ?_)))))
 refine TO.l rfl (l_sb (v := (cV dO mV k14 k15)) (vs := (cC dO mV k14 k15)) 0 inf27 rfl rfl rfl rfl rfl rfl (by simp [putL]) ?_)
 refine TO.qa rfl ?_
 refine TO.sub (O' := [oI z12 27 (cC dO mV k14 k15), dI 48 4 3 dO k14, dI 48 4 3 mV k15, oI z11 27 (cC dA mT k12 k13), dI 48 4 3 dA k12, dI 48 4 3 mT k13]) (by exact Sub.k (.k (.k (.k (.k (.k .z)))))) ?_
 refine TO.nl (T.s ?_)
 refine T.draws [oI z12 27 (cC dO mV k14 k15), oI z11 27 (cC dA mT k12 k13)] [(0, 0), (1, 0), (2, 0), (3, 0), (4, 0), (5, 1), (6, 1), (7, 0), (8, 0), (9, 0), (10, 0), (11, 1), (12, 1), (13, 0), (14, 0), (15, 0), (16, 0), (17, 0), (18, 0), (19, 0), (20, 0), (21, 0), (22, 1), (23, 2), (24, 2), (25, 2), (26, 2), (27, 2), (28, 2), (29, 2), (30, 2), (31, 2), (32, 2)] mixed (drawF_ok (by kernel_rfl)) (by exact Sub.k (.d (.d (.k .z)))) (fun _ _ _ h => h) ?_
 refine DO.q rfl (q_move rfl) (DO.q rfl (QT.toB (q_eql rfl rfl) (decide_eq_true rfl)) (DO.q rfl (q_move rfl) ?_))
 refine DO.guarded rfl rfl rfl (q_fa uT27 rfl inf25 rfl rfl) ?_
 refine DO.guarded rfl rfl rfl (q_load_part 1 (vs := (dC dA k12)) uT25 rfl inf25 rfl rfl rfl rfl) ?_
 refine DO.loudG rfl rfl rfl rfl (l_call ent30 (CallT.op fun w1 hI => (haveI := tbz hI; all1E w1 h.eA)) rfl ?_)
 rintro vr O' ⟨N, rfl, k16, rfl, rfl⟩
 refine ⟨by exact Sub.d (.k (.d (.d (.k .z)))), ?_⟩
 refine DO.loudG rfl rfl rfl rfl (l_call ent16 (CallT.op fun w1 hI => (haveI := tbz hI; equalK w1 dA k12 k16 (hI.at (k := k12) (mG 5 rfl)) (hI.at (k := k16) (mG 0 rfl)) h.a.bds)) rfl ?_)
 rintro vr O' ⟨N, rfl, rfl, rfl⟩
 refine ⟨by exact Sub.d (.k (.d (.d (.k .z)))), ?_⟩
 refine DO.q rfl (q_pick1 rfl rfl) (DO.q rfl (q_move rfl) ?_)
 refine DO.guarded rfl rfl rfl (q_fa uT27 rfl inf25 rfl rfl) ?_
 refine DO.guarded rfl rfl rfl (q_load_part 1 (vs := (dC mT k13)) uT25 rfl inf25 rfl rfl rfl rfl) ?_
 refine DO.loudG rfl rfl rfl rfl (l_buildSlice (m := 2) (parts := [(0, .const (.int .u8 0)), (1, .const (.int .u8 0))]) (cs := [.int .u8 0, .int .u8 0]) uT34 inf5 (by decide) (by kernel_rfl) rfl (fun z13 => ⟨by exact Sub.d (.d (.k (.d (.d (.k .z))))), ?_⟩))
 refine DO.loudG rfl rfl rfl rfl (l_call ent52 (CallT.op fun w1 hI => (haveI := tbz hI; accF w1 mT k13 (hI.at (k := k13) (mG 7 rfl)) h.bT (aD z13) 2 [0, 0] (hI.slOf (mG 0 rfl)) (by decide) (by decide) h.m3)) rfl ?_)
 rintro vr O' ⟨N, rfl, rfl, rfl⟩
 refine ⟨by exact Sub.d (.d (.k (.d (.d (.k .z))))), ?_⟩
 refine DO.guarded rfl rfl rfl (q_not rfl) ?_
 refine DO.q rfl (q_pick1 rfl rfl) (DO.q rfl (q_move rfl) ?_)
 refine DO.guarded rfl rfl rfl (q_move rfl) ?_
 refine DO.guarded rfl rfl rfl (QT.toB (q_eql rfl rfl) (decide_eq_true rfl)) ?_
 refine DO.q rfl (q_pick1 rfl rfl) (DO.q rfl (q_move rfl) ?_)
 refine DO.guarded rfl rfl rfl (q_fa uT27 rfl inf25 rfl rfl) ?_
 refine DO.guarded rfl rfl rfl (q_load_part 0 (vs := (dC dO k14)) uT25 rfl inf25 rfl rfl rfl rfl) ?_
 refine DO.loudG rfl rfl rfl rfl (l_call ent28 (CallT.op fun w1 hI => (haveI := tbz hI; onesE w1 h.eO)) rfl ?_)
 rintro vr O' ⟨N, rfl, k17, rfl, rfl⟩
 refine ⟨by exact Sub.d (.d (.d (.k (.d (.d (.k .z)))))), ?_⟩
 refine DO.lastG rfl rfl rfl rfl (l_call ent16 (CallT.op fun w1 hI => (haveI := tbz hI; equalK w1 dO k14 k17 (hI.at (k := k14) (mG 4 rfl)) (hI.at (k := k17) (mG 0 rfl)) h.o.bds)) rfl ?_)
 rintro vr O' ⟨N, rfl, rfl, rfl⟩
 refine DO.last rfl rfl (LT.oq rfl rfl (q_pick1 rfl rfl) ?_)
 refine DO.last rfl rfl (LT.oq rfl rfl (q_move rfl) ?_)
 refine DO.lastG rfl rfl rfl rfl (l_call ent30 (CallT.op fun w1 hI => (haveI := tbz hI; all1E w1 h.eA)) rfl ?_)
 rintro vr O' ⟨N, rfl, k18, rfl, rfl⟩
 refine DO.lastG rfl rfl rfl rfl (l_call ent30 (CallT.op fun w1 hI => (haveI := tbz hI; all2E w1 h.eB)) rfl ?_)
 rintro vr O' ⟨N, rfl, k19, rfl, rfl⟩
 refine DO.lastG rfl rfl rfl rfl (LT.oq rfl rfl (q_build (cs := (cC dA dB k18 k19)) plan27 inf27 (by kernel_rfl)) ?_)
 refine DO.lastG rfl rfl rfl rfl (l_call ent8 (CallT.op fun w1 hI => (haveI := tbz hI; chk7 w1 dA dB k18 k19 (hI.at (k := k18) (mG 1 rfl)) (hI.at (k := k19) (mG 0 rfl)) h.a.has.valid h.vB h.e7)) rfl ?_)
 rintro vr O' ⟨N, rfl, rfl, rfl⟩
 refine DO.lastG rfl rfl rfl rfl (LT.oq rfl rfl (QT.toB (q_eql rfl rfl) (decide_eq_true rfl)) ?_)
 refine DO.last rfl rfl (LT.oq rfl rfl (q_pick1 rfl rfl) ?_)
 refine DO.last rfl rfl (LT.oq rfl rfl (q_assign rfl) ?_)
 refine DO.done ?_
 refine T.ret (Res.drop ?_)
 refine Res.one (.bool true) Tryz.results19 rfl ?_
 exact ⟨[], Sub.z, rfl, rfl⟩
end Go.Proofs.YtnpehjpookcfkaaGreatDoor


namespace Go.Lx
open Go.RowKit
def inL (d : DFA) (s : Nat) : List Int := (List.range d.next.length).map fun t => if t < s then lnN d 0 t else 0
def lnP (d : DFA) (n s x : Nat) : Int := if lnN d n s < 0 ∧ ((List.range x).any fun y => decide (lnN d n (toN d s y) = (n : Int))) = true then ((n + 1 : Nat) : Int) else lnN d n s
def lnL (d : DFA) (n s x : Nat) : List Int := (List.range d.next.length).map fun t => if t < s then lnN d (n + 1) t else if t = s then lnP d n s x else lnN d n t
def lenL (d : DFA) : List Int := (List.range d.next.length).map (lnD d)
theorem map_range_set {α : Type} {N s : Nat} (f : Nat → α) (v : α) (hs : s < N) : ((List.range N).map f).set s v = (List.range N).map fun t => if t = s then v else f t := by
  apply List.ext_getElem?
  intro t
  by_cases e : s = t
  · subst e
    rw [List.getElem?_set_self (by simpa using hs), List.getElem?_map, List.getElem?_range hs]; simp
  · rw [List.getElem?_set_ne e, List.getElem?_map, List.getElem?_map]
    by_cases ht : t < N
    · rw [List.getElem?_range ht]
      show some (f t) = some (if t = s then v else f t)
      rw [if_neg (fun h => e h.symm)]
    · rw [List.getElem?_eq_none (by simpa using ht)]; rfl
theorem map_range_congr {α : Type} {N : Nat} {f g : Nat → α} (h : ∀ t, t < N → f t = g t) : (List.range N).map f = (List.range N).map g := List.map_congr_left fun t ht => h t (List.mem_range.1 ht)
theorem inL_len (d : DFA) (s : Nat) : (inL d s).length = d.next.length := by simp [inL]
theorem lnL_len (d : DFA) (n s x : Nat) : (lnL d n s x).length = d.next.length := by simp [lnL]
theorem lenL_len (d : DFA) : (lenL d).length = d.next.length := by simp [lenL]
theorem inL_zero (d : DFA) : ints (inL d 0) = List.replicate d.next.length (.int .i64 0) := by
  unfold inL ints
  rw [List.map_map]
  refine List.ext_getElem (by simp) fun i h1 h2 => by simp
theorem inL_yes {d : DFA} {s : Nat} (hs : s < d.next.length) (hf : finN d s = true) : ((inL d s).set s (-1)).set s 0 = inL d (s + 1) := by
  rw [List.set_set]
  unfold inL
  rw [map_range_set _ _ hs]
  refine map_range_congr fun t ht => ?_
  by_cases e : t = s
  · subst e; rw [if_pos rfl, if_pos (by omega)]; simp [lnN, hf]
  · rw [if_neg e]
    by_cases h : t < s
    · rw [if_pos h, if_pos (by omega)]
    · rw [if_neg h, if_neg (by omega)]
theorem inL_no {d : DFA} {s : Nat} (hs : s < d.next.length) (hf : finN d s = false) : (inL d s).set s (-1) = inL d (s + 1) := by
  unfold inL
  rw [map_range_set _ _ hs]
  refine map_range_congr fun t ht => ?_
  by_cases e : t = s
  · subst e; rw [if_pos rfl, if_pos (by omega)]; simp [lnN, hf]
  · rw [if_neg e]
    by_cases h : t < s
    · rw [if_pos h, if_pos (by omega)]
    · rw [if_neg h, if_neg (by omega)]
theorem lnP_zero (d : DFA) (n s : Nat) : lnP d n s 0 = lnN d n s := by
  unfold lnP; rw [if_neg (fun h => by simp at h)]
theorem lnP_full (d : DFA) (n s : Nat) : lnP d n s (letN d) = lnN d (n + 1) s := rfl
theorem inL_end (d : DFA) : inL d d.next.length = lnL d 0 0 0 := by
  unfold inL lnL
  refine map_range_congr fun t ht => ?_
  rw [if_pos ht, if_neg (by omega)]
  by_cases e : t = 0
  · subst e; rw [if_pos rfl, lnP_zero]
  · rw [if_neg e]
theorem lnL_get {d : DFA} {n s x t : Nat} (ht : t < d.next.length) : (ints (lnL d n s x))[t]? = some (.int .i64 (if t < s then lnN d (n + 1) t else if t = s then lnP d n s x else lnN d n t)) := by
  unfold lnL ints
  rw [List.map_map, List.getElem?_map, List.getElem?_range ht]; rfl
theorem lnL_at {d : DFA} {n s x : Nat} (hs : s < d.next.length) : (ints (lnL d n s x))[s]? = some (.int .i64 (lnP d n s x)) := by
  rw [lnL_get hs, if_neg (by omega), if_pos rfl]
theorem lnP_neg {d : DFA} {n s x : Nat} : lnP d n s x < 0 ↔ lnN d n s < 0 ∧ ((List.range x).any fun y => decide (lnN d n (toN d s y) = (n : Int))) = false := by
  unfold lnP
  by_cases h : ((List.range x).any fun y => decide (lnN d n (toN d s y) = (n : Int))) = true
  · by_cases h2 : lnN d n s < 0
    · rw [if_pos ⟨h2, h⟩, h]; constructor
      · intro h3; omega
      · intro h3; exact absurd h3.2 (by simp)
    · rw [if_neg (fun q => h2 q.1)]; exact ⟨fun q => absurd q h2, fun q => absurd q.1 h2⟩
  · rw [if_neg (fun q => h q.2)]
    exact ⟨fun q => ⟨q, by simpa using h⟩, fun q => q.1⟩
theorem lnN_new {d : DFA} {n t : Nat} : lnN d (n + 1) t = (n : Int) ↔ lnN d n t = (n : Int) := by
  by_cases h : lnN d n t < 0 ∧ ((List.range (letN d)).any fun x => decide (lnN d n (toN d t x) = (n : Int))) = true
  · have h1 := h.1
    rw [lnN, if_pos h]
    exact ⟨fun q => by omega, fun q => by omega⟩
  · rw [lnN, if_neg h]
theorem lnL_to {d : DFA} {n s x t : Nat} (hneg : lnP d n s x < 0) : (if t < s then lnN d (n + 1) t else if t = s then lnP d n s x else lnN d n t) = (n : Int) ↔ lnN d n t = (n : Int) := by
  by_cases h : t < s
  · rw [if_pos h]; exact lnN_new
  · rw [if_neg h]
    by_cases e : t = s
    · subst e
      rw [if_pos rfl]
      have h1 := (lnP_neg.1 hneg).1
      constructor
      · intro q; omega
      · intro q; omega
    · rw [if_neg e]
theorem lnP_hit {d : DFA} {n s x : Nat} (hneg : lnP d n s x < 0) (ht : lnN d n (toN d s x) = (n : Int)) : lnP d n s (x + 1) = ((n + 1 : Nat) : Int) := by
  have h1 := (lnP_neg.1 hneg).1
  unfold lnP
  rw [if_pos ⟨h1, by rw [List.range_succ, List.any_append]; simp [ht]⟩]
theorem lnP_miss {d : DFA} {n s x : Nat} (h : ¬ (lnP d n s x < 0 ∧ lnN d n (toN d s x) = (n : Int))) : lnP d n s (x + 1) = lnP d n s x := by
  by_cases ht : lnN d n (toN d s x) = (n : Int)
  · have h1 : ¬ lnP d n s x < 0 := fun q => h ⟨q, ht⟩
    unfold lnP at h1 ⊢
    by_cases h2 : lnN d n s < 0
    · by_cases h3 : ((List.range x).any fun y => decide (lnN d n (toN d s y) = (n : Int))) = true
      · have e1 : ((List.range (x + 1)).any fun y => decide (lnN d n (toN d s y) = (n : Int))) = true := by rw [List.range_succ, List.any_append, h3]; rfl
        rw [if_pos ⟨h2, e1⟩, if_pos ⟨h2, h3⟩]
      · rw [if_neg (fun q => h3 q.2)] at h1; exact absurd h2 h1
    · rw [if_neg (fun q => h2 q.1), if_neg (fun q => h2 q.1)]
  · unfold lnP
    rw [List.range_succ, List.any_append]
    simp [ht]
theorem lnL_hit {d : DFA} {n s x : Nat} (hs : s < d.next.length) (hneg : lnP d n s x < 0) (ht : lnN d n (toN d s x) = (n : Int)) : (lnL d n s x).set s ((n + 1 : Nat) : Int) = lnL d n s (x + 1) := by
  unfold lnL
  rw [map_range_set _ _ hs]
  refine map_range_congr fun t _ => ?_
  by_cases e : t = s
  · subst e; rw [if_pos rfl, if_neg (by omega), if_pos rfl, lnP_hit hneg ht]
  · rw [if_neg e, if_neg e, if_neg e]
theorem lnL_miss {d : DFA} {n s x : Nat} (h : ¬ (lnP d n s x < 0 ∧ lnN d n (toN d s x) = (n : Int))) : lnL d n s (x + 1) = lnL d n s x := by
  unfold lnL; rw [lnP_miss h]
theorem lnL_row (d : DFA) (n s : Nat) : lnL d n s (letN d) = lnL d n (s + 1) 0 := by
  unfold lnL
  refine map_range_congr fun t _ => ?_
  rw [lnP_full, lnP_zero]
  by_cases h : t < s
  · rw [if_pos h, if_pos (by omega)]
  · rw [if_neg h]
    by_cases e : t = s
    · subst e; rw [if_pos rfl, if_pos (by omega)]
    · rw [if_neg e, if_neg (by omega)]
      by_cases e2 : t = s + 1
      · subst e2; rw [if_pos rfl]
      · rw [if_neg e2]
theorem lnL_round (d : DFA) (n : Nat) : lnL d n d.next.length 0 = lnL d (n + 1) 0 0 := by
  unfold lnL
  refine map_range_congr fun t ht => ?_
  rw [if_pos ht, if_neg (by omega)]
  by_cases e : t = 0
  · subst e; rw [if_pos rfl, lnP_zero]
  · rw [if_neg e]
theorem lnL_end {d : DFA} {n : Nat} (h : n + 1 = d.next.length) : lnL d n 0 0 = lenL d := by
  unfold lnL lenL lnD
  refine map_range_congr fun t ht => ?_
  rw [if_neg (by omega), show d.next.length - 1 = n by omega]
  by_cases e : t = 0
  · subst e; rw [if_pos rfl, lnP_zero]
  · rw [if_neg e]
theorem lenL_at {d : DFA} {t : Nat} (ht : t < d.next.length) : (ints (lenL d))[t]? = some (.int .i64 (lnD d t)) := by
  unfold lenL ints
  rw [List.map_map, List.getElem?_map, List.getElem?_range ht]; rfl
theorem lnN_big (d : DFA) (n s : Nat) : -1 ≤ lnN d n s ∧ lnN d n s ≤ (n : Int) := by
  rcases lnN_spec (d := d) n s with ⟨m, _, _, e⟩ | ⟨_, e⟩ <;> omega
end Go.Lx


namespace Go.Proofs.YtnpehjpookcfkaaGreatDoor
open Go.Lx Go.RowKit _root_.Go.Proofs.Tryz
theorem lengthsC (w : World) [Tab Tryz.prog w] (a : DFA) (k : DK) (ha : At w a k) (hv : Valid a) :
  PureT Tryz.prog 98 [dV a k] w fun v N => ∃ b : Nat, v = .slice (aD b) a.next.length a.next.length ∧ N = [rowI (aD b) a.next.length 3 1 (ints (lenL a))] := by
 refine CallT.enter func98 rfl ntmps98 rfl ?_
 have h4 := hv.n4
 have h0 := hv.n0
 have hww : letN a ≤ 64 := hv.width
 have hfin := hv.fin
 have hvl := ha.rows.1
 obtain ⟨N, hN⟩ : ∃ N, N = a.next.length := ⟨_, rfl⟩
 refine T.s (T.rg (TO.l rfl (l_box (v := (dV a k)) (cs := (dC a k)) rfl rfl (fun z1 => ?_))))
 refine TO.qa rfl (TO.nl (T.s (T.rg (TO.q (q_fa uT25 rfl inf22 rfl rfl) (TO.q (q_lb 0 uT22 rfl rfl rfl rfl) (TO.q (q_len uT22 rfl) (TO.l rfl (l_makeSlice (m := a.next.length) uT48 inf3 rfl rfl (by omega) (by omega) (fun z2 => ?_)))))))))
 refine TO.qa rfl (TO.nl (T.s (T.s (T.rg (TO.qa rfl (TO.nl (T.block ?_)))))))
 refine T.sub (O' := [rowI (aD z2) a.next.length 3 1 (List.replicate a.next.length (vI 0)), oI z1 25 (dC a k)]) (by exact Sub.rf) ?_
 refine T.loop (fun (s : Nat) ρ O => O = [rowI (aD z2) a.next.length 3 1 (ints (inL a s)), oI z1 25 (dC a k)] ∧ s ≤ a.next.length ∧ Heads [(0, (dV a k)), (1, (.pointer (aD z1))), (2, nS), (3, (.slice (aD z2) a.next.length a.next.length)), (4, vI ((s : Nat) : Int))] ρ) (fun s => a.next.length - s) 0 ?_ ?_
 ·exact ⟨by rw [inL_zero], Nat.zero_le _, (.of rfl)⟩
 rintro s ρ O ⟨rfl, hs, hH⟩
 obtain ⟨ρ0, rfl⟩ := hH.elim
 clear hH
 refine T.s (T.s (T.rg (TO.qm rfl (TO.qm rfl (TO.q (q_len uT48 rfl) (TO.q (q_lss rfl rfl) (TO.nl (T.condP rfl (fun hc => ?_) (fun hc => ?_)))))))))
 ·have hlt15 : s < a.next.length := by omega
  refine T.skip (T.s (T.block (T.s (T.rg (TO.qm rfl (TO.qm rfl (TO.q (q_ix (i := s) uT48 inf3 rfl rfl (rowO (mG 0 rfl)) hlt15 (by rw [List.length_map, inL_len]; omega)) (TO.l rfl (l_st (j := s) (v := vI (-1)) (vs := [(vI (-1))]) (cs := ints (inL a s)) 0 inf3 rfl rfl rfl rfl rfl (by simp) rfl (by rw [List.length_map, inL_len]; simp; omega) ?_)))))))))
  refine TO.sub (O' := [rowI (aD z2) a.next.length 3 1 (ints ((inL a s).set s (-1))), oI z1 25 (dC a k)]) (by rw [show putL (ints (inL a s)) s [(vI (-1))] = ints ((inL a s).set s (-1)) from by simp [putL]]; exact Sub.of (List.Sublist.refl _)) ?_
  refine TO.nl (T.s (T.rg (TO.q (q_fa uT25 rfl inf23 rfl rfl) (TO.q (q_lb 1 uT23 rfl rfl rfl rfl) (TO.qm rfl (TO.q (q_ix (i := s) uT23 inf4 rfl rfl (Sl.o ha.final) (by omega) (by rw [List.length_map]; omega)) (TO.q (q_ld uT4 rfl rfl (Sl.o ha.final) (bools_get (by omega))) (TO.nl (T.cond rfl (fun hc => ?_) (fun hc => ?_))))))))))
  ·have hfn : finN a s = true := by rw [← hc]; simp [finN, show s < a.final.length by omega]
   refine T.rg (TO.qm rfl (TO.qm rfl (TO.q (q_ix (i := s) uT48 inf3 rfl rfl (rowO (mG 0 rfl)) hlt15 (by rw [List.length_map, List.length_set, inL_len]; omega)) (TO.l rfl (l_st (j := s) (v := vI 0) (vs := [(vI 0)]) (cs := ints ((inL a s).set s (-1))) 0 inf3 rfl rfl rfl rfl rfl (by simp) rfl (by rw [List.length_map, List.length_set, inL_len]; simp; omega) ?_)))))
   refine TO.sub (O' := [rowI (aD z2) a.next.length 3 1 (ints (((inL a s).set s (-1)).set s 0)), oI z1 25 (dC a k)]) (by rw [show putL (ints ((inL a s).set s (-1))) s [(vI 0)] = ints (((inL a s).set s (-1)).set s 0) from by simp [putL]]; exact Sub.of (List.Sublist.refl _)) ?_
   refine TO.nl (T.rg (TO.qm rfl (TO.q (q_addN (a := s) (b := 1) rfl rfl (by omega)) (TO.qa rfl (TO.nl ?_)))))
   exact ⟨s + 1, by omega, by rw [← inL_yes hlt15 hfn], by omega, (.of rfl)⟩
  have hfn : finN a s = false := by rw [← hc]; simp [finN, show s < a.final.length by omega]
  refine T.skip (T.rg (TO.qm rfl (TO.q (q_addN (a := s) (b := 1) rfl rfl (by omega)) (TO.qa rfl (TO.nl ?_)))))
  exact ⟨s + 1, by omega, by rw [← inL_no hlt15 hfn], by omega, (.of rfl)⟩
 have hge15 : ¬ s < a.next.length := by omega
 refine T.exit ?_
 refine T.s (T.s (T.rg (TO.qa rfl (TO.nl (T.block ?_)))))
 have hse : s = a.next.length := by omega
 have e0 : inL a s = lnL a 0 0 0 := by rw [hse]; exact inL_end a
 refine T.loop (fun (n : Nat) ρ O => O = [rowI (aD z2) a.next.length 3 1 (ints (lnL a n 0 0)), oI z1 25 (dC a k)] ∧ n + 1 ≤ a.next.length ∧ Heads [(0, (dV a k)), (1, (.pointer (aD z1))), (2, nS), (3, (.slice (aD z2) a.next.length a.next.length)), (4, vI ((s : Nat) : Int)), (5, vI ((n + 1 : Nat) : Int))] ρ) (fun n => a.next.length - n) 0 ?_ ?_
 ·exact ⟨by rw [e0], h0, (.of rfl)⟩
 rintro n ρ O ⟨rfl, hn, hH⟩
 obtain ⟨ρ0, rfl⟩ := hH.elim
 clear hH
 refine T.s (T.s (T.rg (TO.qm rfl (TO.qm rfl (TO.q (q_len uT48 rfl) (TO.q (q_lss rfl rfl) (TO.nl (T.condP rfl (fun hc => ?_) (fun hc => ?_)))))))))
 ·have hlt32 : n + 1 < a.next.length := by omega
  refine T.skip (T.s (T.block (T.s (T.rg (TO.qa rfl (TO.nl (T.block ?_)))))))
  refine T.loop (fun (t : Nat) ρ O => O = [rowI (aD z2) a.next.length 3 1 (ints (lnL a n t 0)), oI z1 25 (dC a k)] ∧ t ≤ a.next.length ∧ Heads [(0, (dV a k)), (1, (.pointer (aD z1))), (2, nS), (3, (.slice (aD z2) a.next.length a.next.length)), (4, vI ((s : Nat) : Int)), (5, vI ((n + 1 : Nat) : Int)), (6, vI ((t : Nat) : Int))] ρ) (fun t => a.next.length - t) 0 ?_ ?_
  ·exact ⟨rfl, Nat.zero_le _, (.of rfl)⟩
  rintro t ρ O ⟨rfl, ht, hH⟩
  obtain ⟨ρ0, rfl⟩ := hH.elim
  clear hH
  refine T.s (T.s (T.rg (TO.qm rfl (TO.qm rfl (TO.q (q_len uT48 rfl) (TO.q (q_lss rfl rfl) (TO.nl (T.condP rfl (fun hc => ?_) (fun hc => ?_)))))))))
  ·have hlt38 : t < a.next.length := by omega
   obtain ⟨v1, c1, g1, s1⟩ := ha.rows.get hlt38
   have hl1 : a.next[t].length = letN a := hv.len _ (List.getElem_mem hlt38)
   refine T.skip (T.s (T.block (T.s (T.rg (TO.qa rfl (TO.nl (T.block ?_)))))))
   refine T.loop (fun (x : Nat) ρ O => O = [rowI (aD z2) a.next.length 3 1 (ints (lnL a n t x)), oI z1 25 (dC a k)] ∧ x ≤ letN a ∧ Heads [(0, (dV a k)), (1, (.pointer (aD z1))), (2, nS), (3, (.slice (aD z2) a.next.length a.next.length)), (4, vI ((s : Nat) : Int)), (5, vI ((n + 1 : Nat) : Int)), (6, vI ((t : Nat) : Int)), (7, vI ((x : Nat) : Int))] ρ) (fun x => letN a - x) 0 ?_ ?_
   ·exact ⟨rfl, Nat.zero_le _, (.of rfl)⟩
   rintro x ρ O ⟨rfl, hx, hH⟩
   obtain ⟨ρ0, rfl⟩ := hH.elim
   clear hH
   refine T.s (T.s (T.rg (TO.qm rfl (TO.q (q_fa uT25 rfl inf22 rfl rfl) (TO.q (q_lb 1 uT22 rfl rfl rfl rfl) (TO.qm rfl (TO.q (q_ix (i := t) uT22 inf48 rfl rfl (Sl.o ha.outer) hlt38 (hvl ▸ hlt38)) (TO.q (q_ld uT48 rfl rfl (Sl.o ha.outer) g1) (TO.q (q_len uT48 rfl) (TO.q (q_lss rfl rfl) (TO.nl (T.condP rfl (fun hc => ?_) (fun hc => ?_)))))))))))))
   ·have hlt48 : x < a.next[t].length := by omega
    have hxl : x < letN a := by omega
    obtain ⟨hto, _, hxk1, hx1⟩ := hv.toN_lt hlt38 hxl
    have hx1 : (ints a.next[t])[x]? = some (vI ((toN a t x : Nat) : Int)) := by rw [ints_get hxk1, hx1]
    have hbg := lnN_big a n (toN a t x)
    refine T.skip (T.s (T.block (T.s (T.rg (TO.qm rfl (TO.qm rfl (TO.q (q_ix (i := t) uT48 inf3 rfl rfl (rowO (mG 0 rfl)) hlt38 (by rw [List.length_map, lnL_len]; omega)) (TO.q (q_ld uT3 rfl rfl (rowO (mG 0 rfl)) (lnL_at hlt38)) (TO.q (q_lss rfl rfl) ?_)))))))))
    by_cases hneg : lnP a n t x < 0
    ·refine TO.q (QT.toB (q_move rfl) (decide_eq_true hneg)) ?_
     refine TO.gq rfl rfl (q_move rfl) (TO.gq rfl rfl (q_fa uT25 rfl inf22 rfl rfl) (TO.gq rfl rfl (q_lb 1 uT22 rfl rfl rfl rfl) (TO.gq rfl rfl (q_move rfl) (TO.gq rfl rfl (q_ix (i := t) uT22 inf48 rfl rfl (Sl.o ha.outer) hlt38 (hvl ▸ hlt38)) (TO.gq rfl rfl (q_ld uT48 rfl rfl (Sl.o ha.outer) g1) (TO.gq rfl rfl (q_move rfl) (TO.gq rfl rfl (q_ix (i := x) uT48 inf3 rfl rfl (Sl.o s1) hxk1 (by rw [List.length_map]; exact hxk1)) ?_)))))))
     refine TO.gq rfl rfl (q_ld uT3 rfl rfl (Sl.o s1) hx1) (TO.gq rfl rfl (q_ix (i := (toN a t x)) uT48 inf3 rfl rfl (rowO (mG 0 rfl)) hto (by rw [List.length_map, lnL_len]; omega)) (TO.gq rfl rfl (q_ld uT3 rfl rfl (rowO (mG 0 rfl)) (lnL_get hto)) (TO.gq rfl rfl (q_move rfl) (TO.gq rfl rfl (QT.cast (q_sub64 rfl rfl (by omega)) (v' := vI ((n : Nat) : Int)) (congrArg (Value.int .i64) (by omega))) ?_))))
     by_cases hhit : lnN a n (toN a t x) = (n : Int)
     ·refine TO.gq rfl rfl (QT.toB (QT.cast (q_eql rfl rfl) (v' := .bool (decide (lnN a n (toN a t x) = (n : Int)))) (congrArg Value.bool (decide_eq_decide.2 (lnL_to hneg)))) (decide_eq_true hhit)) ?_
      refine TO.q (q_pick1 rfl rfl) (TO.nl ?_)
      skip
      refine T.cond1 rfl ?_
      refine T.rg (TO.qm rfl (TO.qm rfl (TO.qm rfl (TO.q (q_ix (i := t) uT48 inf3 rfl rfl (rowO (mG 0 rfl)) hlt38 (by rw [List.length_map, lnL_len]; omega)) (TO.l rfl (l_st (j := t) (v := vI ((n + 1 : Nat) : Int)) (vs := [(vI ((n + 1 : Nat) : Int))]) (cs := ints (lnL a n t x)) 0 inf3 rfl rfl rfl rfl rfl (by simp) rfl (by rw [List.length_map, lnL_len]; simp; omega) ?_))))))
      refine TO.sub (O' := [rowI (aD z2) a.next.length 3 1 (ints ((lnL a n t x).set t ((n + 1 : Nat) : Int))), oI z1 25 (dC a k)]) (by rw [show putL (ints (lnL a n t x)) t [(vI ((n + 1 : Nat) : Int))] = ints ((lnL a n t x).set t ((n + 1 : Nat) : Int)) from by simp [putL]]; exact Sub.of (List.Sublist.refl _)) ?_
      refine TO.nl (T.rg (TO.qm rfl (TO.q (q_addN (a := x) (b := 1) rfl rfl (by omega)) (TO.qa rfl (TO.nl ?_)))))
      exact ⟨x + 1, by omega, by rw [← lnL_hit hlt38 hneg hhit], by omega, (.of rfl)⟩
     refine TO.gq rfl rfl (QT.toB (QT.cast (q_eql rfl rfl) (v' := .bool (decide (lnN a n (toN a t x) = (n : Int)))) (congrArg Value.bool (decide_eq_decide.2 (lnL_to hneg)))) (decide_eq_false hhit)) (TO.q (q_pick1 rfl rfl) (TO.nl ?_))
     have hmiss : ¬ (lnP a n t x < 0 ∧ lnN a n (toN a t x) = (n : Int)) := fun h9 => hhit h9.2
     refine T.cond0 rfl (T.skip (T.rg (TO.qm rfl (TO.q (q_addN (a := x) (b := 1) rfl rfl (by omega)) (TO.qa rfl (TO.nl ?_))))))
     exact ⟨x + 1, by omega, by rw [lnL_miss hmiss], by omega, (.of rfl)⟩
    refine TO.q (QT.toB (q_move rfl) (decide_eq_false hneg)) (TO.pd rfl rfl (TO.pd rfl rfl (TO.pd rfl rfl (TO.pd rfl rfl (TO.pd rfl rfl (TO.pd rfl rfl (TO.pd rfl rfl ?_)))))))
    refine TO.pd rfl rfl (TO.pd rfl rfl (TO.pd rfl rfl (TO.pd rfl rfl (TO.pd rfl rfl (TO.pd rfl rfl (TO.pd rfl rfl (TO.q (q_pick0 rfl rfl) ?_)))))))
    refine TO.nl ?_
    have hmiss : ¬ (lnP a n t x < 0 ∧ lnN a n (toN a t x) = (n : Int)) := fun h9 => hneg h9.1
    refine T.cond0 rfl (T.skip (T.rg (TO.qm rfl (TO.q (q_addN (a := x) (b := 1) rfl rfl (by omega)) (TO.qa rfl (TO.nl ?_))))))
    exact ⟨x + 1, by omega, by rw [lnL_miss hmiss], by omega, (.of rfl)⟩
   have hge48 : ¬ x < a.next[t].length := by omega
   have hxe : x = letN a := by omega
   refine T.exit ?_
   refine T.rg (TO.qm rfl (TO.q (q_addN (a := t) (b := 1) rfl rfl (by omega)) (TO.qa rfl (TO.nl ?_))))
   exact ⟨t + 1, by omega, by rw [hxe, lnL_row], by omega, (.of rfl)⟩
  have hge38 : ¬ t < a.next.length := by omega
  refine T.exit ?_
  refine T.rg (TO.qm rfl (TO.q (q_addN (a := (n + 1)) (b := 1) rfl rfl (by omega)) (TO.qa rfl (TO.nl ?_))))
  exact ⟨n + 1, by omega, by rw [show t = a.next.length by omega, lnL_round], by omega, (.of rfl)⟩
 have hge32 : ¬ n + 1 < a.next.length := by omega
 refine T.exit ?_
 refine T.s (T.rg (TO.qm rfl (TO.qa rfl (TO.nl (T.ret (Res.drop ?_))))))
 refine Res.one (.slice (aD z2) a.next.length a.next.length) Tryz.results98 rfl ?_
 have hne : n + 1 = a.next.length := by omega
 exact ⟨[rowI (aD z2) a.next.length 3 1 (ints (lnL a n 0 0))], (by exact Sub.k .z), z2, rfl, by rw [lnL_end hne]⟩
theorem rShoN (w : World) [Tab Tryz.prog w] (a : DFA) (k : DK) (ha : At w a k) (hv : Valid a) :
  PureT Tryz.prog 75 [dV a k] w fun v N => ∃ res wb wc, LeastA a res ∧ v = .tuple #[.slice wb (res.getD []).length wc, .bool res.isSome, vI 0] ∧ ((res ≠ none ∧ N = [rowI wb wc 5 1 (byts (res.getD []))]) ∨ (res = none ∧ N = [] ∧ wb = none ∧ wc = 0)) := by
 refine CallT.enter func75 rfl ntmps75 rfl ?_
 have he := checkD_zero.2 hv
 have h4 := hv.n4
 have hww : letN a ≤ 64 := hv.width
 have hvl := ha.rows.1
 have hs0 := hv.s0
 have hs1 : a.start = ((a.start.toNat : Nat) : Int) := (Int.toNat_of_nonneg hv.s0).symm
 have hsl := start_lt hv.toVal
 refine T.s (T.rg (TO.l rfl (l_box (v := (dV a k)) (cs := (dC a k)) rfl rfl (fun z1 => ?_))))
 refine TO.qa rfl (TO.qa rfl (TO.qa rfl (TO.nl (T.s (T.rg (TO.q (q_la 0 uT25 rfl inf25 rfl rfl rfl) ?_))))))
 refine TO.l rfl (l_call ent34 (CallT.op fun w1 hI => (haveI := tbz hI; (show PureT _ _ _ _ _ from by
   have h9 := refCheck w1 a k.nb k.fb k.nc k.fc (vals k.qs) (hI.dfa ha) (by omega) hv.bound (by have := hv.fin; omega)
   rw [he] at h9
   exact h9))) rfl ?_)
 rintro vr O' ⟨N, rfl, rfl, rfl⟩
 refine TO.qa rfl (TO.nl (T.s (T.s (T.rg (TO.qm rfl (TO.q (QT.toB (q_neq rfl rfl) (decide_eq_false (fun h => h rfl))) (TO.nl (T.cond0 rfl (T.skip (T.s (T.rg (TO.q (q_la 0 uT25 rfl inf25 rfl rfl rfl) (TO.l rfl (l_call ent98 (CallT.op fun w1 hI => (haveI := tbz hI; lengthsC w1 a k (hI.atB ha) hv)) rfl ?_))))))))))))))
 rintro vr O' ⟨N, rfl, lb, rfl, rfl⟩
 refine TO.qa rfl (TO.nl (T.s (T.rg (TO.q (q_fa uT25 rfl inf3 rfl rfl) (TO.q (q_lb 1 uT3 rfl rfl rfl rfl) (TO.qa rfl (TO.nl (T.s (T.s (T.rg (TO.qm rfl (TO.qm rfl (TO.q (q_ixz (i := a.start) uT48 inf3 rfl rfl (rowO (mG 0 rfl)) hs0 hsl (by rw [List.length_map, lenL_len]; omega)) (TO.q (q_ld uT3 rfl rfl (rowO (mG 0 rfl)) (lenL_at hsl)) (TO.q (q_lss rfl rfl) (TO.nl (T.condP rfl (fun hc => ?_) (fun hc => ?_))))))))))))))))))
 ·have hneg := hc
  refine T.s (T.rg (TO.qa rfl (TO.qa rfl (TO.qa rfl (TO.nl (T.ret (Res.drop ?_)))))))
  refine Res.three nS (.bool false) (vI 0) Tryz.results75 rfl rfl rfl ?_
  exact ⟨[], Sub.z, none, none, 0, (by
   rcases lnD_neg hv.toVal hsl with h9 | h9
   ·obtain ⟨k9, h9⟩ := h9; exact absurd hneg (by omega)
   ·exact fun u9 hu9 => h9.2 u9 hu9), rfl, .inr ⟨rfl, rfl, rfl, rfl⟩⟩
 have hpos := hc
 refine T.skip (T.s (T.rg (TO.qa rfl (TO.nl (T.s (T.block (T.nilRow 5 1 ?_)))))))
 refine T.sub (O' := [rowI none 0 5 1 (byts []), rowI (aD lb) a.next.length 3 1 (ints (lenL a)), oI z1 25 (dC a k)]) (by exact Sub.rf) ?_
 obtain ⟨K, hK⟩ : ∃ K : Nat, lnD a a.start.toNat = (K : Int) := by
  rcases lnD_neg hv.toVal hsl with h9 | h9
  ·exact h9
  ·exact absurd h9.1 (by omega)
 have hD0 := (lnD_iff hv.toVal hsl).1 hK
 have hKn := Ds.lt hv.toVal hsl hD0
 refine T.loopS (fun (u : List Nat) ρ O => ∃ (s9 : Nat) (wb : Option Addr) (wc : Nat), O = [rowI wb wc 5 1 (byts u), rowI (aD lb) a.next.length 3 1 (ints (lenL a)), oI z1 25 (dC a k)] ∧ GI a K u s9 ∧ Heads [(0, (dV a k)), (1, (.pointer (aD z1))), (2, nS), (3, .bool false), (4, vI 0), (5, vI 0), (6, (.slice (aD lb) a.next.length a.next.length)), (7, vI ((s9 : Nat) : Int)), (8, (.slice wb u.length wc))] ρ) (fun u => K - u.length) [] ?_ ?_
 ·exact ⟨a.start.toNat, none, 0, rfl, GI.zero hD0, ⟨rfl, rfl, rfl, rfl, rfl, rfl, rfl, (congrArg (Value.int .i64) hs1), rfl, trivial⟩⟩
 rintro u ρ O ⟨s9, wb, wc, rfl, hg, hH⟩
 obtain ⟨ρ0, rfl⟩ := hH.elim
 clear hH
 have hul := hg.len
 have hs9 : s9 < a.next.length := by rw [← hg.run]; exact runN_lt hv.toVal hsl u hg.wd
 have hln : lnD a s9 = ((K - u.length : Nat) : Int) := (lnD_iff hv.toVal hs9).2 hg.dist
 refine T.s (T.s (T.rg (TO.qm rfl (TO.qm rfl (TO.q (q_ix (i := s9) uT48 inf3 rfl rfl (rowO (mG 1 rfl)) hs9 (by rw [List.length_map, lenL_len]; omega)) (TO.q (q_ld uT3 rfl rfl (rowO (mG 1 rfl)) (by rw [lenL_at hs9, hln])) (TO.q (q_gtr rfl rfl) (TO.nl (T.condP rfl (fun hc => ?_) (fun hc => ?_))))))))))
 ·have hlt28 : K - u.length > 0 := by omega
  refine T.skip (T.block (T.s (T.rg (TO.qa rfl (TO.nl (T.s (T.block ?_)))))))
  obtain ⟨x0, hx0, hD9⟩ := hg.next (show u.length < K by omega)
  obtain ⟨v1, c1, g1, s1⟩ := ha.rows.get hs9
  have hl1 : a.next[s9].length = letN a := hv.len _ (List.getElem_mem hs9)
  refine T.loop (fun (x : Nat) ρ O => O = [rowI wb wc 5 1 (byts u), rowI (aD lb) a.next.length 3 1 (ints (lenL a)), oI z1 25 (dC a k)] ∧ x ≤ x0 ∧ (∀ y, y < x → ¬ Ds a (toN a s9 y) (K - u.length - 1)) ∧ Heads [(0, (dV a k)), (1, (.pointer (aD z1))), (2, nS), (3, .bool false), (4, vI 0), (5, vI 0), (6, (.slice (aD lb) a.next.length a.next.length)), (7, vI ((s9 : Nat) : Int)), (8, (.slice wb u.length wc)), (9, vI ((x : Nat) : Int))] ρ) (fun x => x0 - x) 0 ?_ ?_
  ·exact ⟨rfl, Nat.zero_le _, fun y hy => absurd hy (by omega), (.of rfl)⟩
  rintro x ρ O ⟨rfl, hx, hyy, hH⟩
  obtain ⟨ρ0, rfl⟩ := hH.elim
  clear hH
  have hxl : x < letN a := by omega
  obtain ⟨hto, _, hxk1, hx1⟩ := hv.toN_lt hs9 hxl
  have hx1 : (ints a.next[s9])[x]? = some (vI ((toN a s9 x : Nat) : Int)) := by rw [ints_get hxk1, hx1]
  refine T.s (T.s ?_)
  refine T.draws _ [(0, 0), (1, 0), (2, 0), (3, 0), (4, 0), (5, 0), (6, 0), (7, 0), (8, 0), (9, 0), (10, 0), (11, 0), (12, 0), (13, 0), (14, 0), (15, 0), (16, 0)] mixed (drawF_ok (by kernel_rfl)) (Sub.of (List.Sublist.refl _)) (fun _ _ _ h => h) ?_
  refine DO.q rfl (q_move rfl) (DO.q rfl (q_fa uT25 rfl inf22 rfl rfl) (DO.q rfl (q_lb 2 uT22 rfl rfl rfl rfl) (DO.q rfl (q_move rfl) (DO.q rfl (q_ix (i := s9) uT22 inf48 rfl rfl (Sl.o ha.outer) hs9 (hvl ▸ hs9)) (DO.q rfl (q_ld uT48 rfl rfl (Sl.o ha.outer) g1) (DO.q rfl (q_move rfl) (DO.q rfl (q_ix (i := x) uT48 inf3 rfl rfl (Sl.o s1) hxk1 (by rw [List.length_map]; exact hxk1)) (DO.q rfl (q_ld uT3 rfl rfl (Sl.o s1) hx1) (DO.q rfl (q_ix (i := (toN a s9 x)) uT48 inf3 rfl rfl (rowO (mG 1 rfl)) hto (by rw [List.length_map, lenL_len]; omega)) (DO.q rfl (q_ld uT3 rfl rfl (rowO (mG 1 rfl)) (lenL_at hto)) (DO.q rfl (q_move rfl) (DO.q rfl (q_move rfl) (DO.q rfl (q_ix (i := s9) uT48 inf3 rfl rfl (rowO (mG 1 rfl)) hs9 (by rw [List.length_map, lenL_len]; omega)) (DO.q rfl (q_ld uT3 rfl rfl (rowO (mG 1 rfl)) (by rw [lenL_at hs9, hln])) (DO.q rfl (q_subN (a := (K - u.length)) (b := 1) rfl rfl (by omega) (by omega)) (DO.q rfl (q_neq rfl rfl) ?_))))))))))))))))
  refine DO.done ?_
  refine T.condP rfl (fun hc => ?_) (fun hc => ?_)
  ·have hc9 := hc
   refine T.skip (T.block (T.rg (TO.qm rfl (TO.q (q_addN (a := x) (b := 1) rfl rfl (by omega)) (TO.qa rfl (TO.nl ?_))))))
   have hxn : ¬ Ds a (toN a s9 x) (K - u.length - 1) := fun h9 => hc9 ((lnD_iff hv.toVal hto).2 h9)
   have hxx : x ≠ x0 := fun e9 => hxn (e9 ▸ hD9)
   exact ⟨x + 1, by omega, rfl, by omega, fun y hy => (by
    by_cases e9 : y = x
    ·rw [e9]; exact hxn
    ·exact hyy y (by omega)), (.of rfl)⟩
  have hc9 := hc
  refine T.exit ?_
  refine T.s (T.rg (TO.qm rfl (TO.qm rfl (TO.q (q_conv_id uT3 uT5 rfl (by first | rfl | exact wrap64_id ⟨by omega, by omega⟩ | exact wrap8 (by omega) | exact wrapU64 (by omega))) (TO.l rfl (l_build1 (v := .int .u8 ((x : Nat) : Int)) uT34 inf5 rfl rfl rfl (fun z2 => ?_)))))))
  refine TO.l rfl (l_append 1 uT34 uT34 inf5 rfl rfl rfl rfl (by simp) (by decide) (Src.row (j := 0) rfl (by simp)) (by simp [oneB]) (by omega) (by decide) (by decide) (fun z3 zc4 => ?_))
  refine TO.qa rfl (TO.nl (T.rg (TO.q (q_fa uT25 rfl inf22 rfl rfl) (TO.q (q_lb 3 uT22 rfl rfl rfl rfl) (TO.qm rfl (TO.q (q_ix (i := s9) uT22 inf48 rfl rfl (Sl.o ha.outer) hs9 (hvl ▸ hs9)) (TO.q (q_ld uT48 rfl rfl (Sl.o ha.outer) g1) (TO.qm rfl (TO.q (q_ix (i := x) uT48 inf3 rfl rfl (Sl.o s1) hxk1 (by rw [List.length_map]; exact hxk1)) (TO.q (q_ld uT3 rfl rfl (Sl.o s1) hx1) (TO.qa rfl (TO.nl ?_))))))))))))
  have hst : byts (u ++ [x]) = byts u ++ [.int .u8 ((x : Nat) : Int)] := List.map_append
  have hDx := (lnD_iff hv.toVal hto).1 (Classical.not_not.1 hc9)
  exact ⟨u ++ [x], by rw [List.length_append]; simp; omega, [rowI z3 zc4 5 1 ((byts u) ++ [.int .u8 ((x : Nat) : Int)]), rowI (aD lb) a.next.length 3 1 (ints (lenL a)), oI z1 25 (dC a k)], (by exact Sub.d (.k (.k (.k .z)))), toN a s9 x, z3, zc4, by rw [hst], hg.step hv.toVal (by omega) hxl hDx (fun y hy => hyy y hy), ⟨rfl, rfl, rfl, rfl, rfl, rfl, rfl, rfl, (congrArg (fun n9 => Value.slice _ n9 _) (by simp : u.length + 1 = (u ++ [x]).length)), trivial⟩⟩
 have hge28 : ¬ K - u.length > 0 := by omega
 refine T.exit ?_
 refine T.s (T.rg (TO.qm rfl (TO.qa rfl (TO.qa rfl (TO.qa rfl (TO.nl (T.ret (Res.drop ?_))))))))
 refine Res.three (.slice wb u.length wc) (.bool true) (vI 0) Tryz.results75 rfl rfl rfl ?_
 have hKe : u.length = K := by omega
 subst hKe
 exact ⟨[rowI wb wc 5 1 (byts u)], (by exact Sub.k .z), some u, wb, wc, GI.least hv.toVal hg hD0, rfl, .inl ⟨by simp, rfl⟩⟩
theorem rShoK (w : World) [Tab Tryz.prog w] (a : DFA) (k : DK) (ha : At w a k) (hv : Valid a) :
  PureT Tryz.prog 75 [dV a k] w fun v N => ∃ res wb wc, LeastA a res ∧ v = .tuple #[.slice wb (res.getD []).length wc, .bool res.isSome, vI 0] ∧ N = [rowI wb wc 5 1 (byts (res.getD []))] := by
 refine (CallT.nilOr 5 1 (rShoN w a k ha hv)).mono ?_
 rintro v N ⟨O2, hN, res, wb, wc, hL, hV, h⟩
 rcases h with ⟨hr, rfl⟩ | ⟨rfl, rfl, rfl, rfl⟩
 ·exact ⟨res, wb, wc, hL, hV, hN.1 (by simp)⟩
 ·exact ⟨none, none, 0, hL, hV, hN.2 rfl⟩
end Go.Proofs.YtnpehjpookcfkaaGreatDoor


namespace Go.Lx
open Go.RowKit
theorem HasL.flip {d : DFA} (h : Valid d) : HasL d.vars d.next.length (flipD d) (fun w => !Lx.acc d w) := ⟨flip_valid h, Nat.le_refl _, rfl, fun w hw => flip_acc h.toVal hw⟩
theorem InL.self {d : DFA} (h : Valid d) : InL d d (acc d) := ⟨⟨h, Nat.le_refl _, rfl, fun _ _ => rfl⟩, Det.refl d⟩
theorem notD_flipW {d : DFA} (h : Valid d) : minD (flipD d) = notD d :=
 MinL.ext (HasL.flip h).minim (InL.not h (InL.self h)).1 fun w _ => rfl
theorem InL.flip {z d : DFA} {p : List Nat → Bool} (h : InL z d p) : InL z (flipD d) (fun w => !p w) :=
 ⟨⟨flip_valid h.has.valid, h.has.len, h.has.vars, fun w hw => by rw [flip_acc h.has.valid.toVal (h.has.wd.2 hw), h.has.acc w hw]⟩, h.det⟩
theorem minus_flip {z a b : DFA} {p q : List Nat → Bool} (hz : Valid z) (ha : InL z a p) (hb : InL z b q) : opD andB a (flipD b) = opD minusB a b :=
 MinL.ext (InL.op (f := andB) hz ha hb.flip).1 (InL.op (f := minusB) hz ha hb).1 fun w _ => by simp [andB, minusB]
def fewD (d : DFA) : DFA := ⟨d.vars, d.start, (d.next.take 6).map (·.take 65), d.final.take 6⟩
theorem few_len (d : DFA) : (fewD d).next.length ≤ 6 := by simp [fewD]; omega
theorem few_row (d : DFA) : ∀ r ∈ (fewD d).next, r.length ≤ 65 := fun r hr => by
 obtain ⟨s, _, rfl⟩ := List.mem_map.1 (show r ∈ (d.next.take 6).map (·.take 65) from hr)
 simp; omega
theorem few_fin (d : DFA) : (fewD d).final.length ≤ 6 := by simp [fewD]; omega
theorem few_bd (d : DFA) : (fewD d).next.length < 9223372036854775807 ∧ (∀ r ∈ (fewD d).next, r.length < 9223372036854775807) ∧ (fewD d).final.length < 9223372036854775807 :=
 ⟨by have := few_len d; omega, fun r hr => by have := few_row d r hr; omega, by have := few_fin d; omega⟩
def iE (x a g : DFA) : Nat := if checkD x ≠ 0 then checkD x else if cE a g ≠ 0 then cE a g else if x.vars ≠ a.vars then 7 else 0
def bE (a g b h : DFA) : Nat := if cE a g ≠ 0 then cE a g else if cE b h ≠ 0 then cE b h else if a.vars ≠ b.vars then 7 else 0
theorem cE_zero {a g : DFA} : cE a g = 0 ↔ Valid a ∧ Valid g ∧ a.vars = g.vars := by
 rw [← checkD_zero, ← checkD_zero]
 unfold cE
 by_cases h1 : checkD a = 0
 ·by_cases h2 : checkD g = 0
  ·by_cases h3 : a.vars = g.vars
   ·simp [h1, h2, h3]
   ·simp [h1, h2, h3]
  ·simp [h1, h2]
 ·simp [h1]
theorem iE_zero {x a g : DFA} : iE x a g = 0 ↔ Valid x ∧ Valid a ∧ Valid g ∧ x.vars = a.vars ∧ a.vars = g.vars := by
 unfold iE
 by_cases h1 : checkD x = 0
 ·have hx := checkD_zero.1 h1
  by_cases h2 : cE a g = 0
  ·have h2' := cE_zero.1 h2
   by_cases h3 : x.vars = a.vars
   ·rw [if_neg (by omega), if_neg (by omega), if_neg (fun h => h h3)]; simp [hx, h2'.1, h2'.2.1, h2'.2.2, h3]
   ·rw [if_neg (by omega), if_neg (by omega), if_pos h3]; exact ⟨fun h => by omega, fun h => absurd h.2.2.2.1 h3⟩
  ·rw [if_neg (by omega), if_pos h2]; exact ⟨fun h => absurd h h2, fun h => absurd (cE_zero.2 ⟨h.2.1, h.2.2.1, h.2.2.2.2⟩) h2⟩
 ·rw [if_pos h1]; exact ⟨fun h => absurd h h1, fun h => absurd (checkD_zero.2 h.1) h1⟩
theorem bE_zero {a g b h : DFA} : bE a g b h = 0 ↔ (Valid a ∧ Valid g ∧ a.vars = g.vars) ∧ (Valid b ∧ Valid h ∧ b.vars = h.vars) ∧ a.vars = b.vars := by
 rw [← cE_zero, ← cE_zero]
 unfold bE
 by_cases h1 : cE a g = 0
 ·by_cases h2 : cE b h = 0
  ·by_cases h3 : a.vars = b.vars
   ·simp [h1, h2, h3]
   ·simp [h1, h2, h3]
  ·simp [h1, h2]
 ·simp [h1]
theorem small_z {v : Int} {l : List DFA} (h : ∀ d ∈ l, Valid d ∧ d.vars = v ∧ d.next.length ≤ 6) (hl : l.length ≤ 4) (hne : l ≠ []) : ∃ z, Valid z ∧ z.vars = v ∧ z.next.length ≤ 1296 ∧ ∀ d ∈ l, InL z d (acc d) := by
 obtain ⟨d0, hd0⟩ := List.exists_mem_of_ne_nil l hne
 have h0 : 0 ≤ v := by have := (h d0 hd0).1.v0; rw [(h d0 hd0).2.1] at this; exact this
 have h6 : v ≤ 6 := by have := (h d0 hd0).1.v6; rw [(h d0 hd0).2.1] at this; exact this
 obtain ⟨h1, h2, h3, h4⟩ := zP_ok h0 h6 (l := l) fun d hd => ⟨(h d hd).1.toVal, (h d hd).2.1⟩
 have hz : (zP v l).next.length ≤ 1296 := by
  rw [h3]
  have hpow : zN l ≤ 6 ^ l.length := by
   have : ∀ l : List DFA, (∀ d ∈ l, d.next.length ≤ 6) → zN l ≤ 6 ^ l.length := by
    intro l
    induction l with
    | nil => intro _; exact Nat.le_refl _
    | cons d l ih =>
     intro hh
     rw [List.length_cons, Nat.pow_succ, Nat.mul_comm]
     exact Nat.mul_le_mul (hh d (by simp)) (ih fun x hx => hh x (by simp [hx]))
   exact this l fun d hd => (h d hd).2.2
  exact Nat.le_trans hpow (Nat.le_trans (Nat.pow_le_pow_right (by decide) hl) (by decide))
 refine ⟨_, ⟨h1, Nat.le_trans hz (by decide)⟩, h2, hz, fun d hd => ?_⟩
 exact InL.of ⟨h1, Nat.le_trans hz (by decide)⟩ (h d hd).1 (by rw [h2, (h d hd).2.1]) (by rw [h3]; exact (h4 d hd).2) (h4 d hd).1
theorem least_ex (d : DFA) : ∃ r, LeastA d r := by
 by_cases h : ∃ u, Wd d u ∧ acc d u = true
 ·have key : ∀ n, (∃ u, Wd d u ∧ acc d u = true ∧ code u ≤ n) → ∃ r, LeastA d r := by
   intro n
   induction n with
   | zero => rintro ⟨u, h1, h2, h3⟩; exact ⟨some u, h1, h2, fun v _ _ => by omega⟩
   | succ n ih =>
    rintro ⟨u, h1, h2, h3⟩
    by_cases h4 : ∃ v, Wd d v ∧ acc d v = true ∧ code v ≤ n
    ·exact ih h4
    ·refine ⟨some u, h1, h2, fun v hv hv2 => ?_⟩
     have : ¬ code v ≤ n := fun h5 => h4 ⟨v, hv, hv2, h5⟩
     omega
  obtain ⟨u, h1, h2⟩ := h
  exact key _ ⟨u, h1, h2, Nat.le_refl _⟩
 ·refine ⟨none, fun u hu => ?_⟩
  cases e : acc d u with
  | false => rfl
  | true => exact absurd ⟨u, hu, e⟩ h
theorem pick2 (e : Nat) (x y : DFA) : ∃ P Q, (e = 0 → x = P ∧ y = Q) ∧ (e ≠ 0 → P = noD ∧ Q = noD) := by
 by_cases h : e = 0
 ·exact ⟨x, y, fun _ => ⟨rfl, rfl⟩, fun h9 => absurd h h9⟩
 ·exact ⟨noD, noD, fun h9 => absurd h9 h, fun _ => ⟨rfl, rfl⟩⟩
theorem pickR (e : Nat) (d : DFA) : ∃ (r : Option (List Nat)) (b : Bool), (e = 0 → LeastA d r) ∧ (e ≠ 0 → r = none) ∧ b = (decide (e = 0) && !r.isSome) := by
 by_cases h : e = 0
 ·obtain ⟨r, hr⟩ := least_ex d
  exact ⟨r, _, fun _ => hr, fun h9 => absurd h h9, rfl⟩
 ·exact ⟨none, _, fun h9 => absurd h9 h, fun _ => rfl, rfl⟩
structure CapD (d : DFA) (j : DK) : Prop where
 f : d.final.length ≤ j.fc
 r : ∀ (i : Nat) (b : Option Addr) (n c : Nat), (vals j.qs)[i]? = some (Value.slice b n c) → n ≤ c
theorem Sl.pre {w : World} {b : Option Addr} {cs : List Value} (h : Sl w b cs) (m : Nat) : Sl w b (cs.take m) := fun i hi => by
 have hi' : i < cs.length := by rw [List.length_take] at hi; omega
 obtain ⟨a, h1, h2, h3⟩ := h i hi'
 exact ⟨a, h1, h2, by rw [h3]; simp⟩
structure FewR (w : World) (d : DFA) (s : Nat) (rs : List Rec) : Prop where
 xs : nums rs = (d.next.take s).map (·.take 65)
 sl : ∀ r ∈ rs, Sl w r.b (ints r.xs)
theorem FewR.zero (w : World) (d : DFA) : FewR w d 0 [] := ⟨rfl, fun r hr => by cases hr⟩
theorem FewR.step {w : World} {d : DFA} {s : Nat} {rs : List Rec} (h : FewR w d s rs) (hs : s < d.next.length) {v : Option Addr} {c : Nat} (hv : Sl w v (ints d.next[s])) : FewR w d (s + 1) (rs ++ [⟨v, c, d.next[s].take 65⟩]) := by
 refine ⟨?_, fun r hr => ?_⟩
 ·rw [List.take_succ_eq_append_getElem hs, List.map_append, ← h.xs]; exact List.map_append
 ·rcases List.mem_append.1 hr with hr | hr
  ·exact h.sl r hr
  ·obtain rfl := List.mem_singleton.1 hr
   have := hv.pre 65
   rw [← List.map_take] at this
   exact this
theorem FewR.len {w : World} {d : DFA} {s : Nat} {rs : List Rec} (h : FewR w d s rs) (hs : s ≤ d.next.length) : rs.length = s := by
 have := congrArg List.length h.xs
 simpa [Nat.min_eq_left hs] using this
theorem FewR.rows {w w' : World} {d : DFA} {s : Nat} {rs : List Rec} (h : FewR w d s rs) (hk : ∀ k, k < w.heap.size → w'.heap[k]? = w.heap[k]?) {R : List (List Int)} (hR : nums rs = R) : RowsR w' (vals rs) R := by
 subst hR
 refine ⟨by simp, fun i r hr => ?_⟩
 rw [List.getElem?_map] at hr
 cases hq : rs[i]? with
 | none => rw [hq] at hr; cases hr
 | some q =>
  rw [hq] at hr
  obtain rfl : q.xs = r := by simpa using hr
  refine ⟨q.b, q.c, ?_, (h.sl q (List.mem_of_getElem? hq)).keep hk⟩
  rw [List.getElem?_map, hq]; rfl
theorem few_next {d : DFA} {s : Nat} (hs : s = min 6 d.next.length) : (d.next.take s).map (·.take 65) = (fewD d).next := by
 unfold fewD
 subst hs
 by_cases h : 6 ≤ d.next.length
 ·rw [Nat.min_eq_left h]
 ·rw [Nat.min_eq_right (by omega), List.take_of_length_le (Nat.le_refl _), List.take_of_length_le (by omega)]
end Go.Lx
namespace Go.Lx
abbrev Bd9 (a : DFA) : Prop := a.next.length < 9223372036854775807 ∧ (∀ r ∈ a.next, r.length < 9223372036854775807) ∧ a.final.length < 9223372036854775807
theorem bd_noD : Bd9 noD := ⟨by decide, ⟨fun r hr => (by cases hr), by decide⟩⟩
theorem pickBd {e : Nat} {x y P Q : DFA} (hx : e = 0 → Bd9 x ∧ Bd9 y) (h0 : e = 0 → x = P ∧ y = Q) (h1 : e ≠ 0 → P = noD ∧ Q = noD) : Bd9 P ∧ Bd9 Q := by
 by_cases he : e = 0
 ·obtain ⟨rfl, rfl⟩ := h0 he
  exact hx he
 ·obtain ⟨rfl, rfl⟩ := h1 he
  exact ⟨bd_noD, bd_noD⟩
theorem cE_z {a g : DFA} (h : cE a g = 0) (la : a.next.length ≤ 6) (lg : g.next.length ≤ 6) : ∃ z, Valid z ∧ z.next.length ≤ 1296 ∧ InL z a (acc a) ∧ InL z g (acc g) := by
 obtain ⟨va, vg, hv⟩ := cE_zero.1 h
 obtain ⟨z, z1, z2, z3, z4⟩ := small_z (v := a.vars) (l := [a, g]) (fun x hx => by
  simp only [List.mem_cons, List.not_mem_nil, or_false] at hx
  rcases hx with rfl | rfl
  ·exact ⟨va, rfl, la⟩
  ·exact ⟨vg, hv.symm, lg⟩) (by simp) (by simp)
 exact ⟨z, z1, z3, z4 a (by simp), z4 g (by simp)⟩
theorem iE_z {x a g : DFA} (h : iE x a g = 0) (lx : x.next.length ≤ 6) (la : a.next.length ≤ 6) (lg : g.next.length ≤ 6) : ∃ z, Valid z ∧ z.next.length ≤ 1296 ∧ InL z x (acc x) ∧ InL z a (acc a) ∧ InL z g (acc g) := by
 obtain ⟨vx, va, vg, hv1, hv2⟩ := iE_zero.1 h
 obtain ⟨z, z1, z2, z3, z4⟩ := small_z (v := a.vars) (l := [x, a, g]) (fun y hy => by
  simp only [List.mem_cons, List.not_mem_nil, or_false] at hy
  rcases hy with rfl | rfl | rfl
  ·exact ⟨vx, hv1, lx⟩
  ·exact ⟨va, rfl, la⟩
  ·exact ⟨vg, hv2.symm, lg⟩) (by simp) (by simp)
 exact ⟨z, z1, z3, z4 x (by simp), z4 a (by simp), z4 g (by simp)⟩
theorem bE_z {a b c d : DFA} (h : bE a b c d = 0) (la : a.next.length ≤ 6) (lb : b.next.length ≤ 6) (lc : c.next.length ≤ 6) (ld : d.next.length ≤ 6) : ∃ z, Valid z ∧ z.next.length ≤ 1296 ∧ InL z a (acc a) ∧ InL z b (acc b) ∧ InL z c (acc c) ∧ InL z d (acc d) := by
 obtain ⟨⟨va, vb, hv1⟩, ⟨vc, vd, hv2⟩, hv3⟩ := bE_zero.1 h
 obtain ⟨z, z1, z2, z3, z4⟩ := small_z (v := a.vars) (l := [a, b, c, d]) (fun y hy => by
  simp only [List.mem_cons, List.not_mem_nil, or_false] at hy
  rcases hy with rfl | rfl | rfl | rfl
  ·exact ⟨va, rfl, la⟩
  ·exact ⟨vb, hv1.symm, lb⟩
  ·exact ⟨vc, hv3.symm, lc⟩
  ·exact ⟨vd, by rw [← hv2, hv3], ld⟩) (by simp) (by simp)
 exact ⟨z, z1, z3, z4 a (by simp), z4 b (by simp), z4 c (by simp), z4 d (by simp)⟩
theorem least_len {z d : DFA} {p : List Nat → Bool} (hz : Valid z) (hl : z.next.length ≤ 1296) (h : InL z d p) {r : Option (List Nat)} (hr : LeastA d r) : (r.getD []).length ≤ 1296 := by
 cases r with
 | none => exact Nat.zero_le _
 | some u =>
  have hu : p u = true := by rw [← h.has.acc u (h.has.wd.1 hr.1)]; exact hr.2.1
  have := LeastA.short h.has h.has (fun w _ e => e) hr hu
  show u.length ≤ 1296
  omega
theorem least_wd {d : DFA} (hv : Val d) {r : Option (List Nat)} (hr : LeastA d r) : ∀ x ∈ r.getD [], x < 256 := by
 cases r with
 | none => intro x hx; cases hx
 | some u => exact fun x hx => by have := hv.wd64 hr.1 x hx; omega
theorem sat_bd {a g P Q : DFA} {e : Nat} (hE : cE a g = e) (la : a.next.length ≤ 6) (lg : g.next.length ≤ 6) (h0 : e = 0 → minD a = P ∧ satD a g = Q) (h1 : e ≠ 0 → P = noD ∧ Q = noD) : Bd9 P ∧ Bd9 Q := by
 refine pickBd (fun he => ?_) h0 h1
 obtain ⟨z, hz, _, ha, hg⟩ := cE_z (hE.trans he) la lg
 exact ⟨(InL.minI hz ha).bds, (InL.satI hz ha hg).bds⟩
theorem meet_bd {a b c d P Q : DFA} {e : Nat} (hE : bE a b c d = e) (la : a.next.length ≤ 6) (lb : b.next.length ≤ 6) (lc : c.next.length ≤ 6) (ld : d.next.length ≤ 6) (h0 : e = 0 → opD orB a c = P ∧ opD andB (satD a b) (satD c d) = Q) (h1 : e ≠ 0 → P = noD ∧ Q = noD) : Bd9 P ∧ Bd9 Q := by
 refine pickBd (fun he => ?_) h0 h1
 obtain ⟨z, hz, _, ha, hb, hc, hd⟩ := bE_z (hE.trans he) la lb lc ld
 exact ⟨(InL.orI hz ha hc).bds, (InL.meetG hz ha hb hc hd).bds⟩
theorem join_bd {a b c d P Q : DFA} {e : Nat} (hE : bE a b c d = e) (la : a.next.length ≤ 6) (lb : b.next.length ≤ 6) (lc : c.next.length ≤ 6) (ld : d.next.length ≤ 6) (h0 : e = 0 → opD andB a c = P ∧ opD orB (satD a b) (satD c d) = Q) (h1 : e ≠ 0 → P = noD ∧ Q = noD) : Bd9 P ∧ Bd9 Q := by
 refine pickBd (fun he => ?_) h0 h1
 obtain ⟨z, hz, _, ha, hb, hc, hd⟩ := bE_z (hE.trans he) la lb lc ld
 exact ⟨(InL.andI hz ha hc).bds, (InL.joinG hz ha hb hc hd).bds⟩
theorem comp_bd {a b c d P Q : DFA} {e : Nat} (hE : bE a b c d = e) (la : a.next.length ≤ 6) (lb : b.next.length ≤ 6) (lc : c.next.length ≤ 6) (ld : d.next.length ≤ 6) (h0 : e = 0 → opD orB (opD andB a c) (notD (opD andB (satD a b) (satD c d))) = P ∧ opD andB (satD a b) (satD c d) = Q) (h1 : e ≠ 0 → P = noD ∧ Q = noD) : Bd9 P ∧ Bd9 Q := by
 refine pickBd (fun he => ?_) h0 h1
 obtain ⟨z, hz, _, ha, hb, hc, hd⟩ := bE_z (hE.trans he) la lb lc ld
 exact ⟨(InL.compA hz ha hb hc hd).2.bds, (InL.meetG hz ha hb hc hd).bds⟩
theorem impl_len {x a g : DFA} {e : Nat} {r : Option (List Nat)} (hE : iE x a g = e) (lx : x.next.length ≤ 6) (la : a.next.length ≤ 6) (lg : g.next.length ≤ 6) (h0 : e = 0 → LeastA (opD minusB (opD andB x a) g) r) (h1 : e ≠ 0 → r = none) : (r.getD []).length ≤ 1296 ∧ ∀ y ∈ r.getD [], y < 256 := by
 by_cases he : e = 0
 ·obtain ⟨z, hz, hl, hx, ha, hg⟩ := iE_z (hE.trans he) lx la lg
  have hm := (InL.op (f := minusB) hz (InL.op (f := andB) hz hx ha).2 hg).2
  exact ⟨least_len hz hl hm (h0 he), least_wd hm.has.valid.toVal (h0 he)⟩
 ·rw [h1 he]; exact ⟨Nat.zero_le _, fun y hy => by cases hy⟩
theorem ref_len {a b c d : DFA} {e : Nat} {r : Option (List Nat)} (hE : bE a b c d = e) (la : a.next.length ≤ 6) (lb : b.next.length ≤ 6) (lc : c.next.length ≤ 6) (ld : d.next.length ≤ 6) (h0 : e = 0 → LeastA (opD orB (opD minusB c a) (opD minusB (satD a b) (satD c d))) r) (h1 : e ≠ 0 → r = none) : (r.getD []).length ≤ 1296 ∧ ∀ y ∈ r.getD [], y < 256 := by
 by_cases he : e = 0
 ·obtain ⟨z, hz, hl, ha, hb, hc, hd⟩ := bE_z (hE.trans he) la lb lc ld
  have hm := (InL.op (f := orB) hz (InL.op (f := minusB) hz hc ha).2 (InL.op (f := minusB) hz (InL.satI hz ha hb) (InL.satI hz hc hd)).2).2
  exact ⟨least_len hz hl hm (h0 he), least_wd hm.has.valid.toVal (h0 he)⟩
 ·rw [h1 he]; exact ⟨Nat.zero_le _, fun y hy => by cases hy⟩
end Go.Lx


namespace Go.Lx
open Go.RowKit
def nmV (ks : List Nat) (c : Nat) : Int := if c ∈ ks then ((ix c ks + 1 : Nat) : Int) else 0
def nmL (n : Nat) (ks : List Nat) : List Int := (List.range n).map (nmV ks)
theorem nmL_len (n : Nat) (ks : List Nat) : (nmL n ks).length = n := by simp [nmL]
theorem nmL_zero (n : Nat) : ints (nmL n []) = List.replicate n (.int .i64 0) := by
 refine List.ext_getElem (by simp [nmL]) fun i h1 h2 => by simp [nmL, nmV]
theorem nmL_at {n c : Nat} {ks : List Nat} (h : c < n) : (ints (nmL n ks))[c]? = some (.int .i64 (nmV ks c)) := by
 unfold nmL ints
 rw [List.map_map, List.getElem?_map, List.getElem?_range h]; rfl
theorem nmV_zero {ks : List Nat} {c : Nat} : nmV ks c = 0 ↔ c ∉ ks := by
 unfold nmV
 by_cases h : c ∈ ks
 ·rw [if_pos h]; exact ⟨fun q => by omega, fun q => absurd h q⟩
 ·rw [if_neg h]; simp [h]
theorem nmV_in {ks : List Nat} {c : Nat} (h : c ∈ ks) : nmV ks c = ((ix c ks + 1 : Nat) : Int) := by unfold nmV; rw [if_pos h]
theorem nmL_add {n c : Nat} {ks : List Nat} (hc : c < n) (h : c ∉ ks) : (nmL n ks).set c ((ks.length + 1 : Nat) : Int) = nmL n (ks ++ [c]) := by
 unfold nmL
 rw [map_range_set _ _ hc]
 refine map_range_congr fun t _ => ?_
 by_cases e : t = c
 ·subst e
  rw [if_pos rfl, nmV_in (by simp), ix_append_right h]; simp [ix]
 ·rw [if_neg e]
  unfold nmV
  by_cases ht : t ∈ ks
  ·rw [if_pos ht, if_pos (by simp [ht]), ix_append_left ht]
  ·rw [if_neg ht, if_neg (by simp [ht, e])]
theorem prs_c0 {n i c : Nat} {ks : List Nat} (h : ks[i]? = some c) : (prs n ks)[i * 2 + 0]? = some (.int .i64 ((c / n : Nat) : Int)) := by
 have := prs_get (n := n) h 0 (by simp [unC])
 simpa [unC, un] using this
theorem prs_c1 {n i c : Nat} {ks : List Nat} (h : ks[i]? = some c) : (prs n ks)[i * 2 + 1]? = some (.int .i64 ((c % n : Nat) : Int)) := by
 have := prs_get (n := n) h 1 (by simp [unC])
 simpa [unC, un] using this
theorem rnR_len (d : DFA) (o : Nat) : (rnR d o).length = letN d := by unfold rnR; rw [List.length_map, renRow_length]
theorem rnR_at {d : DFA} {o x : Nat} (hx : x < letN d) : (rnR d o)[x]? = some ((ix (toN d o x) (order d) : Nat) : Int) := by
 unfold rnR renRow
 rw [List.getElem?_map, List.getElem?_map, sucs_get hx]; rfl
theorem comb_eq {f : Bool → Bool → Bool} {a b : DFA} (ha : Val a) (hb : Val b) (hv : a.vars = b.vars) : minD (renum (prodD f a b)) = opD f a b := minD_renum (prod_val ha hb hv)
theorem tf {x : Bool} (h : x = false) (g : x = true) : False := Bool.false_ne_true (h.symm.trans g)
end Go.Lx

