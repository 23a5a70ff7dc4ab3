/- Contracts of functions of the program (R41b, Cu, Close, End, CloseC, EndC): what each call answers and that it leaves memory as it was. Conditions: those each theorem names. -/
import Derived.Test.YtnpehjpookcfkaaGreatDoorCoreK
import Derived.Test.YtnpehjpookcfkaaGreatDoorAll
import Derived.Test.YtnpehjpookcfkaaGreatDoorCbad
import Derived.Test.YtnpehjpookcfkaaGreatDoorCmb
import Derived.OpenShut
import Derived.Deep.DeepHandedRow
import Derived.Deep.Matrix
import Derived.Deep.Grids
import Derived.WideKeyArgs
import Derived.SizedLaws
import Derived.Test.YtnpehjpookcfkaaGreatDoorCards
import Derived.Test.YtnpehjpookcfkaaGreatDoorTie
import Derived.WalkKit
import Derived.ProofKit
import Derived.Lib.LaidTab
import Derived.Test.YtnpehjpookcfkaaGreatDoorC2
set_option linter.unusedSectionVars false
set_option linter.unusedSimpArgs false
set_option linter.unusedVariables false
set_option linter.unnecessarySimpa false
set_option maxHeartbeats 8000000
set_option maxRecDepth 20000
namespace Go.Proofs.YtnpehjpookcfkaaGreatDoor
open Go.Lx Go.RowKit _root_.Go.Proofs.Tryz
theorem rsatM (base : World) [Tab Tryz.prog base] (L : List Lx.Item) (sb : Nat) {z a g : DFA} {p q : List Nat → Bool} (hz : Valid z) (ha : InL z a p) (hg : InL z g q) (j k : DK) (ha9 : ∀ w1, Inv base L w1 → At w1 a j) (hg9 : ∀ w1, Inv base L w1 → At w1 g k) {M : DFA} (hM : satD a g = M) :
  CallT Tryz.prog base 40 [.pointer (aD sb), cV a g j k] ([oI sb 65 [(vI 0)]] ++ L) (fun v O' => ∃ k' : DK, v = dV M k' ∧ O' = [dI 48 4 3 M k', oI sb 65 [(vI 0)]] ++ L) := by
 refine CallT.enter func40 rfl ntmps40 rfl ?_
 have hN := (InL.not hz ha).2
 obtain ⟨mN, eN⟩ : ∃ m, notD a = m := ⟨_, rfl⟩
 rw [eN] at hN
 refine T.s (T.rg (TO.l rfl (l_box (v := (cV a g j k)) (cs := (cC a g j k)) rfl rfl (fun y1 => ?_))))
 refine TO.l rfl (l_alloc inf25 rfl (fun y2 => ?_))
 refine TO.nl (T.s ?_)
 refine T.draws [oI y1 27 (cC a g j k)] [(0, 0), (1, 0), (2, 0), (3, 0), (4, 0), (5, 0), (6, 1), (7, 2), (8, 2)] mixed (by kernel_rfl) (by exact Sub.d (.k .z)) (fun _ _ _ h => h) ?_
 refine DO.q rfl (q_move rfl) (DO.q rfl (q_fa uT27 rfl inf25 rfl rfl) (DO.q rfl (q_load_part 0 (vs := (dC g k)) uT25 rfl inf25 rfl rfl rfl rfl) (DO.q rfl (q_move rfl) (DO.q rfl (q_fa uT27 rfl inf25 rfl rfl) (DO.q rfl (q_load_part 0 (vs := (dC a j)) uT25 rfl inf25 rfl rfl rfl rfl) ?_)))))
 have hk11 := CallT.under (A := [oI sb 65 [(vI 0)]] ++ L) (B := [oI y2 25 [(vI 0), (vI 0), nS, nS], oI y1 27 (cC a g j k)]) (O := ([oI y2 25 [(vI 0), (vI 0), nS, nS], oI y1 27 (cC a g j k), oI sb 65 [(vI 0)]] ++ L)) (rnotM base L sb ha.has.valid j ha9 eN) (Sub.tr (Sub.swap3 [oI sb 65 [(vI 0)]] L [oI y2 25 [(vI 0), (vI 0), nS, nS], oI y1 27 (cC a g j k)]) (by exact Sub.pull [oI y2 25 [(vI 0), (vI 0), nS, nS], oI y1 27 (cC a g j k)] _ (.k (.k .rf))))
 refine DO.loud rfl rfl (l_call ent58 hk11 rfl ?_)
 clear hk11
 rintro vr O' ⟨A1, rfl, kN, rfl, rfl⟩
 refine ⟨Sub.appL _ (by exact Sub.d (.k .z)), ?_⟩
 refine DO.sub (O' := ([dI 48 4 3 mN kN, oI sb 65 [(vI 0)], oI y2 25 [(vI 0), (vI 0), nS, nS], oI y1 27 (cC a g j k)] ++ L)) (by exact Sub.swap3 [dI 48 4 3 mN kN, oI sb 65 [(vI 0)]] _ L) ?_
 have hk12 := CallT.under (A := [oI sb 65 [(vI 0)], dI 48 4 3 mN kN] ++ L) (B := [oI y2 25 [(vI 0), (vI 0), nS, nS], oI y1 27 (cC a g j k)]) (O := ([dI 48 4 3 mN kN, oI sb 65 [(vI 0)], oI y2 25 [(vI 0), (vI 0), nS, nS], oI y1 27 (cC a g j k)] ++ L)) (rorM base ([dI 48 4 3 mN kN] ++ L) sb hz hg hN k kN (fun w1 hI => haveI := tbz hI; hg9 w1 (hI.subp (Sub.appL _ Sub.rf))) (fun w1 hI => haveI := tbz hI; hI.at (k := kN) (mG 0 rfl)) (show opD orB g mN = M by rw [← hM, ← eN]; rfl)) (Sub.tr (Sub.swap3 [oI sb 65 [(vI 0)], dI 48 4 3 mN kN] L [oI y2 25 [(vI 0), (vI 0), nS, nS], oI y1 27 (cC a g j k)]) (by exact Sub.pull [dI 48 4 3 mN kN] _ (.k (.k (.k .rf)))))
 refine DO.last rfl rfl (l_call ent56 hk12 rfl ?_)
 clear hk12
 rintro vr O' ⟨A1, rfl, k', rfl, rfl⟩
 refine DO.sub (O' := ([dI 48 4 3 M k', oI sb 65 [(vI 0)], dI 48 4 3 mN kN, oI y2 25 [(vI 0), (vI 0), nS, nS], oI y1 27 (cC a g j k)] ++ L)) (by exact Sub.swap3 [dI 48 4 3 M k', oI sb 65 [(vI 0)], dI 48 4 3 mN kN] _ L) ?_
 refine DO.last rfl rfl (l_sb (v := (dV M k')) (vs := (dC M k')) 3 inf25 rfl rfl rfl rfl rfl rfl (by simp [putL]) ?_)
 refine DO.done ?_
 refine T.ret (Res.drop ?_)
 refine Res.cell1 (i := 3) Tryz.results40 uT25 rfl inf25 rfl rfl rfl ?_
 exact ⟨[dI 48 4 3 M k', oI sb 65 [(vI 0)]] ++ L, (Sub.pickR [0, 0] [dI 48 4 3 M k', oI sb 65 [(vI 0)], dI 48 4 3 mN kN, oI y2 25 (dC M k'), oI y1 27 (cC a g j k)] L rfl rfl), k', rfl, rfl⟩
theorem rsatS (w : World) [Tab Tryz.prog w] (sb : Nat) {z a g : DFA} {p q : List Nat → Bool} (hz : Valid z) (ha : InL z a p) (hg : InL z g q) (j k : DK) (hj : At w a j) (hk : At w g k) {M : DFA} (hM : satD a g = M) :
  CallT Tryz.prog w 40 [.pointer (aD sb), cV a g j k] [objI sb (.cells (List.toArray [(vI 0)]) 65 (0, 0))] (fun v O' => ∃ x : DK, v = dV M x ∧ O' = [dI 48 4 3 M x] ++ [objI sb (.cells (List.toArray [(vI 0)]) 65 (0, 0))]) :=
 rsatM w [] sb hz ha hg j k (fun w1 hI => haveI := tbz hI; hI.atB hj) (fun w1 hI => haveI := tbz hI; hI.atB hk) hM
theorem rshoM (base : World) [Tab Tryz.prog base] (L : List Lx.Item) (sb : Nat) (a : DFA) (hv : Valid a) (j : DK) (hj : ∀ w1, Inv base L w1 → At w1 a j) :
  CallT Tryz.prog base 46 [.pointer (aD sb), dV a j] ([oI sb 65 [(vI 0)]] ++ L) (fun v O' => ∃ res wb wc, LeastA a res ∧ v = .tuple #[.slice wb (res.getD []).length wc, .bool (!res.isSome), vI 0] ∧ O' = [rowI wb wc 5 1 (byts (res.getD [])), oI sb 65 [(vI 0)]] ++ L) := by
 refine CallT.enter func46 rfl ntmps46 rfl ?_
 refine T.s (T.rg (TO.l rfl (l_box (v := (dV a j)) (cs := (dC a j)) rfl rfl (fun y1 => ?_))))
 refine TO.qa rfl (TO.qa rfl (TO.qa rfl (TO.nl (T.s (T.s (T.rg (TO.qm rfl (TO.q (q_nilCheck rfl) (TO.q (q_fa uT65 rfl inf30 rfl rfl) (TO.q (q_lb 1 uT30 rfl rfl rfl rfl) (TO.q (QT.toB (q_neq rfl rfl) (decide_eq_false (fun h => h rfl))) (TO.nl (T.cond0 rfl (T.skip (T.s (T.rg (TO.q (q_la 0 uT25 rfl inf25 rfl rfl rfl) (TO.l rfl (l_call ent75 (CallT.op fun w1 hI => (haveI := tbz hI; rShoK w1 a j (hj w1 (hI.subp (Sub.appL [oI y1 25 (dC a j), oI sb 65 [(vI 0)]] Sub.rf))) hv)) rfl ?_)))))))))))))))))))
 rintro vr O' ⟨N, rfl, res, wb, wc, hL, rfl, rfl⟩
 refine TO.qm rfl (TO.q (q_extract (vs := _) rfl rfl) (TO.q (q_extract (vs := _) rfl rfl) (TO.q (q_extract (vs := _) rfl rfl) (TO.qa rfl (TO.qa rfl (TO.qa rfl (TO.nl (T.s (T.rg (TO.qm rfl (TO.qm rfl (TO.q (q_not rfl) (TO.qa rfl (TO.qa rfl (TO.qa rfl (TO.nl (T.ret (Res.drop ?_))))))))))))))))))
 refine Res.three (.slice wb ((res.getD []).length) wc) (.bool (!res.isSome)) (vI 0) Tryz.results46 rfl rfl rfl ?_
 exact ⟨[rowI wb wc 5 1 (byts (res.getD [])), oI sb 65 [(vI 0)]] ++ L, (Sub.pickR [0, 1] [rowI wb wc 5 1 (byts (res.getD [])), oI y1 25 (dC a j), oI sb 65 [(vI 0)]] L rfl rfl), res, wb, wc, hL, rfl, rfl⟩
theorem rdoneM (base : World) [Tab Tryz.prog base] (L : List Lx.Item) (sb : Nat) (a g : DFA) (j k : DK) :
  CallT Tryz.prog base 42 [.pointer (aD sb), dV a j, dV g k] ([oI sb 65 [(vI 0)]] ++ L) (fun v O' => v = .tuple #[cV a g j k, vI 0] ∧ O' = [oI sb 65 [(vI 0)]] ++ L) := by
 refine CallT.enter func42 rfl ntmps42 rfl ?_
 refine T.s (T.rg (TO.l rfl (l_box (v := (dV a j)) (cs := (dC a j)) rfl rfl (fun y1 => ?_))))
 refine TO.l rfl (l_box (v := (dV g k)) (cs := (dC g k)) rfl rfl (fun y2 => ?_))
 refine TO.l rfl (l_alloc inf27 rfl (fun y3 => ?_))
 refine TO.qa rfl (TO.nl (T.s (T.s (T.rg (TO.qm rfl (TO.q (q_nilCheck rfl) (TO.q (q_fa uT65 rfl inf30 rfl rfl) (TO.q (q_lb 3 uT30 rfl rfl rfl rfl) (TO.q (QT.toB (q_neq rfl rfl) (decide_eq_false (fun h => h rfl))) (TO.nl (T.cond0 rfl (T.skip (T.s (T.rg (TO.q (q_la 2 uT25 rfl inf25 rfl rfl rfl) (TO.q (q_la 1 uT25 rfl inf25 rfl rfl rfl) (TO.q (q_build (cs := (cC a g j k)) plan27 inf27 (by kernel_rfl)) (TO.l rfl (l_sb (v := (cV a g j k)) (vs := (cC a g j k)) 0 inf27 rfl rfl rfl rfl rfl rfl (by simp [putL]) ?_)))))))))))))))))))
 refine TO.qa rfl (TO.nl (T.ret (Res.drop ?_)))
 refine Res.cell1b (vI 0) (i := 0) Tryz.results42 uT27 rfl inf27 rfl rfl rfl rfl ?_
 exact ⟨[oI sb 65 [(vI 0)]] ++ L, (Sub.pickR [3] [oI y3 27 (cC a g j k), oI y2 25 (dC g k), oI y1 25 (dC a j), oI sb 65 [(vI 0)]] L rfl rfl), rfl, rfl⟩
theorem rImplC (w : World) [Tab Tryz.prog w] {z x a g : DFA} {px p q : List Nat → Bool} (hz : Valid z) (hx : InL z x px) (ha : InL z a p) (hg : InL z g q) (i j k : DK) (hi : At w x i) (hj : At w a j) (hk : At w g k) :
  PureT Tryz.prog 13 [dV x i, cV a g j k] w fun v N => ∃ res wb wc, LeastA (opD minusB (opD andB x a) g) res ∧ v = .tuple #[.slice wb (res.getD []).length wc, .bool (!res.isSome), vI 0] ∧ N = [rowI wb wc 5 1 (byts (res.getD []))] := by
 refine CallT.enter func13 rfl ntmps13 rfl ?_
 have hm1 := (InL.op (f := andB) hz hx ha).2
 obtain ⟨m1, em1⟩ : ∃ m, opD andB x a = m := ⟨_, rfl⟩
 rw [em1] at hm1
 have hm2 := (InL.op (f := minusB) hz hm1 hg).2
 obtain ⟨m2, em2⟩ : ∃ m, opD minusB m1 g = m := ⟨_, rfl⟩
 rw [em2] at hm2
 refine T.s (T.rg (TO.l rfl (l_box (v := (dV x i)) (cs := (dC x i)) rfl rfl (fun y1 => ?_))))
 refine TO.l rfl (l_box (v := (cV a g j k)) (cs := (cC a g j k)) rfl rfl (fun y2 => ?_))
 refine TO.qa rfl (TO.qa rfl (TO.qa rfl (TO.nl (T.s (T.s (T.rg (TO.q (q_la 1 uT25 rfl inf25 rfl rfl rfl) ?_)))))))
 refine TO.l rfl (l_call ent34 (CallT.op fun w1 hI => (haveI := tbz hI; (show PureT _ _ _ _ _ from by
   have h9 := refCheck w1 x i.nb i.fb i.nc i.fc (vals i.qs) (hI.dfa hi) hx.bds.1 hx.bds.2.1 hx.bds.2.2
   rw [checkD_zero.2 hx.has.valid] at h9
   exact h9))) rfl ?_)
 rintro vr O' ⟨N, rfl, rfl, rfl⟩
 refine TO.qa rfl (TO.nl (T.s (T.rg (TO.qm rfl (TO.q (QT.toB (q_neq rfl rfl) (decide_eq_false (fun h => h rfl))) (TO.nl (T.cond0 rfl (T.skip (T.s (T.s (T.rg (TO.q (q_la 0 uT27 rfl inf27 rfl rfl rfl) ?_))))))))))))
 refine TO.l rfl (l_call ent9 (CallT.op fun w1 hI => (haveI := tbz hI; (show PureT _ _ _ _ _ from by
   have h9 := rConCheck w1 a g j k (hI.atB hj) (hI.atB hk) ha.bds hg.bds
   rw [(cE_zero.2 ⟨ha.has.valid, hg.has.valid, by rw [ha.has.vars, hg.has.vars]⟩)] at h9
   exact h9))) rfl ?_)
 rintro vr O' ⟨N, rfl, rfl, rfl⟩
 refine TO.qa rfl (TO.nl (T.s (T.rg (TO.qm rfl (TO.q (QT.toB (q_neq rfl rfl) (decide_eq_false (fun h => h rfl))) (TO.nl (T.cond0 rfl (T.skip (T.s (T.s (T.rg (TO.q (q_fa uT25 rfl inf3 rfl rfl) (TO.q (q_lb 1 uT3 rfl rfl rfl rfl) (TO.q (q_fa uT27 rfl inf25 rfl rfl) (TO.q (q_fa uT25 rfl inf3 rfl rfl) (TO.q (q_lb 0 uT3 rfl rfl rfl rfl) (TO.q (QT.toB (q_neq rfl rfl) (decide_eq_false (fun h => h (by rw [hx.has.vars, ha.has.vars])))) ?_)))))))))))))))))
 refine TO.nl (T.cond0 rfl (T.skip (T.s (T.rg (TO.q (q_build plan65 inf65 rfl) (TO.l rfl (l_box (v := (.agg #[(vI 0)])) (cs := [(vI 0)]) rfl rfl (fun y3 => ?_))))))))
 refine TO.qa rfl (TO.nl (T.s ?_))
 refine T.draws [oI y2 27 (cC a g j k), oI y1 25 (dC x i)] [(0, 0), (1, 0), (2, 0), (3, 0), (4, 0), (5, 0), (7, 0), (8, 0), (6, 1), (9, 1), (10, 1), (11, 0), (12, 0), (13, 0), (14, 0), (15, 0), (16, 0)] mixed (drawF_ok (by kernel_rfl)) (by exact Sub.d (.k (.k .z))) (fun _ _ _ h => h) ?_
 refine DO.q rfl (q_move rfl) (DO.q rfl (q_move rfl) (DO.q rfl (q_move rfl) (DO.q rfl (q_la 1 uT25 rfl inf25 rfl rfl rfl) (DO.q rfl (q_fa uT27 rfl inf25 rfl rfl) (DO.q rfl (q_load_part 0 (vs := (dC a j)) uT25 rfl inf25 rfl rfl rfl rfl) (DO.q rfl (q_fa uT27 rfl inf25 rfl rfl) (DO.q rfl (q_load_part 0 (vs := (dC g k)) uT25 rfl inf25 rfl rfl rfl rfl) ?_)))))))
 refine DO.loud rfl rfl (l_call ent48 (CallT.un [0] (randM w [] y3 hz hx ha i j (fun w1 hI => haveI := tbz hI; (hI.atB hi)) (fun w1 hI => haveI := tbz hI; (hI.atB hj)) em1)) rfl ?_)
 rintro vr O' ⟨A1, rfl, k1, rfl, rfl⟩
 refine ⟨by exact Sub.d (.d (.k (.k .z))), ?_⟩
 
 refine DO.loud rfl rfl (l_call ent47 (CallT.un [1, 0] (rminusM w [dI 48 4 3 m1 k1] y3 hz hm1 hg k1 k (fun w1 hI => haveI := tbz hI; (hI.at (k := k1) (mG 0 rfl))) (fun w1 hI => haveI := tbz hI; (hI.atB hk)) em2)) rfl ?_)
 rintro vr O' ⟨A1, rfl, k2, rfl, rfl⟩
 refine ⟨by exact Sub.d (.d (.d (.k (.k .z)))), ?_⟩
 
 refine DO.loud rfl rfl (l_call ent46 (CallT.un [1, 0] (rshoM w [dI 48 4 3 m2 k2] y3 m2 hm2.has.valid k2 (fun w1 hI => haveI := tbz hI; (hI.at (k := k2) (mG 0 rfl))))) rfl ?_)
 rintro vr O' ⟨A1, rfl, res, wb, wc, hL, rfl, rfl⟩
 refine ⟨by exact Sub.d (.d (.d (.d (.k (.k .z))))), ?_⟩
 refine DO.q rfl (q_extract (vs := _) rfl rfl) (DO.q rfl (q_extract (vs := _) rfl rfl) (DO.q rfl (q_extract (vs := _) rfl rfl) (DO.q rfl (q_assign rfl) (DO.q rfl (q_assign rfl) (DO.q rfl (q_assign rfl) ?_)))))
 refine DO.done ?_
 refine T.ret (Res.drop ?_)
 refine Res.three (.slice wb ((res.getD []).length) wc) (.bool (!res.isSome)) (vI 0) Tryz.results13 rfl rfl rfl ?_
 subst em2
 subst em1
 exact ⟨[rowI wb wc 5 1 (byts (res.getD []))], (by exact Sub.k .z), res, wb, wc, hL, rfl, rfl⟩
theorem rSatC (w : World) [Tab Tryz.prog w] {z a b : DFA} {p q : List Nat → Bool} (hz : Valid z) (ha : InL z a p) (hb : InL z b q) (j1 j2 : DK) (hj1 : At w a j1) (hj2 : At w b j2) :
  PureT Tryz.prog 11 [cV a b j1 j2] w fun v N => ∃ k1 k2 : DK, v = .tuple #[cV (minD a) (satD a b) k1 k2, vI 0] ∧ N = [dI 48 4 3 (minD a) k1, dI 48 4 3 (satD a b) k2] := by
 refine CallT.enter func11 rfl ntmps11 rfl ?_
 have hS1 := (InL.sat hz ha hb).2
 obtain ⟨S1, eS1⟩ : ∃ m, satD a b = m := ⟨_, rfl⟩
 rw [eS1] at hS1
 obtain ⟨mA, emA⟩ : ∃ m, minD a = m := ⟨_, rfl⟩
 refine T.s (T.rg (TO.l rfl (l_box (v := (cV a b j1 j2)) (cs := (cC a b j1 j2)) rfl rfl (fun y1 => ?_))))
 refine TO.l rfl (l_alloc inf27 rfl (fun y2 => ?_))
 refine TO.qa rfl (TO.nl (T.s (T.s (T.rg (TO.q (q_la 1 uT27 rfl inf27 rfl rfl rfl) ?_)))))
 refine TO.l rfl (l_call ent9 (CallT.op fun w1 hI => (haveI := tbz hI; (show PureT _ _ _ _ _ from by
   have h9 := rConCheck w1 a b j1 j2 (hI.atB hj1) (hI.atB hj2) ha.bds hb.bds
   rw [(cE_zero.2 ⟨ha.has.valid, hb.has.valid, by rw [ha.has.vars, hb.has.vars]⟩)] at h9
   exact h9))) rfl ?_)
 rintro vr O' ⟨N, rfl, rfl, rfl⟩
 refine TO.qa rfl (TO.nl (T.s (T.rg (TO.qm rfl (TO.q (QT.toB (q_neq rfl rfl) (decide_eq_false (fun h => h rfl))) (TO.nl (T.cond0 rfl (T.skip (T.s (T.rg (TO.q (q_build plan65 inf65 rfl) (TO.l rfl (l_box (v := (.agg #[(vI 0)])) (cs := [(vI 0)]) rfl rfl (fun y3 => ?_))))))))))))))
 refine TO.qa rfl (TO.nl (T.s (T.rg (TO.qm rfl (TO.q (q_la 2 uT27 rfl inf27 rfl rfl rfl) (TO.l rfl (l_call ent40 (CallT.un [0] (rsatM w [] y3 hz ha hb j1 j2 (fun w1 hI => haveI := tbz hI; (hI.atB hj1)) (fun w1 hI => haveI := tbz hI; (hI.atB hj2)) eS1)) rfl ?_)))))))
 rintro vr O' ⟨A1, rfl, s1, rfl, rfl⟩
 refine TO.l rfl (l_alloc inf25 rfl (fun y4 => ?_))
 refine TO.l rfl (l_sb (v := (dV S1 s1)) (vs := (dC S1 s1)) 0 inf25 rfl rfl rfl rfl rfl rfl (by simp [putL]) ?_)
 refine TO.nl (T.s (T.rg (TO.q (q_fa uT27 rfl inf25 rfl rfl) (TO.q (q_load_part 4 (vs := (dC a j1)) uT25 rfl inf25 rfl rfl rfl rfl) (TO.l rfl (l_call ent41 (CallT.op fun w1 hI => (haveI := tbz hI; rMinKE w1 a j1 (hI.atB hj1) ha.has.valid (Nat.lt_of_le_of_lt ha.has.valid.n4 (by decide)) emA)) rfl ?_))))))
 rintro vr O' ⟨N, rfl, kA, rfl, rfl⟩
 refine TO.qm rfl (TO.q (q_extract (vs := _) rfl rfl) (TO.q (q_extract (vs := _) rfl rfl) (TO.l rfl (l_alloc inf25 rfl (fun y5 => ?_)))))
 refine TO.l rfl (l_sb (v := (dV mA kA)) (vs := (dC mA kA)) 0 inf25 rfl rfl rfl rfl rfl rfl (by simp [putL]) ?_)
 refine TO.qa rfl (TO.nl ?_)
 refine T.reset [oI y5 25 (dC mA kA), dI 48 4 3 mA kA, oI y4 25 (dC S1 s1), dI 48 4 3 S1 s1, oI y3 65 [(vI 0)], oI y2 27 [(vI 0), (vI 0), nS, nS, (vI 0), (vI 0), nS, nS], oI y1 27 (cC a b j1 j2)] [(0, (cV a b j1 j2)), (1, (.pointer (aD y1))), (2, (.pointer (aD y2))), (3, vI 0), (4, vI 0), (5, (.pointer (aD y3))), (6, (.pointer (aD y4))), (7, (.pointer (aD y5))), (16, (.pointer (aD y3)))] rfl (.of rfl) (fun ρ0 => ?_)
 refine T.s (T.rg (TO.qm rfl (TO.q (q_la 0 uT25 rfl inf25 rfl rfl rfl) (TO.q (q_la 2 uT25 rfl inf25 rfl rfl rfl) (TO.l rfl (l_call ent42 (CallT.un [4] (rdoneM w [] y3 mA S1 kA s1)) rfl ?_))))))
 rintro vr O' ⟨A1, rfl, rfl, rfl⟩
 refine TO.q (q_extract (vs := _) rfl rfl) (TO.q (q_extract (vs := _) rfl rfl) (TO.l rfl (l_sb (v := (cV mA S1 kA s1)) (vs := (cC mA S1 kA s1)) 5 inf27 rfl rfl rfl rfl rfl rfl (by simp [putL]) ?_)))
 refine TO.qa rfl (TO.nl (T.ret (Res.drop ?_)))
 refine Res.cell1b (vI 0) (i := 5) Tryz.results11 uT27 rfl inf27 rfl rfl rfl rfl ?_
 exact ⟨[dI 48 4 3 mA kA, dI 48 4 3 S1 s1], (Sub.pick [2, 3] rfl), kA, s1, by subst eS1; subst emA; rfl, by subst eS1; subst emA; rfl⟩
theorem rRefC (w : World) [Tab Tryz.prog w] {z a b c d : DFA} {p q p2 q2 : List Nat → Bool} (hz : Valid z) (ha : InL z a p) (hb : InL z b q) (hc : InL z c p2) (hd : InL z d q2) (j1 j2 j3 j4 : DK) (hj1 : At w a j1) (hj2 : At w b j2) (hj3 : At w c j3) (hj4 : At w d j4) :
  PureT Tryz.prog 21 [cV a b j1 j2, cV c d j3 j4] w fun v N => ∃ res wb wc, LeastA (opD orB (opD minusB c a) (opD minusB (satD a b) (satD c d))) res ∧ v = .tuple #[.slice wb (res.getD []).length wc, .bool (!res.isSome), vI 0] ∧ N = [rowI wb wc 5 1 (byts (res.getD []))] := by
 refine CallT.enter func21 rfl ntmps21 rfl ?_
 have hS1 := (InL.sat hz ha hb).2
 obtain ⟨S1, eS1⟩ : ∃ m, satD a b = m := ⟨_, rfl⟩
 rw [eS1] at hS1
 have hS2 := (InL.sat hz hc hd).2
 obtain ⟨S2, eS2⟩ : ∃ m, satD c d = m := ⟨_, rfl⟩
 rw [eS2] at hS2
 have hm1 := (InL.op (f := minusB) hz hc ha).2
 obtain ⟨m1, em1⟩ : ∃ m, opD minusB c a = m := ⟨_, rfl⟩
 rw [em1] at hm1
 have hm2 := (InL.op (f := minusB) hz hS1 hS2).2
 obtain ⟨m2, em2⟩ : ∃ m, opD minusB S1 S2 = m := ⟨_, rfl⟩
 rw [em2] at hm2
 have hm3 := (InL.op (f := orB) hz hm1 hm2).2
 obtain ⟨m3, em3⟩ : ∃ m, opD orB m1 m2 = m := ⟨_, rfl⟩
 rw [em3] at hm3
 refine T.s (T.rg (TO.l rfl (l_box (v := (cV a b j1 j2)) (cs := (cC a b j1 j2)) rfl rfl (fun y1 => ?_))))
 refine TO.l rfl (l_box (v := (cV c d j3 j4)) (cs := (cC c d j3 j4)) rfl rfl (fun y2 => ?_))
 refine TO.qa rfl (TO.qa rfl (TO.qa rfl (TO.nl (T.s (T.s (T.rg (TO.q (q_la 1 uT27 rfl inf27 rfl rfl rfl) (TO.q (q_la 0 uT27 rfl inf27 rfl rfl rfl) ?_))))))))
 refine TO.l rfl (l_call ent55 (CallT.op fun w1 hI => (haveI := tbz hI; (show PureT _ _ _ _ _ from by
   have h9 := rBoth w1 a b c d j1 j2 j3 j4 (hI.atB hj1) (hI.atB hj2) (hI.atB hj3) (hI.atB hj4) ha.bds hb.bds hc.bds hd.bds
   rw [(bE_zero.2 ⟨⟨ha.has.valid, hb.has.valid, by rw [ha.has.vars, hb.has.vars]⟩, ⟨hc.has.valid, hd.has.valid, by rw [hc.has.vars, hd.has.vars]⟩, by rw [ha.has.vars, hc.has.vars]⟩)] at h9
   exact h9))) rfl ?_)
 rintro vr O' ⟨N, rfl, rfl, rfl⟩
 refine TO.qa rfl (TO.nl (T.s (T.rg (TO.qm rfl (TO.q (QT.toB (q_neq rfl rfl) (decide_eq_false (fun h => h rfl))) (TO.nl (T.cond0 rfl (T.skip (T.s (T.rg (TO.q (q_build plan65 inf65 rfl) (TO.l rfl (l_box (v := (.agg #[(vI 0)])) (cs := [(vI 0)]) rfl rfl (fun y3 => ?_))))))))))))))
 refine TO.qa rfl (TO.nl ?_)
 refine T.cut (fun ρ O => ∃ (p8 p9 : Nat) (s1 s2 : DK), O = [oI p8 25 (dC S1 s1), oI p9 25 (dC S2 s2), dI 48 4 3 S1 s1, dI 48 4 3 S2 s2, oI y3 65 [(vI 0)], oI y2 27 (cC c d j3 j4), oI y1 27 (cC a b j1 j2)] ∧ Heads [(0, (cV a b j1 j2)), (1, (cV c d j3 j4)), (2, (.pointer (aD y1))), (3, (.pointer (aD y2))), (4, nS), (5, .bool false), (6, vI 0), (7, vI 0), (8, (.pointer (aD y3))), (9, (.pointer (aD p8))), (10, (.pointer (aD p9))), (20, (.pointer (aD y3)))] ρ) ?_ ?_
 ·refine T.treeT [oI y3 65 [(vI 0)], oI y2 27 (cC c d j3 j4), oI y1 27 (cC a b j1 j2)] [8, 9] 10 mixed rfl (by exact Sub.rf) (fun _ _ _ h => h) ?_
  refine RO.quietTT 0 rfl (by kernel_rfl) (q_move rfl) ?_
  refine RO.quietTT 1 rfl (by kernel_rfl) (q_la 2 uT27 rfl inf27 rfl rfl rfl) ?_
  refine RO.quietTT 3 rfl (by kernel_rfl) (q_move rfl) ?_
  refine RO.quietTT 4 rfl (by kernel_rfl) (q_la 1 uT27 rfl inf27 rfl rfl rfl) ?_
  refine RO.makers (Wt := WtM) (fuel := 2) [⟨2, 23, fun x => (dV S1 x.k), fun x => [dI 48 4 3 S1 x.k]⟩, ⟨5, 26, fun x => (dV S2 x.k), fun x => [dI 48 4 3 S2 x.k]⟩, ⟨6, 9, fun x => (.pointer (some ⟨x.n, 0, none⟩)), fun x => [oI x.n 25 [(vI 0), (vI 0), nS, nS]]⟩, ⟨7, 10, fun x => (.pointer (some ⟨x.n, 0, none⟩)), fun x => [oI x.n 25 [(vI 0), (vI 0), nS, nS]]⟩] [(0, (cV a b j1 j2)), (1, (cV c d j3 j4)), (2, (.pointer (aD y1))), (3, (.pointer (aD y2))), (4, nS), (5, .bool false), (6, vI 0), (7, vI 0), (8, (.pointer (aD y3))), (20, (.pointer (aD y3))), (21, (.pointer (aD y3))), (22, (cV a b j1 j2)), (24, (.pointer (aD y3))), (25, (cV c d j3 j4))] (fun _ => WtM.z) (by kernel_rfl) (by exact Sub.rf) ?_ ?_ (.of rfl)
  ·intro q hq
   simp only [List.mem_cons, List.not_mem_nil, or_false] at hq
   rcases hq with rfl | rfl | rfl | rfl
   ·refine ⟨_, rfl, rfl, fun ρ O hS hH => ?_⟩
    obtain ⟨ρ0, rfl⟩ := hH.elim
    clear hH
    have hk23 := CallT.makerOf (rsatS w y3 hz ha hb j1 j2 hj1 hj2 eS1) (Sub.trans (Sub.pick [0] rfl) hS)
    refine l_call ent40 hk23 rfl ?_
    clear hk23
    rintro vr O' ⟨s1, rfl, rfl⟩
    exact ⟨{ WtM.z with k := s1 }, rfl, rfl⟩
   ·refine ⟨_, rfl, rfl, fun ρ O hS hH => ?_⟩
    obtain ⟨ρ0, rfl⟩ := hH.elim
    clear hH
    have hk26 := CallT.makerOf (rsatS w y3 hz hc hd j3 j4 hj3 hj4 eS2) (Sub.trans (Sub.pick [0] rfl) hS)
    refine l_call ent40 hk26 rfl ?_
    clear hk26
    rintro vr O' ⟨s2, rfl, rfl⟩
    exact ⟨{ WtM.z with k := s2 }, rfl, rfl⟩
   ·refine ⟨_, rfl, rfl, fun ρ O hS hH => ?_⟩
    obtain ⟨ρ0, rfl⟩ := hH.elim
    clear hH
    exact l_alloc inf25 rfl (fun p8 => ⟨{ WtM.z with n := p8 }, rfl, rfl⟩)
   ·refine ⟨_, rfl, rfl, fun ρ O hS hH => ?_⟩
    obtain ⟨ρ0, rfl⟩ := hH.elim
    clear hH
    exact l_alloc inf25 rfl (fun p9 => ⟨{ WtM.z with n := p9 }, rfl, rfl⟩)
  intro wm ρ hH
  obtain ⟨s1, e9s1⟩ : ∃ x, x = (wm 2).k := ⟨_, rfl⟩
  obtain ⟨s2, e9s2⟩ : ∃ x, x = (wm 5).k := ⟨_, rfl⟩
  obtain ⟨p8, e9p8⟩ : ∃ x, x = (wm 6).n := ⟨_, rfl⟩
  obtain ⟨p9, e9p9⟩ : ∃ x, x = (wm 7).n := ⟨_, rfl⟩
  have hH2 : Heads [(23, (dV S1 s1)), (26, (dV S2 s2)), (9, (.pointer (aD p8))), (10, (.pointer (aD p9))), (0, (cV a b j1 j2)), (1, (cV c d j3 j4)), (2, (.pointer (aD y1))), (3, (.pointer (aD y2))), (4, nS), (5, .bool false), (6, vI 0), (7, vI 0), (8, (.pointer (aD y3))), (20, (.pointer (aD y3))), (21, (.pointer (aD y3))), (22, (cV a b j1 j2)), (24, (.pointer (aD y3))), (25, (cV c d j3 j4))] ρ := by subst e9s1 e9s2 e9p8 e9p9; exact hH
  refine RO.sub (O' := [dI 48 4 3 S1 s1, dI 48 4 3 S2 s2, oI p8 25 [(vI 0), (vI 0), nS, nS], oI p9 25 [(vI 0), (vI 0), nS, nS], oI y3 65 [(vI 0)], oI y2 27 (cC c d j3 j4), oI y1 27 (cC a b j1 j2)]) (by subst e9s1 e9s2 e9p8 e9p9; exact Sub.rf) ?_
  clear hH e9s1 e9s2 e9p8 e9p9
  obtain ⟨ρ0, rfl⟩ := hH2.elim
  clear hH2
  refine RO.forkT [8] (by kernel_rfl) rfl ⟨⟨_, rfl, rfl, l_sb (v := (dV S1 s1)) (vs := (dC S1 s1)) 2 inf25 rfl rfl rfl rfl rfl rfl (by simp [putL]) ⟨.inl (by decide), ?_⟩⟩, trivial⟩ (by kernel_rfl)
  refine RO.sub (O' := [dI 48 4 3 S1 s1, dI 48 4 3 S2 s2, oI p8 25 (dC S1 s1), oI p9 25 [(vI 0), (vI 0), nS, nS], oI y3 65 [(vI 0)], oI y2 27 (cC c d j3 j4), oI y1 27 (cC a b j1 j2)]) (by exact Sub.rf) ?_
  refine RO.forkT [9] (by kernel_rfl) rfl ⟨⟨_, rfl, rfl, l_sb (v := (dV S2 s2)) (vs := (dC S2 s2)) 3 inf25 rfl rfl rfl rfl rfl rfl (by simp [putL]) ⟨.inl (by decide), ?_⟩⟩, trivial⟩ (by kernel_rfl)
  refine RO.sub (O' := [dI 48 4 3 S1 s1, dI 48 4 3 S2 s2, oI p8 25 (dC S1 s1), oI p9 25 (dC S2 s2), oI y3 65 [(vI 0)], oI y2 27 (cC c d j3 j4), oI y1 27 (cC a b j1 j2)]) (by exact Sub.rf) ?_
  exact RO.fin (by kernel_rfl) ⟨p8, p9, s1, s2, rfl, (.of rfl)⟩ (Sub.pick [2, 2, 0, 0, 0, 0, 0] rfl)
 rintro ρ O ⟨p8, p9, s1, s2, rfl, hH⟩
 obtain ⟨ρ0, rfl⟩ := hH.elim
 clear hH
 refine T.s (T.rg (TO.qm rfl (TO.q (q_fa uT27 rfl inf25 rfl rfl) (TO.q (q_load_part 5 (vs := (dC c j3)) uT25 rfl inf25 rfl rfl rfl rfl) (TO.q (q_fa uT27 rfl inf25 rfl rfl) (TO.q (q_load_part 6 (vs := (dC a j1)) uT25 rfl inf25 rfl rfl rfl rfl) (TO.l rfl (l_call ent47 (CallT.un [4] (rminusM w [] y3 hz hc ha j3 j1 (fun w1 hI => haveI := tbz hI; (hI.atB hj3)) (fun w1 hI => haveI := tbz hI; (hI.atB hj1)) em1)) rfl ?_))))))))
 rintro vr O' ⟨A1, rfl, k1, rfl, rfl⟩
 
 refine TO.l rfl (l_alloc inf25 rfl (fun y4 => ?_))
 refine TO.l rfl (l_sb (v := (dV m1 k1)) (vs := (dC m1 k1)) 0 inf25 rfl rfl rfl rfl rfl rfl (by simp [putL]) ?_)
 refine TO.nl ?_
 refine T.reset [oI y4 25 (dC m1 k1), dI 48 4 3 m1 k1, oI y3 65 [(vI 0)], oI p8 25 (dC S1 s1), oI p9 25 (dC S2 s2), dI 48 4 3 S1 s1, dI 48 4 3 S2 s2, oI y2 27 (cC c d j3 j4), oI y1 27 (cC a b j1 j2)] [(0, (cV a b j1 j2)), (1, (cV c d j3 j4)), (2, (.pointer (aD y1))), (3, (.pointer (aD y2))), (4, nS), (5, .bool false), (6, vI 0), (7, vI 0), (8, (.pointer (aD y3))), (9, (.pointer (aD p8))), (10, (.pointer (aD p9))), (11, (.pointer (aD y4))), (20, (.pointer (aD y3)))] rfl (.of rfl) (fun ρ0 => ?_)
 refine T.s (T.rg (TO.qm rfl (TO.q (q_la 3 uT25 rfl inf25 rfl rfl rfl) (TO.q (q_la 4 uT25 rfl inf25 rfl rfl rfl) (TO.l rfl (l_call ent47 (CallT.un [2, 4, 4] (rminusM w [dI 48 4 3 S1 s1, dI 48 4 3 S2 s2] y3 hz hS1 hS2 s1 s2 (fun w1 hI => haveI := tbz hI; (hI.at (k := s1) (mG 0 rfl))) (fun w1 hI => haveI := tbz hI; (hI.at (k := s2) (mG 1 rfl))) em2)) rfl ?_))))))
 rintro vr O' ⟨A1, rfl, k2, rfl, rfl⟩
 
 refine TO.l rfl (l_alloc inf25 rfl (fun y5 => ?_))
 refine TO.l rfl (l_sb (v := (dV m2 k2)) (vs := (dC m2 k2)) 0 inf25 rfl rfl rfl rfl rfl rfl (by simp [putL]) ?_)
 refine TO.nl (T.s (T.rg (TO.qm rfl (TO.qm rfl (TO.q (q_la 5 uT25 rfl inf25 rfl rfl rfl) (TO.q (q_la 0 uT25 rfl inf25 rfl rfl rfl) (TO.l rfl (l_call ent56 (CallT.un [2, 5, 1] (rorM w [dI 48 4 3 m1 k1, dI 48 4 3 m2 k2] y3 hz hm1 hm2 k1 k2 (fun w1 hI => haveI := tbz hI; (hI.at (k := k1) (mG 0 rfl))) (fun w1 hI => haveI := tbz hI; (hI.at (k := k2) (mG 1 rfl))) em3)) rfl ?_))))))))
 rintro vr O' ⟨A1, rfl, k3, rfl, rfl⟩
 
 refine TO.l rfl (l_call ent46 (CallT.un [1, 0] (rshoM w [dI 48 4 3 m3 k3] y3 m3 hm3.has.valid k3 (fun w1 hI => haveI := tbz hI; (hI.at (k := k3) (mG 0 rfl))))) rfl ?_)
 rintro vr O' ⟨A1, rfl, res, wb, wc, hL, rfl, rfl⟩
 refine TO.q (q_extract (vs := _) rfl rfl) (TO.q (q_extract (vs := _) rfl rfl) (TO.q (q_extract (vs := _) rfl rfl) (TO.qa rfl (TO.qa rfl (TO.qa rfl (TO.nl (T.ret (Res.drop ?_))))))))
 refine Res.three (.slice wb ((res.getD []).length) wc) (.bool (!res.isSome)) (vI 0) Tryz.results21 rfl rfl rfl ?_
 subst em3
 subst em2
 subst em1
 subst eS2
 subst eS1
 exact ⟨[rowI wb wc 5 1 (byts (res.getD []))], (by exact Sub.k .z), res, wb, wc, hL, rfl, rfl⟩
theorem rMeetC (w : World) [Tab Tryz.prog w] {z a b c d : DFA} {p q p2 q2 : List Nat → Bool} (hz : Valid z) (ha : InL z a p) (hb : InL z b q) (hc : InL z c p2) (hd : InL z d q2) (j1 j2 j3 j4 : DK) (hj1 : At w a j1) (hj2 : At w b j2) (hj3 : At w c j3) (hj4 : At w d j4) :
  PureT Tryz.prog 23 [cV a b j1 j2, cV c d j3 j4] w fun v N => ∃ k1 k2 : DK, v = .tuple #[cV (opD orB a c) (opD andB (satD a b) (satD c d)) k1 k2, vI 0] ∧ N = [dI 48 4 3 (opD orB a c) k1, dI 48 4 3 (opD andB (satD a b) (satD c d)) k2] := by
 refine CallT.enter func23 rfl ntmps23 rfl ?_
 have hS1 := (InL.sat hz ha hb).2
 obtain ⟨S1, eS1⟩ : ∃ m, satD a b = m := ⟨_, rfl⟩
 rw [eS1] at hS1
 have hS2 := (InL.sat hz hc hd).2
 obtain ⟨S2, eS2⟩ : ∃ m, satD c d = m := ⟨_, rfl⟩
 rw [eS2] at hS2
 have hm1 := (InL.op (f := andB) hz hS1 hS2).2
 obtain ⟨m1, em1⟩ : ∃ m, opD andB S1 S2 = m := ⟨_, rfl⟩
 rw [em1] at hm1
 have hm2 := (InL.op (f := orB) hz ha hc).2
 obtain ⟨m2, em2⟩ : ∃ m, opD orB a c = m := ⟨_, rfl⟩
 rw [em2] at hm2
 refine T.s (T.rg (TO.l rfl (l_box (v := (cV a b j1 j2)) (cs := (cC a b j1 j2)) rfl rfl (fun y1 => ?_))))
 refine TO.l rfl (l_box (v := (cV c d j3 j4)) (cs := (cC c d j3 j4)) rfl rfl (fun y2 => ?_))
 refine TO.l rfl (l_alloc inf27 rfl (fun y3 => ?_))
 refine TO.qa rfl (TO.nl (T.s (T.s (T.rg (TO.q (q_la 2 uT27 rfl inf27 rfl rfl rfl) (TO.q (q_la 1 uT27 rfl inf27 rfl rfl rfl) ?_))))))
 refine TO.l rfl (l_call ent55 (CallT.op fun w1 hI => (haveI := tbz hI; (show PureT _ _ _ _ _ from by
   have h9 := rBoth w1 a b c d j1 j2 j3 j4 (hI.atB hj1) (hI.atB hj2) (hI.atB hj3) (hI.atB hj4) ha.bds hb.bds hc.bds hd.bds
   rw [(bE_zero.2 ⟨⟨ha.has.valid, hb.has.valid, by rw [ha.has.vars, hb.has.vars]⟩, ⟨hc.has.valid, hd.has.valid, by rw [hc.has.vars, hd.has.vars]⟩, by rw [ha.has.vars, hc.has.vars]⟩)] at h9
   exact h9))) rfl ?_)
 rintro vr O' ⟨N, rfl, rfl, rfl⟩
 refine TO.qa rfl (TO.nl (T.s (T.rg (TO.qm rfl (TO.q (QT.toB (q_neq rfl rfl) (decide_eq_false (fun h => h rfl))) (TO.nl (T.cond0 rfl (T.skip (T.s (T.rg (TO.q (q_build plan65 inf65 rfl) (TO.l rfl (l_box (v := (.agg #[(vI 0)])) (cs := [(vI 0)]) rfl rfl (fun y4 => ?_))))))))))))))
 refine TO.qa rfl (TO.nl ?_)
 refine T.cut (fun ρ O => ∃ (p8 p9 : Nat) (s1 s2 : DK), O = [oI p8 25 (dC S1 s1), oI p9 25 (dC S2 s2), dI 48 4 3 S1 s1, dI 48 4 3 S2 s2, oI y4 65 [(vI 0)], oI y3 27 [(vI 0), (vI 0), nS, nS, (vI 0), (vI 0), nS, nS], oI y2 27 (cC c d j3 j4), oI y1 27 (cC a b j1 j2)] ∧ Heads [(0, (cV a b j1 j2)), (1, (cV c d j3 j4)), (2, (.pointer (aD y1))), (3, (.pointer (aD y2))), (4, (.pointer (aD y3))), (5, vI 0), (6, vI 0), (7, (.pointer (aD y4))), (8, (.pointer (aD p8))), (9, (.pointer (aD p9))), (19, (.pointer (aD y4)))] ρ) ?_ ?_
 ·refine T.treeT [oI y4 65 [(vI 0)], oI y3 27 [(vI 0), (vI 0), nS, nS, (vI 0), (vI 0), nS, nS], oI y2 27 (cC c d j3 j4), oI y1 27 (cC a b j1 j2)] [8, 9] 10 mixed rfl (by exact Sub.rf) (fun _ _ _ h => h) ?_
  refine RO.quietTT 0 rfl (by kernel_rfl) (q_move rfl) ?_
  refine RO.quietTT 1 rfl (by kernel_rfl) (q_la 3 uT27 rfl inf27 rfl rfl rfl) ?_
  refine RO.quietTT 3 rfl (by kernel_rfl) (q_move rfl) ?_
  refine RO.quietTT 4 rfl (by kernel_rfl) (q_la 2 uT27 rfl inf27 rfl rfl rfl) ?_
  refine RO.makers (Wt := WtM) (fuel := 2) [⟨2, 22, fun x => (dV S1 x.k), fun x => [dI 48 4 3 S1 x.k]⟩, ⟨5, 25, fun x => (dV S2 x.k), fun x => [dI 48 4 3 S2 x.k]⟩, ⟨6, 8, fun x => (.pointer (some ⟨x.n, 0, none⟩)), fun x => [oI x.n 25 [(vI 0), (vI 0), nS, nS]]⟩, ⟨7, 9, fun x => (.pointer (some ⟨x.n, 0, none⟩)), fun x => [oI x.n 25 [(vI 0), (vI 0), nS, nS]]⟩] [(0, (cV a b j1 j2)), (1, (cV c d j3 j4)), (2, (.pointer (aD y1))), (3, (.pointer (aD y2))), (4, (.pointer (aD y3))), (5, vI 0), (6, vI 0), (7, (.pointer (aD y4))), (19, (.pointer (aD y4))), (20, (.pointer (aD y4))), (21, (cV a b j1 j2)), (23, (.pointer (aD y4))), (24, (cV c d j3 j4))] (fun _ => WtM.z) (by kernel_rfl) (by exact Sub.rf) ?_ ?_ (.of rfl)
  ·intro q hq
   simp only [List.mem_cons, List.not_mem_nil, or_false] at hq
   rcases hq with rfl | rfl | rfl | rfl
   ·refine ⟨_, rfl, rfl, fun ρ O hS hH => ?_⟩
    obtain ⟨ρ0, rfl⟩ := hH.elim
    clear hH
    have hk22 := CallT.makerOf (rsatS w y4 hz ha hb j1 j2 hj1 hj2 eS1) (Sub.trans (Sub.pick [0] rfl) hS)
    refine l_call ent40 hk22 rfl ?_
    clear hk22
    rintro vr O' ⟨s1, rfl, rfl⟩
    exact ⟨{ WtM.z with k := s1 }, rfl, rfl⟩
   ·refine ⟨_, rfl, rfl, fun ρ O hS hH => ?_⟩
    obtain ⟨ρ0, rfl⟩ := hH.elim
    clear hH
    have hk25 := CallT.makerOf (rsatS w y4 hz hc hd j3 j4 hj3 hj4 eS2) (Sub.trans (Sub.pick [0] rfl) hS)
    refine l_call ent40 hk25 rfl ?_
    clear hk25
    rintro vr O' ⟨s2, rfl, rfl⟩
    exact ⟨{ WtM.z with k := s2 }, rfl, rfl⟩
   ·refine ⟨_, rfl, rfl, fun ρ O hS hH => ?_⟩
    obtain ⟨ρ0, rfl⟩ := hH.elim
    clear hH
    exact l_alloc inf25 rfl (fun p8 => ⟨{ WtM.z with n := p8 }, rfl, rfl⟩)
   ·refine ⟨_, rfl, rfl, fun ρ O hS hH => ?_⟩
    obtain ⟨ρ0, rfl⟩ := hH.elim
    clear hH
    exact l_alloc inf25 rfl (fun p9 => ⟨{ WtM.z with n := p9 }, rfl, rfl⟩)
  intro wm ρ hH
  obtain ⟨s1, e9s1⟩ : ∃ x, x = (wm 2).k := ⟨_, rfl⟩
  obtain ⟨s2, e9s2⟩ : ∃ x, x = (wm 5).k := ⟨_, rfl⟩
  obtain ⟨p8, e9p8⟩ : ∃ x, x = (wm 6).n := ⟨_, rfl⟩
  obtain ⟨p9, e9p9⟩ : ∃ x, x = (wm 7).n := ⟨_, rfl⟩
  have hH2 : Heads [(22, (dV S1 s1)), (25, (dV S2 s2)), (8, (.pointer (aD p8))), (9, (.pointer (aD p9))), (0, (cV a b j1 j2)), (1, (cV c d j3 j4)), (2, (.pointer (aD y1))), (3, (.pointer (aD y2))), (4, (.pointer (aD y3))), (5, vI 0), (6, vI 0), (7, (.pointer (aD y4))), (19, (.pointer (aD y4))), (20, (.pointer (aD y4))), (21, (cV a b j1 j2)), (23, (.pointer (aD y4))), (24, (cV c d j3 j4))] ρ := by subst e9s1 e9s2 e9p8 e9p9; exact hH
  refine RO.sub (O' := [dI 48 4 3 S1 s1, dI 48 4 3 S2 s2, oI p8 25 [(vI 0), (vI 0), nS, nS], oI p9 25 [(vI 0), (vI 0), nS, nS], oI y4 65 [(vI 0)], oI y3 27 [(vI 0), (vI 0), nS, nS, (vI 0), (vI 0), nS, nS], oI y2 27 (cC c d j3 j4), oI y1 27 (cC a b j1 j2)]) (by subst e9s1 e9s2 e9p8 e9p9; exact Sub.rf) ?_
  clear hH e9s1 e9s2 e9p8 e9p9
  obtain ⟨ρ0, rfl⟩ := hH2.elim
  clear hH2
  refine RO.forkT [8] (by kernel_rfl) rfl ⟨⟨_, rfl, rfl, l_sb (v := (dV S1 s1)) (vs := (dC S1 s1)) 2 inf25 rfl rfl rfl rfl rfl rfl (by simp [putL]) ⟨.inl (by decide), ?_⟩⟩, trivial⟩ (by kernel_rfl)
  refine RO.sub (O' := [dI 48 4 3 S1 s1, dI 48 4 3 S2 s2, oI p8 25 (dC S1 s1), oI p9 25 [(vI 0), (vI 0), nS, nS], oI y4 65 [(vI 0)], oI y3 27 [(vI 0), (vI 0), nS, nS, (vI 0), (vI 0), nS, nS], oI y2 27 (cC c d j3 j4), oI y1 27 (cC a b j1 j2)]) (by exact Sub.rf) ?_
  refine RO.forkT [9] (by kernel_rfl) rfl ⟨⟨_, rfl, rfl, l_sb (v := (dV S2 s2)) (vs := (dC S2 s2)) 3 inf25 rfl rfl rfl rfl rfl rfl (by simp [putL]) ⟨.inl (by decide), ?_⟩⟩, trivial⟩ (by kernel_rfl)
  refine RO.sub (O' := [dI 48 4 3 S1 s1, dI 48 4 3 S2 s2, oI p8 25 (dC S1 s1), oI p9 25 (dC S2 s2), oI y4 65 [(vI 0)], oI y3 27 [(vI 0), (vI 0), nS, nS, (vI 0), (vI 0), nS, nS], oI y2 27 (cC c d j3 j4), oI y1 27 (cC a b j1 j2)]) (by exact Sub.rf) ?_
  exact RO.fin (by kernel_rfl) ⟨p8, p9, s1, s2, rfl, (.of rfl)⟩ (Sub.pick [2, 2, 0, 0, 0, 0, 0, 0] rfl)
 rintro ρ O ⟨p8, p9, s1, s2, rfl, hH⟩
 obtain ⟨ρ0, rfl⟩ := hH.elim
 clear hH
 refine T.s (T.rg (TO.qm rfl (TO.q (q_la 0 uT25 rfl inf25 rfl rfl rfl) (TO.q (q_la 1 uT25 rfl inf25 rfl rfl rfl) (TO.l rfl (l_call ent48 (CallT.un [4, 2, 2] (randM w [dI 48 4 3 S1 s1, dI 48 4 3 S2 s2] y4 hz hS1 hS2 s1 s2 (fun w1 hI => haveI := tbz hI; (hI.at (k := s1) (mG 0 rfl))) (fun w1 hI => haveI := tbz hI; (hI.at (k := s2) (mG 1 rfl))) em1)) rfl ?_))))))
 rintro vr O' ⟨A1, rfl, k1, rfl, rfl⟩
 
 refine TO.l rfl (l_alloc inf25 rfl (fun y5 => ?_))
 refine TO.l rfl (l_sb (v := (dV m1 k1)) (vs := (dC m1 k1)) 0 inf25 rfl rfl rfl rfl rfl rfl (by simp [putL]) ?_)
 refine TO.nl ?_
 refine T.reset [oI y5 25 (dC m1 k1), dI 48 4 3 m1 k1, oI y4 65 [(vI 0)], dI 48 4 3 S1 s1, dI 48 4 3 S2 s2, oI p8 25 (dC S1 s1), oI p9 25 (dC S2 s2), oI y3 27 [(vI 0), (vI 0), nS, nS, (vI 0), (vI 0), nS, nS], oI y2 27 (cC c d j3 j4), oI y1 27 (cC a b j1 j2)] [(0, (cV a b j1 j2)), (1, (cV c d j3 j4)), (2, (.pointer (aD y1))), (3, (.pointer (aD y2))), (4, (.pointer (aD y3))), (5, vI 0), (6, vI 0), (7, (.pointer (aD y4))), (8, (.pointer (aD p8))), (9, (.pointer (aD p9))), (10, (.pointer (aD y5))), (19, (.pointer (aD y4)))] rfl (.of rfl) (fun ρ0 => ?_)
 refine T.s ?_
 refine T.draws [oI y5 25 (dC m1 k1), oI p8 25 (dC S1 s1), oI p9 25 (dC S2 s2), oI y3 27 [(vI 0), (vI 0), nS, nS, (vI 0), (vI 0), nS, nS], oI y2 27 (cC c d j3 j4), oI y1 27 (cC a b j1 j2)] [(0, 0), (1, 0), (2, 0), (3, 0), (4, 0), (5, 0), (7, 0), (6, 1), (8, 1), (9, 0), (10, 0), (11, 2), (12, 2)] mixed (drawF_ok (by kernel_rfl)) (by exact Sub.k (.d (.d (.d (.d (.k (.k (.k (.k (.k .z)))))))))) (fun _ _ _ h => h) ?_
 refine DO.q rfl (q_move rfl) (DO.q rfl (q_move rfl) (DO.q rfl (q_fa uT27 rfl inf25 rfl rfl) (DO.q rfl (q_load_part 5 (vs := (dC a j1)) uT25 rfl inf25 rfl rfl rfl rfl) (DO.q rfl (q_fa uT27 rfl inf25 rfl rfl) (DO.q rfl (q_load_part 4 (vs := (dC c j3)) uT25 rfl inf25 rfl rfl rfl rfl) (DO.q rfl (q_la 0 uT25 rfl inf25 rfl rfl rfl) ?_))))))
 refine DO.loud rfl rfl (l_call ent56 (CallT.un [2] (rorM w [] y4 hz ha hc j1 j3 (fun w1 hI => haveI := tbz hI; (hI.atB hj1)) (fun w1 hI => haveI := tbz hI; (hI.atB hj3)) em2)) rfl ?_)
 rintro vr O' ⟨A1, rfl, k2, rfl, rfl⟩
 refine ⟨by exact Sub.d (.d (.k (.d (.d (.d (.k (.k (.k (.k (.k .z)))))))))), ?_⟩
 
 refine DO.loud rfl rfl (l_call ent42 (CallT.un [1] (rdoneM w [] y4 m2 m1 k2 k1)) rfl ?_)
 rintro vr O' ⟨A1, rfl, rfl, rfl⟩
 refine ⟨by exact Sub.d (.d (.k (.d (.d (.d (.k (.k (.k (.k (.k .z)))))))))), ?_⟩
 refine DO.q rfl (q_extract (vs := _) rfl rfl) (DO.q rfl (q_extract (vs := _) rfl rfl) ?_)
 refine DO.last rfl rfl (l_sb (v := (cV m2 m1 k2 k1)) (vs := (cC m2 m1 k2 k1)) 8 inf27 rfl rfl rfl rfl rfl rfl (by simp [putL]) ?_)
 refine DO.last rfl rfl (LT.oq rfl rfl (q_assign rfl) ?_)
 refine DO.done ?_
 refine T.ret (Res.drop ?_)
 refine Res.cell1b (vI 0) (i := 8) Tryz.results23 uT27 rfl inf27 rfl rfl rfl rfl ?_
 exact ⟨[dI 48 4 3 m2 k2, dI 48 4 3 m1 k1], (Sub.pick [1, 2] rfl), k2, k1, by subst em2; subst em1; subst eS2; subst eS1; rfl, by subst em2; subst em1; subst eS2; subst eS1; rfl⟩
theorem rJoinC (w : World) [Tab Tryz.prog w] {z a b c d : DFA} {p q p2 q2 : List Nat → Bool} (hz : Valid z) (ha : InL z a p) (hb : InL z b q) (hc : InL z c p2) (hd : InL z d q2) (j1 j2 j3 j4 : DK) (hj1 : At w a j1) (hj2 : At w b j2) (hj3 : At w c j3) (hj4 : At w d j4) :
  PureT Tryz.prog 25 [cV a b j1 j2, cV c d j3 j4] w fun v N => ∃ k1 k2 : DK, v = .tuple #[cV (opD andB a c) (opD orB (satD a b) (satD c d)) k1 k2, vI 0] ∧ N = [dI 48 4 3 (opD andB a c) k1, dI 48 4 3 (opD orB (satD a b) (satD c d)) k2] := by
 refine CallT.enter func25 rfl ntmps25 rfl ?_
 have hS1 := (InL.sat hz ha hb).2
 obtain ⟨S1, eS1⟩ : ∃ m, satD a b = m := ⟨_, rfl⟩
 rw [eS1] at hS1
 have hS2 := (InL.sat hz hc hd).2
 obtain ⟨S2, eS2⟩ : ∃ m, satD c d = m := ⟨_, rfl⟩
 rw [eS2] at hS2
 have hm1 := (InL.op (f := orB) hz hS1 hS2).2
 obtain ⟨m1, em1⟩ : ∃ m, opD orB S1 S2 = m := ⟨_, rfl⟩
 rw [em1] at hm1
 have hm2 := (InL.op (f := andB) hz ha hc).2
 obtain ⟨m2, em2⟩ : ∃ m, opD andB a c = m := ⟨_, rfl⟩
 rw [em2] at hm2
 refine T.s (T.rg (TO.l rfl (l_box (v := (cV a b j1 j2)) (cs := (cC a b j1 j2)) rfl rfl (fun y1 => ?_))))
 refine TO.l rfl (l_box (v := (cV c d j3 j4)) (cs := (cC c d j3 j4)) rfl rfl (fun y2 => ?_))
 refine TO.l rfl (l_alloc inf27 rfl (fun y3 => ?_))
 refine TO.qa rfl (TO.nl (T.s (T.s (T.rg (TO.q (q_la 2 uT27 rfl inf27 rfl rfl rfl) (TO.q (q_la 1 uT27 rfl inf27 rfl rfl rfl) ?_))))))
 refine TO.l rfl (l_call ent55 (CallT.op fun w1 hI => (haveI := tbz hI; (show PureT _ _ _ _ _ from by
   have h9 := rBoth w1 a b c d j1 j2 j3 j4 (hI.atB hj1) (hI.atB hj2) (hI.atB hj3) (hI.atB hj4) ha.bds hb.bds hc.bds hd.bds
   rw [(bE_zero.2 ⟨⟨ha.has.valid, hb.has.valid, by rw [ha.has.vars, hb.has.vars]⟩, ⟨hc.has.valid, hd.has.valid, by rw [hc.has.vars, hd.has.vars]⟩, by rw [ha.has.vars, hc.has.vars]⟩)] at h9
   exact h9))) rfl ?_)
 rintro vr O' ⟨N, rfl, rfl, rfl⟩
 refine TO.qa rfl (TO.nl (T.s (T.rg (TO.qm rfl (TO.q (QT.toB (q_neq rfl rfl) (decide_eq_false (fun h => h rfl))) (TO.nl (T.cond0 rfl (T.skip (T.s (T.rg (TO.q (q_build plan65 inf65 rfl) (TO.l rfl (l_box (v := (.agg #[(vI 0)])) (cs := [(vI 0)]) rfl rfl (fun y4 => ?_))))))))))))))
 refine TO.qa rfl (TO.nl ?_)
 refine T.cut (fun ρ O => ∃ (p8 p9 : Nat) (s1 s2 : DK), O = [oI p8 25 (dC S1 s1), oI p9 25 (dC S2 s2), dI 48 4 3 S1 s1, dI 48 4 3 S2 s2, oI y4 65 [(vI 0)], oI y3 27 [(vI 0), (vI 0), nS, nS, (vI 0), (vI 0), nS, nS], oI y2 27 (cC c d j3 j4), oI y1 27 (cC a b j1 j2)] ∧ Heads [(0, (cV a b j1 j2)), (1, (cV c d j3 j4)), (2, (.pointer (aD y1))), (3, (.pointer (aD y2))), (4, (.pointer (aD y3))), (5, vI 0), (6, vI 0), (7, (.pointer (aD y4))), (8, (.pointer (aD p8))), (9, (.pointer (aD p9))), (19, (.pointer (aD y4)))] ρ) ?_ ?_
 ·refine T.treeT [oI y4 65 [(vI 0)], oI y3 27 [(vI 0), (vI 0), nS, nS, (vI 0), (vI 0), nS, nS], oI y2 27 (cC c d j3 j4), oI y1 27 (cC a b j1 j2)] [8, 9] 10 mixed rfl (by exact Sub.rf) (fun _ _ _ h => h) ?_
  refine RO.quietTT 0 rfl (by kernel_rfl) (q_move rfl) ?_
  refine RO.quietTT 1 rfl (by kernel_rfl) (q_la 3 uT27 rfl inf27 rfl rfl rfl) ?_
  refine RO.quietTT 3 rfl (by kernel_rfl) (q_move rfl) ?_
  refine RO.quietTT 4 rfl (by kernel_rfl) (q_la 2 uT27 rfl inf27 rfl rfl rfl) ?_
  refine RO.makers (Wt := WtM) (fuel := 2) [⟨2, 22, fun x => (dV S1 x.k), fun x => [dI 48 4 3 S1 x.k]⟩, ⟨5, 25, fun x => (dV S2 x.k), fun x => [dI 48 4 3 S2 x.k]⟩, ⟨6, 8, fun x => (.pointer (some ⟨x.n, 0, none⟩)), fun x => [oI x.n 25 [(vI 0), (vI 0), nS, nS]]⟩, ⟨7, 9, fun x => (.pointer (some ⟨x.n, 0, none⟩)), fun x => [oI x.n 25 [(vI 0), (vI 0), nS, nS]]⟩] [(0, (cV a b j1 j2)), (1, (cV c d j3 j4)), (2, (.pointer (aD y1))), (3, (.pointer (aD y2))), (4, (.pointer (aD y3))), (5, vI 0), (6, vI 0), (7, (.pointer (aD y4))), (19, (.pointer (aD y4))), (20, (.pointer (aD y4))), (21, (cV a b j1 j2)), (23, (.pointer (aD y4))), (24, (cV c d j3 j4))] (fun _ => WtM.z) (by kernel_rfl) (by exact Sub.rf) ?_ ?_ (.of rfl)
  ·intro q hq
   simp only [List.mem_cons, List.not_mem_nil, or_false] at hq
   rcases hq with rfl | rfl | rfl | rfl
   ·refine ⟨_, rfl, rfl, fun ρ O hS hH => ?_⟩
    obtain ⟨ρ0, rfl⟩ := hH.elim
    clear hH
    have hk22 := CallT.makerOf (rsatS w y4 hz ha hb j1 j2 hj1 hj2 eS1) (Sub.trans (Sub.pick [0] rfl) hS)
    refine l_call ent40 hk22 rfl ?_
    clear hk22
    rintro vr O' ⟨s1, rfl, rfl⟩
    exact ⟨{ WtM.z with k := s1 }, rfl, rfl⟩
   ·refine ⟨_, rfl, rfl, fun ρ O hS hH => ?_⟩
    obtain ⟨ρ0, rfl⟩ := hH.elim
    clear hH
    have hk25 := CallT.makerOf (rsatS w y4 hz hc hd j3 j4 hj3 hj4 eS2) (Sub.trans (Sub.pick [0] rfl) hS)
    refine l_call ent40 hk25 rfl ?_
    clear hk25
    rintro vr O' ⟨s2, rfl, rfl⟩
    exact ⟨{ WtM.z with k := s2 }, rfl, rfl⟩
   ·refine ⟨_, rfl, rfl, fun ρ O hS hH => ?_⟩
    obtain ⟨ρ0, rfl⟩ := hH.elim
    clear hH
    exact l_alloc inf25 rfl (fun p8 => ⟨{ WtM.z with n := p8 }, rfl, rfl⟩)
   ·refine ⟨_, rfl, rfl, fun ρ O hS hH => ?_⟩
    obtain ⟨ρ0, rfl⟩ := hH.elim
    clear hH
    exact l_alloc inf25 rfl (fun p9 => ⟨{ WtM.z with n := p9 }, rfl, rfl⟩)
  intro wm ρ hH
  obtain ⟨s1, e9s1⟩ : ∃ x, x = (wm 2).k := ⟨_, rfl⟩
  obtain ⟨s2, e9s2⟩ : ∃ x, x = (wm 5).k := ⟨_, rfl⟩
  obtain ⟨p8, e9p8⟩ : ∃ x, x = (wm 6).n := ⟨_, rfl⟩
  obtain ⟨p9, e9p9⟩ : ∃ x, x = (wm 7).n := ⟨_, rfl⟩
  have hH2 : Heads [(22, (dV S1 s1)), (25, (dV S2 s2)), (8, (.pointer (aD p8))), (9, (.pointer (aD p9))), (0, (cV a b j1 j2)), (1, (cV c d j3 j4)), (2, (.pointer (aD y1))), (3, (.pointer (aD y2))), (4, (.pointer (aD y3))), (5, vI 0), (6, vI 0), (7, (.pointer (aD y4))), (19, (.pointer (aD y4))), (20, (.pointer (aD y4))), (21, (cV a b j1 j2)), (23, (.pointer (aD y4))), (24, (cV c d j3 j4))] ρ := by subst e9s1 e9s2 e9p8 e9p9; exact hH
  refine RO.sub (O' := [dI 48 4 3 S1 s1, dI 48 4 3 S2 s2, oI p8 25 [(vI 0), (vI 0), nS, nS], oI p9 25 [(vI 0), (vI 0), nS, nS], oI y4 65 [(vI 0)], oI y3 27 [(vI 0), (vI 0), nS, nS, (vI 0), (vI 0), nS, nS], oI y2 27 (cC c d j3 j4), oI y1 27 (cC a b j1 j2)]) (by subst e9s1 e9s2 e9p8 e9p9; exact Sub.rf) ?_
  clear hH e9s1 e9s2 e9p8 e9p9
  obtain ⟨ρ0, rfl⟩ := hH2.elim
  clear hH2
  refine RO.forkT [8] (by kernel_rfl) rfl ⟨⟨_, rfl, rfl, l_sb (v := (dV S1 s1)) (vs := (dC S1 s1)) 2 inf25 rfl rfl rfl rfl rfl rfl (by simp [putL]) ⟨.inl (by decide), ?_⟩⟩, trivial⟩ (by kernel_rfl)
  refine RO.sub (O' := [dI 48 4 3 S1 s1, dI 48 4 3 S2 s2, oI p8 25 (dC S1 s1), oI p9 25 [(vI 0), (vI 0), nS, nS], oI y4 65 [(vI 0)], oI y3 27 [(vI 0), (vI 0), nS, nS, (vI 0), (vI 0), nS, nS], oI y2 27 (cC c d j3 j4), oI y1 27 (cC a b j1 j2)]) (by exact Sub.rf) ?_
  refine RO.forkT [9] (by kernel_rfl) rfl ⟨⟨_, rfl, rfl, l_sb (v := (dV S2 s2)) (vs := (dC S2 s2)) 3 inf25 rfl rfl rfl rfl rfl rfl (by simp [putL]) ⟨.inl (by decide), ?_⟩⟩, trivial⟩ (by kernel_rfl)
  refine RO.sub (O' := [dI 48 4 3 S1 s1, dI 48 4 3 S2 s2, oI p8 25 (dC S1 s1), oI p9 25 (dC S2 s2), oI y4 65 [(vI 0)], oI y3 27 [(vI 0), (vI 0), nS, nS, (vI 0), (vI 0), nS, nS], oI y2 27 (cC c d j3 j4), oI y1 27 (cC a b j1 j2)]) (by exact Sub.rf) ?_
  exact RO.fin (by kernel_rfl) ⟨p8, p9, s1, s2, rfl, (.of rfl)⟩ (Sub.pick [2, 2, 0, 0, 0, 0, 0, 0] rfl)
 rintro ρ O ⟨p8, p9, s1, s2, rfl, hH⟩
 obtain ⟨ρ0, rfl⟩ := hH.elim
 clear hH
 refine T.s (T.rg (TO.qm rfl (TO.q (q_la 0 uT25 rfl inf25 rfl rfl rfl) (TO.q (q_la 1 uT25 rfl inf25 rfl rfl rfl) (TO.l rfl (l_call ent56 (CallT.un [4, 2, 2] (rorM w [dI 48 4 3 S1 s1, dI 48 4 3 S2 s2] y4 hz hS1 hS2 s1 s2 (fun w1 hI => haveI := tbz hI; (hI.at (k := s1) (mG 0 rfl))) (fun w1 hI => haveI := tbz hI; (hI.at (k := s2) (mG 1 rfl))) em1)) rfl ?_))))))
 rintro vr O' ⟨A1, rfl, k1, rfl, rfl⟩
 
 refine TO.l rfl (l_alloc inf25 rfl (fun y5 => ?_))
 refine TO.l rfl (l_sb (v := (dV m1 k1)) (vs := (dC m1 k1)) 0 inf25 rfl rfl rfl rfl rfl rfl (by simp [putL]) ?_)
 refine TO.nl ?_
 refine T.reset [oI y5 25 (dC m1 k1), dI 48 4 3 m1 k1, oI y4 65 [(vI 0)], dI 48 4 3 S1 s1, dI 48 4 3 S2 s2, oI p8 25 (dC S1 s1), oI p9 25 (dC S2 s2), oI y3 27 [(vI 0), (vI 0), nS, nS, (vI 0), (vI 0), nS, nS], oI y2 27 (cC c d j3 j4), oI y1 27 (cC a b j1 j2)] [(0, (cV a b j1 j2)), (1, (cV c d j3 j4)), (2, (.pointer (aD y1))), (3, (.pointer (aD y2))), (4, (.pointer (aD y3))), (5, vI 0), (6, vI 0), (7, (.pointer (aD y4))), (8, (.pointer (aD p8))), (9, (.pointer (aD p9))), (10, (.pointer (aD y5))), (19, (.pointer (aD y4)))] rfl (.of rfl) (fun ρ0 => ?_)
 refine T.s ?_
 refine T.draws [oI y5 25 (dC m1 k1), oI p8 25 (dC S1 s1), oI p9 25 (dC S2 s2), oI y3 27 [(vI 0), (vI 0), nS, nS, (vI 0), (vI 0), nS, nS], oI y2 27 (cC c d j3 j4), oI y1 27 (cC a b j1 j2)] [(0, 0), (1, 0), (2, 0), (3, 0), (4, 0), (5, 0), (7, 0), (6, 1), (8, 1), (9, 0), (10, 0), (11, 2), (12, 2)] mixed (drawF_ok (by kernel_rfl)) (by exact Sub.k (.d (.d (.d (.d (.k (.k (.k (.k (.k .z)))))))))) (fun _ _ _ h => h) ?_
 refine DO.q rfl (q_move rfl) (DO.q rfl (q_move rfl) (DO.q rfl (q_fa uT27 rfl inf25 rfl rfl) (DO.q rfl (q_load_part 5 (vs := (dC a j1)) uT25 rfl inf25 rfl rfl rfl rfl) (DO.q rfl (q_fa uT27 rfl inf25 rfl rfl) (DO.q rfl (q_load_part 4 (vs := (dC c j3)) uT25 rfl inf25 rfl rfl rfl rfl) (DO.q rfl (q_la 0 uT25 rfl inf25 rfl rfl rfl) ?_))))))
 refine DO.loud rfl rfl (l_call ent48 (CallT.un [2] (randM w [] y4 hz ha hc j1 j3 (fun w1 hI => haveI := tbz hI; (hI.atB hj1)) (fun w1 hI => haveI := tbz hI; (hI.atB hj3)) em2)) rfl ?_)
 rintro vr O' ⟨A1, rfl, k2, rfl, rfl⟩
 refine ⟨by exact Sub.d (.d (.k (.d (.d (.d (.k (.k (.k (.k (.k .z)))))))))), ?_⟩
 
 refine DO.loud rfl rfl (l_call ent42 (CallT.un [1] (rdoneM w [] y4 m2 m1 k2 k1)) rfl ?_)
 rintro vr O' ⟨A1, rfl, rfl, rfl⟩
 refine ⟨by exact Sub.d (.d (.k (.d (.d (.d (.k (.k (.k (.k (.k .z)))))))))), ?_⟩
 refine DO.q rfl (q_extract (vs := _) rfl rfl) (DO.q rfl (q_extract (vs := _) rfl rfl) ?_)
 refine DO.last rfl rfl (l_sb (v := (cV m2 m1 k2 k1)) (vs := (cC m2 m1 k2 k1)) 8 inf27 rfl rfl rfl rfl rfl rfl (by simp [putL]) ?_)
 refine DO.last rfl rfl (LT.oq rfl rfl (q_assign rfl) ?_)
 refine DO.done ?_
 refine T.ret (Res.drop ?_)
 refine Res.cell1b (vI 0) (i := 8) Tryz.results25 uT27 rfl inf27 rfl rfl rfl rfl ?_
 exact ⟨[dI 48 4 3 m2 k2, dI 48 4 3 m1 k1], (Sub.pick [1, 2] rfl), k2, k1, by subst em2; subst em1; subst eS2; subst eS1; rfl, by subst em2; subst em1; subst eS2; subst eS1; rfl⟩
theorem rCompC (w : World) [Tab Tryz.prog w] {z a b c d : DFA} {p q p2 q2 : List Nat → Bool} (hz : Valid z) (ha : InL z a p) (hb : InL z b q) (hc : InL z c p2) (hd : InL z d q2) (j1 j2 j3 j4 : DK) (hj1 : At w a j1) (hj2 : At w b j2) (hj3 : At w c j3) (hj4 : At w d j4) :
  PureT Tryz.prog 27 [cV a b j1 j2, cV c d j3 j4] w fun v N => ∃ k1 k2 : DK, v = .tuple #[cV (opD orB (opD andB a c) (notD (opD andB (satD a b) (satD c d)))) (opD andB (satD a b) (satD c d)) k1 k2, vI 0] ∧ N = [dI 48 4 3 (opD orB (opD andB a c) (notD (opD andB (satD a b) (satD c d)))) k1, dI 48 4 3 (opD andB (satD a b) (satD c d)) k2] := by
 refine CallT.enter func27 rfl ntmps27 rfl ?_
 have hS1 := (InL.sat hz ha hb).2
 obtain ⟨S1, eS1⟩ : ∃ m, satD a b = m := ⟨_, rfl⟩
 rw [eS1] at hS1
 have hS2 := (InL.sat hz hc hd).2
 obtain ⟨S2, eS2⟩ : ∃ m, satD c d = m := ⟨_, rfl⟩
 rw [eS2] at hS2
 have hm1 := (InL.op (f := andB) hz hS1 hS2).2
 obtain ⟨m1, em1⟩ : ∃ m, opD andB S1 S2 = m := ⟨_, rfl⟩
 rw [em1] at hm1
 have hm2 := (InL.op (f := andB) hz ha hc).2
 obtain ⟨m2, em2⟩ : ∃ m, opD andB a c = m := ⟨_, rfl⟩
 rw [em2] at hm2
 have hm3 := (InL.not hz hm1).2
 obtain ⟨m3, em3⟩ : ∃ m, notD m1 = m := ⟨_, rfl⟩
 rw [em3] at hm3
 have hm4 := (InL.op (f := orB) hz hm2 hm3).2
 obtain ⟨m4, em4⟩ : ∃ m, opD orB m2 m3 = m := ⟨_, rfl⟩
 rw [em4] at hm4
 refine T.s (T.rg (TO.l rfl (l_box (v := (cV a b j1 j2)) (cs := (cC a b j1 j2)) rfl rfl (fun y1 => ?_))))
 refine TO.l rfl (l_box (v := (cV c d j3 j4)) (cs := (cC c d j3 j4)) rfl rfl (fun y2 => ?_))
 refine TO.l rfl (l_alloc inf27 rfl (fun y3 => ?_))
 refine TO.qa rfl (TO.nl (T.s (T.s (T.rg (TO.q (q_la 2 uT27 rfl inf27 rfl rfl rfl) (TO.q (q_la 1 uT27 rfl inf27 rfl rfl rfl) ?_))))))
 refine TO.l rfl (l_call ent55 (CallT.op fun w1 hI => (haveI := tbz hI; (show PureT _ _ _ _ _ from by
   have h9 := rBoth w1 a b c d j1 j2 j3 j4 (hI.atB hj1) (hI.atB hj2) (hI.atB hj3) (hI.atB hj4) ha.bds hb.bds hc.bds hd.bds
   rw [(bE_zero.2 ⟨⟨ha.has.valid, hb.has.valid, by rw [ha.has.vars, hb.has.vars]⟩, ⟨hc.has.valid, hd.has.valid, by rw [hc.has.vars, hd.has.vars]⟩, by rw [ha.has.vars, hc.has.vars]⟩)] at h9
   exact h9))) rfl ?_)
 rintro vr O' ⟨N, rfl, rfl, rfl⟩
 refine TO.qa rfl (TO.nl (T.s (T.rg (TO.qm rfl (TO.q (QT.toB (q_neq rfl rfl) (decide_eq_false (fun h => h rfl))) (TO.nl (T.cond0 rfl (T.skip (T.s (T.rg (TO.q (q_build plan65 inf65 rfl) (TO.l rfl (l_box (v := (.agg #[(vI 0)])) (cs := [(vI 0)]) rfl rfl (fun y4 => ?_))))))))))))))
 refine TO.qa rfl (TO.nl ?_)
 refine T.cut (fun ρ O => ∃ (p8 p9 : Nat) (s1 s2 : DK), O = [oI p8 25 (dC S1 s1), oI p9 25 (dC S2 s2), dI 48 4 3 S1 s1, dI 48 4 3 S2 s2, oI y4 65 [(vI 0)], oI y3 27 [(vI 0), (vI 0), nS, nS, (vI 0), (vI 0), nS, nS], oI y2 27 (cC c d j3 j4), oI y1 27 (cC a b j1 j2)] ∧ Heads [(0, (cV a b j1 j2)), (1, (cV c d j3 j4)), (2, (.pointer (aD y1))), (3, (.pointer (aD y2))), (4, (.pointer (aD y3))), (5, vI 0), (6, vI 0), (7, (.pointer (aD y4))), (8, (.pointer (aD p8))), (9, (.pointer (aD p9))), (20, (.pointer (aD y4)))] ρ) ?_ ?_
 ·refine T.treeT [oI y4 65 [(vI 0)], oI y3 27 [(vI 0), (vI 0), nS, nS, (vI 0), (vI 0), nS, nS], oI y2 27 (cC c d j3 j4), oI y1 27 (cC a b j1 j2)] [8, 9] 10 mixed rfl (by exact Sub.rf) (fun _ _ _ h => h) ?_
  refine RO.quietTT 0 rfl (by kernel_rfl) (q_move rfl) ?_
  refine RO.quietTT 1 rfl (by kernel_rfl) (q_la 3 uT27 rfl inf27 rfl rfl rfl) ?_
  refine RO.quietTT 3 rfl (by kernel_rfl) (q_move rfl) ?_
  refine RO.quietTT 4 rfl (by kernel_rfl) (q_la 2 uT27 rfl inf27 rfl rfl rfl) ?_
  refine RO.makers (Wt := WtM) (fuel := 2) [⟨2, 23, fun x => (dV S1 x.k), fun x => [dI 48 4 3 S1 x.k]⟩, ⟨5, 26, fun x => (dV S2 x.k), fun x => [dI 48 4 3 S2 x.k]⟩, ⟨6, 8, fun x => (.pointer (some ⟨x.n, 0, none⟩)), fun x => [oI x.n 25 [(vI 0), (vI 0), nS, nS]]⟩, ⟨7, 9, fun x => (.pointer (some ⟨x.n, 0, none⟩)), fun x => [oI x.n 25 [(vI 0), (vI 0), nS, nS]]⟩] [(0, (cV a b j1 j2)), (1, (cV c d j3 j4)), (2, (.pointer (aD y1))), (3, (.pointer (aD y2))), (4, (.pointer (aD y3))), (5, vI 0), (6, vI 0), (7, (.pointer (aD y4))), (20, (.pointer (aD y4))), (21, (.pointer (aD y4))), (22, (cV a b j1 j2)), (24, (.pointer (aD y4))), (25, (cV c d j3 j4))] (fun _ => WtM.z) (by kernel_rfl) (by exact Sub.rf) ?_ ?_ (.of rfl)
  ·intro q hq
   simp only [List.mem_cons, List.not_mem_nil, or_false] at hq
   rcases hq with rfl | rfl | rfl | rfl
   ·refine ⟨_, rfl, rfl, fun ρ O hS hH => ?_⟩
    obtain ⟨ρ0, rfl⟩ := hH.elim
    clear hH
    have hk23 := CallT.makerOf (rsatS w y4 hz ha hb j1 j2 hj1 hj2 eS1) (Sub.trans (Sub.pick [0] rfl) hS)
    refine l_call ent40 hk23 rfl ?_
    clear hk23
    rintro vr O' ⟨s1, rfl, rfl⟩
    exact ⟨{ WtM.z with k := s1 }, rfl, rfl⟩
   ·refine ⟨_, rfl, rfl, fun ρ O hS hH => ?_⟩
    obtain ⟨ρ0, rfl⟩ := hH.elim
    clear hH
    have hk26 := CallT.makerOf (rsatS w y4 hz hc hd j3 j4 hj3 hj4 eS2) (Sub.trans (Sub.pick [0] rfl) hS)
    refine l_call ent40 hk26 rfl ?_
    clear hk26
    rintro vr O' ⟨s2, rfl, rfl⟩
    exact ⟨{ WtM.z with k := s2 }, rfl, rfl⟩
   ·refine ⟨_, rfl, rfl, fun ρ O hS hH => ?_⟩
    obtain ⟨ρ0, rfl⟩ := hH.elim
    clear hH
    exact l_alloc inf25 rfl (fun p8 => ⟨{ WtM.z with n := p8 }, rfl, rfl⟩)
   ·refine ⟨_, rfl, rfl, fun ρ O hS hH => ?_⟩
    obtain ⟨ρ0, rfl⟩ := hH.elim
    clear hH
    exact l_alloc inf25 rfl (fun p9 => ⟨{ WtM.z with n := p9 }, rfl, rfl⟩)
  intro wm ρ hH
  obtain ⟨s1, e9s1⟩ : ∃ x, x = (wm 2).k := ⟨_, rfl⟩
  obtain ⟨s2, e9s2⟩ : ∃ x, x = (wm 5).k := ⟨_, rfl⟩
  obtain ⟨p8, e9p8⟩ : ∃ x, x = (wm 6).n := ⟨_, rfl⟩
  obtain ⟨p9, e9p9⟩ : ∃ x, x = (wm 7).n := ⟨_, rfl⟩
  have hH2 : Heads [(23, (dV S1 s1)), (26, (dV S2 s2)), (8, (.pointer (aD p8))), (9, (.pointer (aD p9))), (0, (cV a b j1 j2)), (1, (cV c d j3 j4)), (2, (.pointer (aD y1))), (3, (.pointer (aD y2))), (4, (.pointer (aD y3))), (5, vI 0), (6, vI 0), (7, (.pointer (aD y4))), (20, (.pointer (aD y4))), (21, (.pointer (aD y4))), (22, (cV a b j1 j2)), (24, (.pointer (aD y4))), (25, (cV c d j3 j4))] ρ := by subst e9s1 e9s2 e9p8 e9p9; exact hH
  refine RO.sub (O' := [dI 48 4 3 S1 s1, dI 48 4 3 S2 s2, oI p8 25 [(vI 0), (vI 0), nS, nS], oI p9 25 [(vI 0), (vI 0), nS, nS], oI y4 65 [(vI 0)], oI y3 27 [(vI 0), (vI 0), nS, nS, (vI 0), (vI 0), nS, nS], oI y2 27 (cC c d j3 j4), oI y1 27 (cC a b j1 j2)]) (by subst e9s1 e9s2 e9p8 e9p9; exact Sub.rf) ?_
  clear hH e9s1 e9s2 e9p8 e9p9
  obtain ⟨ρ0, rfl⟩ := hH2.elim
  clear hH2
  refine RO.forkT [8] (by kernel_rfl) rfl ⟨⟨_, rfl, rfl, l_sb (v := (dV S1 s1)) (vs := (dC S1 s1)) 2 inf25 rfl rfl rfl rfl rfl rfl (by simp [putL]) ⟨.inl (by decide), ?_⟩⟩, trivial⟩ (by kernel_rfl)
  refine RO.sub (O' := [dI 48 4 3 S1 s1, dI 48 4 3 S2 s2, oI p8 25 (dC S1 s1), oI p9 25 [(vI 0), (vI 0), nS, nS], oI y4 65 [(vI 0)], oI y3 27 [(vI 0), (vI 0), nS, nS, (vI 0), (vI 0), nS, nS], oI y2 27 (cC c d j3 j4), oI y1 27 (cC a b j1 j2)]) (by exact Sub.rf) ?_
  refine RO.forkT [9] (by kernel_rfl) rfl ⟨⟨_, rfl, rfl, l_sb (v := (dV S2 s2)) (vs := (dC S2 s2)) 3 inf25 rfl rfl rfl rfl rfl rfl (by simp [putL]) ⟨.inl (by decide), ?_⟩⟩, trivial⟩ (by kernel_rfl)
  refine RO.sub (O' := [dI 48 4 3 S1 s1, dI 48 4 3 S2 s2, oI p8 25 (dC S1 s1), oI p9 25 (dC S2 s2), oI y4 65 [(vI 0)], oI y3 27 [(vI 0), (vI 0), nS, nS, (vI 0), (vI 0), nS, nS], oI y2 27 (cC c d j3 j4), oI y1 27 (cC a b j1 j2)]) (by exact Sub.rf) ?_
  exact RO.fin (by kernel_rfl) ⟨p8, p9, s1, s2, rfl, (.of rfl)⟩ (Sub.pick [2, 2, 0, 0, 0, 0, 0, 0] rfl)
 rintro ρ O ⟨p8, p9, s1, s2, rfl, hH⟩
 obtain ⟨ρ0, rfl⟩ := hH.elim
 clear hH
 refine T.s (T.rg (TO.qm rfl (TO.q (q_la 0 uT25 rfl inf25 rfl rfl rfl) (TO.q (q_la 1 uT25 rfl inf25 rfl rfl rfl) (TO.l rfl (l_call ent48 (CallT.un [4, 2, 2] (randM w [dI 48 4 3 S1 s1, dI 48 4 3 S2 s2] y4 hz hS1 hS2 s1 s2 (fun w1 hI => haveI := tbz hI; (hI.at (k := s1) (mG 0 rfl))) (fun w1 hI => haveI := tbz hI; (hI.at (k := s2) (mG 1 rfl))) em1)) rfl ?_))))))
 rintro vr O' ⟨A1, rfl, k1, rfl, rfl⟩
 
 refine TO.l rfl (l_alloc inf25 rfl (fun y5 => ?_))
 refine TO.l rfl (l_sb (v := (dV m1 k1)) (vs := (dC m1 k1)) 0 inf25 rfl rfl rfl rfl rfl rfl (by simp [putL]) ?_)
 refine TO.nl ?_
 refine T.reset [oI y5 25 (dC m1 k1), dI 48 4 3 m1 k1, oI y4 65 [(vI 0)], dI 48 4 3 S1 s1, dI 48 4 3 S2 s2, oI p8 25 (dC S1 s1), oI p9 25 (dC S2 s2), oI y3 27 [(vI 0), (vI 0), nS, nS, (vI 0), (vI 0), nS, nS], oI y2 27 (cC c d j3 j4), oI y1 27 (cC a b j1 j2)] [(0, (cV a b j1 j2)), (1, (cV c d j3 j4)), (2, (.pointer (aD y1))), (3, (.pointer (aD y2))), (4, (.pointer (aD y3))), (5, vI 0), (6, vI 0), (7, (.pointer (aD y4))), (8, (.pointer (aD p8))), (9, (.pointer (aD p9))), (10, (.pointer (aD y5))), (20, (.pointer (aD y4)))] rfl (.of rfl) (fun ρ0 => ?_)
 refine T.s (T.rg (TO.qm rfl (TO.q (q_fa uT27 rfl inf25 rfl rfl) (TO.q (q_load_part 9 (vs := (dC a j1)) uT25 rfl inf25 rfl rfl rfl rfl) (TO.q (q_fa uT27 rfl inf25 rfl rfl) (TO.q (q_load_part 8 (vs := (dC c j3)) uT25 rfl inf25 rfl rfl rfl rfl) (TO.l rfl (l_call ent48 (CallT.un [2] (randM w [] y4 hz ha hc j1 j3 (fun w1 hI => haveI := tbz hI; (hI.atB hj1)) (fun w1 hI => haveI := tbz hI; (hI.atB hj3)) em2)) rfl ?_))))))))
 rintro vr O' ⟨A1, rfl, k2, rfl, rfl⟩
 
 refine TO.l rfl (l_alloc inf25 rfl (fun y6 => ?_))
 refine TO.l rfl (l_sb (v := (dV m2 k2)) (vs := (dC m2 k2)) 0 inf25 rfl rfl rfl rfl rfl rfl (by simp [putL]) ?_)
 refine TO.nl (T.s ?_)
 refine T.draws [oI y6 25 (dC m2 k2), oI y5 25 (dC m1 k1), oI p8 25 (dC S1 s1), oI p9 25 (dC S2 s2), oI y3 27 [(vI 0), (vI 0), nS, nS, (vI 0), (vI 0), nS, nS], oI y2 27 (cC c d j3 j4), oI y1 27 (cC a b j1 j2)] [(0, 0), (1, 0), (2, 0), (3, 0), (4, 0), (7, 0), (5, 1), (6, 1), (8, 1), (9, 0), (10, 0), (11, 2), (12, 2)] mixed (drawF_ok (by kernel_rfl)) (by exact Sub.k (.d (.d (.k (.d (.d (.d (.k (.k (.k (.k (.k .z)))))))))))) (fun _ _ _ h => h) ?_
 refine DO.q rfl (q_move rfl) (DO.q rfl (q_move rfl) (DO.q rfl (q_la 0 uT25 rfl inf25 rfl rfl rfl) (DO.q rfl (q_move rfl) (DO.q rfl (q_la 1 uT25 rfl inf25 rfl rfl rfl) (DO.q rfl (q_la 1 uT25 rfl inf25 rfl rfl rfl) ?_)))))
 refine DO.loud rfl rfl (l_call ent58 (CallT.un [2, 3] (rnotM w [dI 48 4 3 m1 k1] y4 hm1.has.valid k1 (fun w1 hI => haveI := tbz hI; (hI.at (k := k1) (mG 0 rfl))) em3)) rfl ?_)
 rintro vr O' ⟨A1, rfl, k3, rfl, rfl⟩
 refine ⟨by exact Sub.d (.d (.d (.k (.d (.k (.d (.d (.k (.k (.k (.k (.k .z)))))))))))), ?_⟩
 refine DO.loud rfl rfl (l_call ent56 (CallT.un [1, 3, 0] (rorM w [dI 48 4 3 m2 k2, dI 48 4 3 m3 k3] y4 hz hm2 hm3 k2 k3 (fun w1 hI => haveI := tbz hI; (hI.at (k := k2) (mG 0 rfl))) (fun w1 hI => haveI := tbz hI; (hI.at (k := k3) (mG 1 rfl))) em4)) rfl ?_)
 rintro vr O' ⟨A1, rfl, k4, rfl, rfl⟩
 refine ⟨by exact Sub.d (.d (.d (.d (.d (.k (.k (.d (.d (.k (.k (.k (.k (.k .z))))))))))))), ?_⟩
 
 refine DO.loud rfl rfl (l_call ent42 (CallT.un [1] (rdoneM w [] y4 m4 m1 k4 k1)) rfl ?_)
 rintro vr O' ⟨A1, rfl, rfl, rfl⟩
 refine ⟨by exact Sub.d (.d (.d (.d (.d (.k (.k (.d (.d (.k (.k (.k (.k (.k .z))))))))))))), ?_⟩
 refine DO.q rfl (q_extract (vs := _) rfl rfl) (DO.q rfl (q_extract (vs := _) rfl rfl) ?_)
 refine DO.last rfl rfl (l_sb (v := (cV m4 m1 k4 k1)) (vs := (cC m4 m1 k4 k1)) 11 inf27 rfl rfl rfl rfl rfl rfl (by simp [putL]) ?_)
 refine DO.last rfl rfl (LT.oq rfl rfl (q_assign rfl) ?_)
 refine DO.done ?_
 refine T.ret (Res.drop ?_)
 refine Res.cell1b (vI 0) (i := 11) Tryz.results27 uT27 rfl inf27 rfl rfl rfl rfl ?_
 exact ⟨[dI 48 4 3 m4 k4, dI 48 4 3 m1 k1], (Sub.pick [1, 3] rfl), k4, k1, by subst em4; subst em3; subst em2; subst em1; subst eS2; subst eS1; rfl, by subst em4; subst em3; subst em2; subst em1; subst eS2; subst eS1; rfl⟩
end Go.Proofs.YtnpehjpookcfkaaGreatDoor


namespace Go.Proofs.YtnpehjpookcfkaaGreatDoor
open Go.Lx Go.RowKit _root_.Go.Proofs.Tryz
theorem fewK (w : World) [Tab Tryz.prog w] (d : DFA) (j : DK) (hd : At w d j) (hc9 : CapD d j) (bd : d.next.length < 9223372036854775807 ∧ (∀ r ∈ d.next, r.length < 9223372036854775807) ∧ d.final.length < 9223372036854775807) {X : DFA} (hX : fewD d = X) :
  PureT Tryz.prog 6 [dV d j] w fun v N => ∃ k' : DK, v = dV X k' ∧ N = [dI 48 4 3 X k'] := by
 refine CallT.enter func6 rfl ntmps6 rfl ?_
 have hd1 := hd.rows.1
 have hfcp := hc9.f
 refine T.s (T.rg (TO.l rfl (l_box (v := (dV d j)) (cs := (dC d j)) rfl rfl (fun z1 => ?_))))
 refine TO.l rfl (l_alloc inf25 rfl (fun z2 => ?_))
 refine TO.nl (T.s (T.rg (TO.qa rfl (TO.nl (T.s (T.s (T.rg (TO.qa rfl (TO.nl (T.block (T.nilRow 48 1 ?_)))))))))))
 refine T.sub (O' := [rowI none 0 48 1 (vals []), oI z2 25 [(vI 0), (vI 0), nS, nS], oI z1 25 (dC d j)]) (by exact Sub.rf) ?_
 refine T.loopS (fun (s : Nat) ρ O => ∃ (nb : Option Addr) (nc : Nat) (rs : List Rec), O = [rowI nb nc 48 1 (vals rs), oI z2 25 [(vI 0), (vI 0), nS, nS], oI z1 25 (dC d j)] ∧ s ≤ 6 ∧ s ≤ d.next.length ∧ FewR w d s rs ∧ Heads [(0, (dV d j)), (1, (.pointer (aD z1))), (2, (.pointer (aD z2))), (3, (.slice nb s nc)), (4, vI ((s : Nat) : Int))] ρ) (fun s => 6 - s) 0 ?_ ?_
 ·exact ⟨none, 0, [], rfl, Nat.zero_le _, Nat.zero_le _, FewR.zero w d, (.of rfl)⟩
 rintro s ρ O ⟨nb, nc, rs, rfl, hs6, hsn, hF, hH⟩
 obtain ⟨ρ0, rfl⟩ := hH.elim
 clear hH
 have hrl := hF.len hsn
 refine T.s (T.s (T.rg (TO.qm rfl (TO.q (q_fa uT25 rfl inf22 rfl rfl) (TO.q (q_lb 2 uT22 rfl rfl rfl rfl) (TO.q (q_len uT22 rfl) (TO.q (q_lss rfl rfl) ?_)))))))
 by_cases hs10 : ((s : Nat) : Int) < (d.next.length : Int)
 ·refine TO.q (QT.toB (q_move rfl) (decide_eq_true hs10)) ?_
  refine TO.gq rfl rfl (q_move rfl) (TO.gq rfl rfl (q_lss rfl rfl) (TO.q (q_pick1 rfl rfl) (TO.nl (T.condP rfl (fun hc => ?_) (fun hc => ?_)))))
  ·have hlt13 : s < 6 := by omega
   refine T.skip (T.s (T.block ?_))
   refine T.draws [oI z2 25 [(vI 0), (vI 0), nS, nS], oI z1 25 (dC d j)] [(0, 0), (1, 0), (2, 0), (3, 0), (4, 0), (5, 0), (6, 0), (7, 0), (8, 0), (9, 0), (10, 0), (11, 0), (12, 0), (13, 0), (14, 1), (15, 2), (16, 2)] mixed (drawF_ok (by kernel_rfl)) (by exact Sub.d (.k (.k .z))) (fun _ _ _ h => h) ?_
   refine DO.q rfl (q_move rfl) (DO.q rfl (q_fa uT25 rfl inf22 rfl rfl) (DO.q rfl (q_lb 1 uT22 rfl rfl rfl rfl) (DO.q rfl (q_move rfl) ?_)))
   have hs9 : s < d.next.length := by omega
   obtain ⟨v1, c1, g1, s1⟩ := hd.rows.get hs9
   have hr9 := bd.2.1 _ (List.getElem_mem hs9)
   have hcp := hc9.r _ _ _ _ g1
   refine DO.q rfl (q_ix (i := s) uT22 inf48 rfl rfl (Sl.o hd.outer) hs9 (hd1 ▸ hs9)) (DO.q rfl (q_ld uT48 rfl rfl (Sl.o hd.outer) g1) (DO.q rfl (q_fa uT25 rfl inf22 rfl rfl) (DO.q rfl (q_lb 1 uT22 rfl rfl rfl rfl) (DO.q rfl (q_move rfl) (DO.q rfl (q_ix (i := s) uT22 inf48 rfl rfl (Sl.o hd.outer) hs9 (hd1 ▸ hs9)) (DO.q rfl (q_ld uT48 rfl rfl (Sl.o hd.outer) g1) (DO.q rfl (q_len uT48 rfl) (DO.q rfl (q_minN (a := d.next[s].length) (b := 65) rfl rfl) (DO.q rfl (q_sliceTo (hi := (min d.next[s].length 65)) uT48 inf3 rfl rfl (by omega)) ?_)))))))))
   refine DO.loud rfl rfl (l_build1 (v := (.slice v1 (min d.next[s].length 65) c1)) uT22 inf48 rfl rfl rfl (fun z3 => ⟨by exact Sub.d (.d (.k (.k .z))), ?_⟩))
   refine DO.last rfl rfl (l_append 1 uT22 uT22 inf48 rfl rfl rfl rfl (by rw [List.length_map]; omega) (by decide) (Src.row (j := 0) rfl (by simp)) (by simp [oneB]) (by omega) (by decide) (by decide) (fun z4 zc5 => ?_))
   refine DO.last rfl rfl (LT.oq rfl rfl (q_assign rfl) ?_)
   refine DO.done ?_
   refine T.rg (TO.qm rfl (TO.q (q_addN (a := s) (b := 1) rfl rfl (by omega)) (TO.qa rfl (TO.nl ?_))))
   have hvq : vals (rs ++ [⟨v1, c1, d.next[s].take 65⟩]) = vals rs ++ [.slice v1 (min d.next[s].length 65) c1] := by simp [Rec.val, Nat.min_comm]
   exact ⟨s + 1, by omega, [rowI z4 zc5 48 1 ((vals rs) ++ [(.slice v1 (min d.next[s].length 65) c1)]), oI z2 25 [(vI 0), (vI 0), nS, nS], oI z1 25 (dC d j)], (by exact Sub.d (.k (.k (.k .z)))), z4, zc5, rs ++ [⟨v1, c1, d.next[s].take 65⟩], by rw [hvq], by omega, by omega, hF.step hs9 s1, (.of rfl)⟩
  have hge13 : ¬ s < 6 := by omega
  refine T.exit ?_
  refine T.s (T.rg (TO.qm rfl (TO.q (q_fa uT25 rfl inf22 rfl rfl) (TO.l rfl (l_sb (v := (.slice nb s nc)) (vs := [(.slice nb s nc)]) 2 inf22 rfl rfl rfl rfl rfl rfl (by simp [putL]) ?_)))))
  refine TO.nl (T.s (T.rg (TO.q (q_fa uT25 rfl inf23 rfl rfl) (TO.q (q_lb 2 uT23 rfl rfl rfl rfl) (TO.q (q_fa uT25 rfl inf23 rfl rfl) (TO.q (q_lb 2 uT23 rfl rfl rfl rfl) (TO.q (q_len uT23 rfl) (TO.q (q_minN (a := d.final.length) (b := 6) rfl rfl) (TO.q (q_sliceTo (hi := (min d.final.length 6)) uT23 inf4 rfl rfl (by omega)) (TO.q (q_fa uT25 rfl inf23 rfl rfl) (TO.l rfl (l_sb (v := (.slice j.fb (min d.final.length 6) j.fc)) (vs := [(.slice j.fb (min d.final.length 6) j.fc)]) 2 inf23 rfl rfl rfl rfl rfl rfl (by simp [putL]) ?_))))))))))))
  refine TO.nl (T.s ?_)
  have hse : s = min 6 d.next.length := by omega
  have e1 : nums rs = X.next := by rw [← hX, hF.xs, few_next hse]
  have e3 : X.vars = d.vars := by rw [← hX]; rfl
  have e4 : X.start = d.start := by rw [← hX]; rfl
  have e5 : X.next.length = s := by rw [← e1, ← hrl]; simp
  have e7 : d.final.take 6 = X.final := by rw [← hX]; rfl
  have e6 : X.final.length = min d.final.length 6 := by rw [← e7]; simp [Nat.min_comm]
  have bX : X.next.length ≤ 6 ∧ (∀ r ∈ X.next, r.length ≤ 65) ∧ X.final.length ≤ 6 := by rw [← hX]; exact ⟨few_len d, few_row d, few_fin d⟩
  obtain ⟨z9, hz9⟩ : ∃ z : DK, z = ⟨nb, nc, j.fb, j.fc, rs⟩ := ⟨_, rfl⟩
  have hAX : ∀ (w1 : World) (O : List Lx.Item), Inv w O w1 → rowI z9.nb z9.nc 48 1 (vals z9.qs) ∈ O → At w1 X z9 := fun w1 O hI hm => by
   subst hz9
   refine ⟨hI.slOf hm, hF.rows hI.below.block e1, ?_⟩
   have h9 := (hI.sl hd.final).pre 6
   rw [← List.map_take, e7] at h9
   exact h9
  refine T.sub (O' := [rowI z9.nb z9.nc 48 1 (vals z9.qs), oI z1 25 (dC X z9), oI z2 25 [(vI 0), (vI 0), nS, nS]]) (by subst hz9; unfold dC dfaCells; rw [e3, e4, e5, e6]; exact Sub.k (.pull [oI z2 25 [(vI 0), (vI 0), nS, nS]] _ (.k .z))) ?_
  refine T.rg (TO.q (q_la 1 uT25 rfl inf25 rfl rfl rfl) (TO.l rfl (l_call ent32 (CallT.op fun w1 hI => (haveI := tbz hI; copyK w1 X z9 (hAX w1 _ hI (mG 0 rfl)) (by omega) (fun r hr => by have := bX.2.1 r hr; omega) (by omega))) rfl ?_)))
  rintro vr O' ⟨N, rfl, k', rfl, rfl⟩
  refine TO.l rfl (l_sb (v := (dV X k')) (vs := (dC X k')) 3 inf25 rfl rfl rfl rfl rfl rfl (by simp [putL]) ?_)
  refine TO.nl (T.ret (Res.drop ?_))
  refine Res.cell1 (i := 3) Tryz.results6 uT25 rfl inf25 rfl rfl rfl ?_
  exact ⟨[dI 48 4 3 X k'], (by exact Sub.k .z), k', rfl, rfl⟩
 refine TO.q (QT.toB (q_move rfl) (decide_eq_false hs10)) (TO.pd rfl rfl (TO.pd rfl rfl (TO.q (q_pick0 rfl rfl) (TO.nl (T.cond0 rfl ?_)))))
 refine T.exit ?_
 refine T.s (T.rg (TO.qm rfl (TO.q (q_fa uT25 rfl inf22 rfl rfl) (TO.l rfl (l_sb (v := (.slice nb s nc)) (vs := [(.slice nb s nc)]) 2 inf22 rfl rfl rfl rfl rfl rfl (by simp [putL]) ?_)))))
 refine TO.nl (T.s (T.rg (TO.q (q_fa uT25 rfl inf23 rfl rfl) (TO.q (q_lb 2 uT23 rfl rfl rfl rfl) (TO.q (q_fa uT25 rfl inf23 rfl rfl) (TO.q (q_lb 2 uT23 rfl rfl rfl rfl) (TO.q (q_len uT23 rfl) (TO.q (q_minN (a := d.final.length) (b := 6) rfl rfl) (TO.q (q_sliceTo (hi := (min d.final.length 6)) uT23 inf4 rfl rfl (by omega)) (TO.q (q_fa uT25 rfl inf23 rfl rfl) (TO.l rfl (l_sb (v := (.slice j.fb (min d.final.length 6) j.fc)) (vs := [(.slice j.fb (min d.final.length 6) j.fc)]) 2 inf23 rfl rfl rfl rfl rfl rfl (by simp [putL]) ?_))))))))))))
 refine TO.nl (T.s ?_)
 have hse : s = min 6 d.next.length := by omega
 have e1 : nums rs = X.next := by rw [← hX, hF.xs, few_next hse]
 have e3 : X.vars = d.vars := by rw [← hX]; rfl
 have e4 : X.start = d.start := by rw [← hX]; rfl
 have e5 : X.next.length = s := by rw [← e1, ← hrl]; simp
 have e7 : d.final.take 6 = X.final := by rw [← hX]; rfl
 have e6 : X.final.length = min d.final.length 6 := by rw [← e7]; simp [Nat.min_comm]
 have bX : X.next.length ≤ 6 ∧ (∀ r ∈ X.next, r.length ≤ 65) ∧ X.final.length ≤ 6 := by rw [← hX]; exact ⟨few_len d, few_row d, few_fin d⟩
 obtain ⟨z9, hz9⟩ : ∃ z : DK, z = ⟨nb, nc, j.fb, j.fc, rs⟩ := ⟨_, rfl⟩
 have hAX : ∀ (w1 : World) (O : List Lx.Item), Inv w O w1 → rowI z9.nb z9.nc 48 1 (vals z9.qs) ∈ O → At w1 X z9 := fun w1 O hI hm => by
  subst hz9
  refine ⟨hI.slOf hm, hF.rows hI.below.block e1, ?_⟩
  have h9 := (hI.sl hd.final).pre 6
  rw [← List.map_take, e7] at h9
  exact h9
 refine T.sub (O' := [rowI z9.nb z9.nc 48 1 (vals z9.qs), oI z1 25 (dC X z9), oI z2 25 [(vI 0), (vI 0), nS, nS]]) (by subst hz9; unfold dC dfaCells; rw [e3, e4, e5, e6]; exact Sub.k (.pull [oI z2 25 [(vI 0), (vI 0), nS, nS]] _ (.k .z))) ?_
 refine T.rg (TO.q (q_la 1 uT25 rfl inf25 rfl rfl rfl) (TO.l rfl (l_call ent32 (CallT.op fun w1 hI => (haveI := tbz hI; copyK w1 X z9 (hAX w1 _ hI (mG 0 rfl)) (by omega) (fun r hr => by have := bX.2.1 r hr; omega) (by omega))) rfl ?_)))
 rintro vr O' ⟨N, rfl, k', rfl, rfl⟩
 refine TO.l rfl (l_sb (v := (dV X k')) (vs := (dC X k')) 3 inf25 rfl rfl rfl rfl rfl rfl (by simp [putL]) ?_)
 refine TO.nl (T.ret (Res.drop ?_))
 refine Res.cell1 (i := 3) Tryz.results6 uT25 rfl inf25 rfl rfl rfl ?_
 exact ⟨[dI 48 4 3 X k'], (by exact Sub.k .z), k', rfl, rfl⟩
theorem pairK (w : World) [Tab Tryz.prog w] (a g : DFA) (j k : DK) (ha : At w a j) (hg : At w g k) (ca : CapD a j) (cg : CapD g k) (ba : a.next.length < 9223372036854775807 ∧ (∀ r ∈ a.next, r.length < 9223372036854775807) ∧ a.final.length < 9223372036854775807) (bg : g.next.length < 9223372036854775807 ∧ (∀ r ∈ g.next, r.length < 9223372036854775807) ∧ g.final.length < 9223372036854775807) {X Y : DFA} (hX : fewD a = X) (hY : fewD g = Y) :
  PureT Tryz.prog 7 [cV a g j k] w fun v N => ∃ k1 k2 : DK, v = cV X Y k1 k2 ∧ N = [dI 48 4 3 X k1, dI 48 4 3 Y k2] := by
 refine CallT.enter func7 rfl ntmps7 rfl ?_
 refine T.s (T.rg (TO.l rfl (l_box (v := (cV a g j k)) (cs := (cC a g j k)) rfl rfl (fun z1 => ?_))))
 refine TO.l rfl (l_alloc inf27 rfl (fun z2 => ?_))
 refine TO.nl (T.s ?_)
 refine T.draws [oI z1 27 (cC a g j k)] [(0, 0), (1, 0), (3, 0), (4, 0), (2, 1), (5, 2), (6, 2), (7, 2)] mixed (by kernel_rfl) (by exact Sub.d (.k .z)) (fun _ _ _ h => h) ?_
 refine DO.q rfl (q_fa uT27 rfl inf25 rfl rfl) (DO.q rfl (q_load_part 0 (vs := (dC a j)) uT25 rfl inf25 rfl rfl rfl rfl) (DO.q rfl (q_fa uT27 rfl inf25 rfl rfl) (DO.q rfl (q_load_part 0 (vs := (dC g k)) uT25 rfl inf25 rfl rfl rfl rfl) ?_)))
 refine DO.loud rfl rfl (l_call ent6 (CallT.op fun w1 hI => (haveI := tbz hI; fewK w1 a j (hI.atB ha) ca ba hX)) rfl ?_)
 rintro vr O' ⟨N, rfl, k1, rfl, rfl⟩
 refine ⟨by exact Sub.d (.d (.k .z)), ?_⟩
 refine DO.last rfl rfl (l_call ent6 (CallT.op fun w1 hI => (haveI := tbz hI; fewK w1 g k (hI.atB hg) cg bg hY)) rfl ?_)
 rintro vr O' ⟨N, rfl, k2, rfl, rfl⟩
 refine DO.last rfl rfl (LT.oq rfl rfl (q_build (cs := (cC X Y k1 k2)) plan27 inf27 (by kernel_rfl)) ?_)
 refine DO.last rfl rfl (l_sb (v := (cV X Y k1 k2)) (vs := (cC X Y k1 k2)) 2 inf27 rfl rfl rfl rfl rfl rfl (by simp [putL]) ?_)
 refine DO.done ?_
 refine T.ret (Res.drop ?_)
 refine Res.cell1 (i := 2) Tryz.results7 uT27 rfl inf27 rfl rfl rfl ?_
 exact ⟨[dI 48 4 3 X k1, dI 48 4 3 Y k2], (by exact Sub.pull [dI 48 4 3 Y k2] _ (.k .z)), k1, k2, rfl, rfl⟩
theorem overC (base : World) [Tab Tryz.prog base] (a g : DFA) (j k : DK) (ba : a.next.length < 9223372036854775807 ∧ (∀ r ∈ a.next, r.length < 9223372036854775807) ∧ a.final.length < 9223372036854775807) (bg : g.next.length < 9223372036854775807 ∧ (∀ r ∈ g.next, r.length < 9223372036854775807) ∧ g.final.length < 9223372036854775807) :
  CallT Tryz.prog base 17 [cV a g j k] [dI 48 4 3 a j, dI 48 4 3 g k] (fun _ O' => O' = []) := by
 refine CallT.enter func17 rfl ntmps17 rfl ?_
 refine T.s (T.rg (TO.l rfl (l_box (v := (cV a g j k)) (cs := (cC a g j k)) rfl rfl (fun z1 => ?_))))
 refine TO.nl (T.s (T.rg (TO.q (q_fa uT27 rfl inf25 rfl rfl) (TO.q (q_load_part 0 (vs := (dC a j)) uT25 rfl inf25 rfl rfl rfl rfl) ?_))))
 have hk4 := CallT.under (B := [oI z1 27 (cC a g j k), dI 48 4 3 g k]) (O := [oI z1 27 (cC a g j k), dI 48 4 3 a j, dI 48 4 3 g k]) (overK base a j ba.1 ba.2.1 ba.2.2) (by exact Sub.pull [oI z1 27 (cC a g j k)] _ (.k (.k .z)))
 refine TO.l rfl (l_call ent51 hk4 rfl ?_)
 clear hk4
 rintro vr O' ⟨A1, rfl, rfl⟩
 refine TO.nl (T.rg (TO.q (q_fa uT27 rfl inf25 rfl rfl) (TO.q (q_load_part 0 (vs := (dC g k)) uT25 rfl inf25 rfl rfl rfl rfl) ?_)))
 have hk7 := CallT.under (B := [oI z1 27 (cC a g j k)]) (O := [oI z1 27 (cC a g j k), dI 48 4 3 g k]) (overK base g k bg.1 bg.2.1 bg.2.2) (by exact Sub.pull [oI z1 27 (cC a g j k)] _ (.k .z))
 refine TO.l rfl (l_call ent51 hk7 rfl ?_)
 clear hk7
 rintro vr O' ⟨A1, rfl, rfl⟩
 refine TO.nl (Res.drop ?_)
 refine Res.zero Tryz.results17 ?_
 exact ⟨[], Sub.z, rfl⟩
theorem satU (w : World) [Tab Tryz.prog w] (a b : DFA) (j1 j2 : DK) (hj1 : At w a j1) (hj2 : At w b j2) (ba : a.next.length < 9223372036854775807 ∧ (∀ r ∈ a.next, r.length < 9223372036854775807) ∧ a.final.length < 9223372036854775807) (bb : b.next.length < 9223372036854775807 ∧ (∀ r ∈ b.next, r.length < 9223372036854775807) ∧ b.final.length < 9223372036854775807) (la : a.next.length ≤ 6) (lb : b.next.length ≤ 6) {P Q : DFA} {e : Nat} (hE : cE a b = e) (h0 : e = 0 → minD a = P ∧ satD a b = Q) (h1 : e ≠ 0 → P = noD ∧ Q = noD) :
  PureT Tryz.prog 10 [cV a b j1 j2] w fun v N => ∃ k1 k2 : DK, v = .tuple #[cV P Q k1 k2, vI (e : Int)] ∧ N = [dI 48 4 3 P k1, dI 48 4 3 Q k2] := by
 by_cases he : e = 0
 ·obtain ⟨va, vb, hv⟩ := cE_zero.1 (hE.trans he)
  obtain ⟨z, z1, z2, z3, z4⟩ := small_z (v := a.vars) (l := [a, b]) (fun x hx => by
   simp only [List.mem_cons, List.not_mem_nil, or_false] at hx
   rcases hx with rfl | rfl
   ·exact ⟨va, rfl, la⟩
   ·exact ⟨vb, hv.symm, lb⟩) (by simp) (by simp)
  obtain ⟨rfl, rfl⟩ := h0 he
  subst he
  exact satC w z1 (z4 a (by simp)) (z4 b (by simp)) j1 j2 hj1 hj2
 ·obtain ⟨rfl, rfl⟩ := h1 he
  refine (CallT.nilD 48 4 3 (CallT.nilD 48 4 3 (satBad w a b j1 j2 hj1 hj2 ba bb hE he))).mono ?_
  rintro v N ⟨O2, rfl, O3, rfl, rfl, rfl⟩
  exact ⟨k00, k00, rfl, rfl⟩
theorem rSatU (w : World) [Tab Tryz.prog w] (a b : DFA) (j1 j2 : DK) (hj1 : At w a j1) (hj2 : At w b j2) (ba : a.next.length < 9223372036854775807 ∧ (∀ r ∈ a.next, r.length < 9223372036854775807) ∧ a.final.length < 9223372036854775807) (bb : b.next.length < 9223372036854775807 ∧ (∀ r ∈ b.next, r.length < 9223372036854775807) ∧ b.final.length < 9223372036854775807) (la : a.next.length ≤ 6) (lb : b.next.length ≤ 6) {P Q : DFA} {e : Nat} (hE : cE a b = e) (h0 : e = 0 → minD a = P ∧ satD a b = Q) (h1 : e ≠ 0 → P = noD ∧ Q = noD) :
  PureT Tryz.prog 11 [cV a b j1 j2] w fun v N => ∃ k1 k2 : DK, v = .tuple #[cV P Q k1 k2, vI (e : Int)] ∧ N = [dI 48 4 3 P k1, dI 48 4 3 Q k2] := by
 by_cases he : e = 0
 ·obtain ⟨va, vb, hv⟩ := cE_zero.1 (hE.trans he)
  obtain ⟨z, z1, z2, z3, z4⟩ := small_z (v := a.vars) (l := [a, b]) (fun x hx => by
   simp only [List.mem_cons, List.not_mem_nil, or_false] at hx
   rcases hx with rfl | rfl
   ·exact ⟨va, rfl, la⟩
   ·exact ⟨vb, hv.symm, lb⟩) (by simp) (by simp)
  obtain ⟨rfl, rfl⟩ := h0 he
  subst he
  exact rSatC w z1 (z4 a (by simp)) (z4 b (by simp)) j1 j2 hj1 hj2
 ·obtain ⟨rfl, rfl⟩ := h1 he
  refine (CallT.nilD 48 4 3 (CallT.nilD 48 4 3 (rSatBad w a b j1 j2 hj1 hj2 ba bb hE he))).mono ?_
  rintro v N ⟨O2, rfl, O3, rfl, rfl, rfl⟩
  exact ⟨k00, k00, rfl, rfl⟩
theorem implU (w : World) [Tab Tryz.prog w] (x a g : DFA) (i j k : DK) (hi : At w x i) (hj : At w a j) (hk : At w g k) (bx : x.next.length < 9223372036854775807 ∧ (∀ r ∈ x.next, r.length < 9223372036854775807) ∧ x.final.length < 9223372036854775807) (ba : a.next.length < 9223372036854775807 ∧ (∀ r ∈ a.next, r.length < 9223372036854775807) ∧ a.final.length < 9223372036854775807) (bg : g.next.length < 9223372036854775807 ∧ (∀ r ∈ g.next, r.length < 9223372036854775807) ∧ g.final.length < 9223372036854775807) (lx : x.next.length ≤ 6) (la : a.next.length ≤ 6) (lg : g.next.length ≤ 6) {r : Option (List Nat)} {b : Bool} {e : Nat} (hE : iE x a g = e) (h0 : e = 0 → LeastA (opD minusB (opD andB x a) g) r) (h1 : e ≠ 0 → r = none) (hb : b = (decide (e = 0) && !r.isSome)) :
  PureT Tryz.prog 12 [dV x i, cV a g j k] w fun v N => ∃ (wb : Option Addr) (wc : Nat), v = .tuple #[.slice wb (r.getD []).length wc, .bool b, vI (e : Int)] ∧ N = [rowI wb wc 5 1 (byts (r.getD []))] := by
 by_cases he : e = 0
 ·obtain ⟨vx, va, vg, hv1, hv2⟩ := iE_zero.1 (hE.trans he)
  obtain ⟨z, z1, z2, z3, z4⟩ := small_z (v := a.vars) (l := [x, a, g]) (fun x hx => by
   simp only [List.mem_cons, List.not_mem_nil, or_false] at hx
   rcases hx with rfl | rfl | rfl
   ·exact ⟨vx, hv1, lx⟩
   ·exact ⟨va, rfl, la⟩
   ·exact ⟨vg, hv2.symm, lg⟩) (by simp) (by simp)
  have hL0 := h0 he
  subst he
  have hm := (InL.op (f := minusB) z1 (InL.op (f := andB) z1 (z4 x (by simp)) (z4 a (by simp))).2 (z4 g (by simp))).1
  refine (implC w z1 (z4 x (by simp)) (z4 a (by simp)) (z4 g (by simp)) i j k hi hj hk).mono ?_
  rintro v N ⟨res, wb, wc, hL, rfl, rfl⟩
  obtain rfl : res = r := hL.unique hm.toHasL.valid hL0
  exact ⟨wb, wc, by rw [hb]; rfl, rfl⟩
 ·obtain rfl := h1 he
  refine (CallT.nilOr 5 1 (implBad w x a g i j k hi hj hk bx ba bg hE he)).mono ?_
  rintro v N ⟨O2, hN, rfl, rfl⟩
  refine ⟨none, 0, ?_, hN.2 rfl⟩
  rw [hb, decide_eq_false he]; rfl
theorem rImplU (w : World) [Tab Tryz.prog w] (x a g : DFA) (i j k : DK) (hi : At w x i) (hj : At w a j) (hk : At w g k) (bx : x.next.length < 9223372036854775807 ∧ (∀ r ∈ x.next, r.length < 9223372036854775807) ∧ x.final.length < 9223372036854775807) (ba : a.next.length < 9223372036854775807 ∧ (∀ r ∈ a.next, r.length < 9223372036854775807) ∧ a.final.length < 9223372036854775807) (bg : g.next.length < 9223372036854775807 ∧ (∀ r ∈ g.next, r.length < 9223372036854775807) ∧ g.final.length < 9223372036854775807) (lx : x.next.length ≤ 6) (la : a.next.length ≤ 6) (lg : g.next.length ≤ 6) {r : Option (List Nat)} {b : Bool} {e : Nat} (hE : iE x a g = e) (h0 : e = 0 → LeastA (opD minusB (opD andB x a) g) r) (h1 : e ≠ 0 → r = none) (hb : b = (decide (e = 0) && !r.isSome)) :
  PureT Tryz.prog 13 [dV x i, cV a g j k] w fun v N => ∃ (wb : Option Addr) (wc : Nat), v = .tuple #[.slice wb (r.getD []).length wc, .bool b, vI (e : Int)] ∧ N = [rowI wb wc 5 1 (byts (r.getD []))] := by
 by_cases he : e = 0
 ·obtain ⟨vx, va, vg, hv1, hv2⟩ := iE_zero.1 (hE.trans he)
  obtain ⟨z, z1, z2, z3, z4⟩ := small_z (v := a.vars) (l := [x, a, g]) (fun x hx => by
   simp only [List.mem_cons, List.not_mem_nil, or_false] at hx
   rcases hx with rfl | rfl | rfl
   ·exact ⟨vx, hv1, lx⟩
   ·exact ⟨va, rfl, la⟩
   ·exact ⟨vg, hv2.symm, lg⟩) (by simp) (by simp)
  have hL0 := h0 he
  subst he
  have hm := (InL.op (f := minusB) z1 (InL.op (f := andB) z1 (z4 x (by simp)) (z4 a (by simp))).2 (z4 g (by simp))).1
  refine (rImplC w z1 (z4 x (by simp)) (z4 a (by simp)) (z4 g (by simp)) i j k hi hj hk).mono ?_
  rintro v N ⟨res, wb, wc, hL, rfl, rfl⟩
  obtain rfl : res = r := hL.unique hm.toHasL.valid hL0
  exact ⟨wb, wc, by rw [hb]; rfl, rfl⟩
 ·obtain rfl := h1 he
  refine (CallT.nilOr 5 1 (rImplBad w x a g i j k hi hj hk bx ba bg hE he)).mono ?_
  rintro v N ⟨O2, hN, rfl, rfl⟩
  refine ⟨none, 0, ?_, hN.2 rfl⟩
  rw [hb, decide_eq_false he]; rfl
theorem refU (w : World) [Tab Tryz.prog w] (a b c d : DFA) (j1 j2 j3 j4 : DK) (hj1 : At w a j1) (hj2 : At w b j2) (hj3 : At w c j3) (hj4 : At w d j4) (ba : a.next.length < 9223372036854775807 ∧ (∀ r ∈ a.next, r.length < 9223372036854775807) ∧ a.final.length < 9223372036854775807) (bb : b.next.length < 9223372036854775807 ∧ (∀ r ∈ b.next, r.length < 9223372036854775807) ∧ b.final.length < 9223372036854775807) (bc : c.next.length < 9223372036854775807 ∧ (∀ r ∈ c.next, r.length < 9223372036854775807) ∧ c.final.length < 9223372036854775807) (bd : d.next.length < 9223372036854775807 ∧ (∀ r ∈ d.next, r.length < 9223372036854775807) ∧ d.final.length < 9223372036854775807) (la : a.next.length ≤ 6) (lb : b.next.length ≤ 6) (lc : c.next.length ≤ 6) (ld : d.next.length ≤ 6) {r : Option (List Nat)} {b9 : Bool} {e : Nat} (hE : bE a b c d = e) (h0 : e = 0 → LeastA (opD orB (opD minusB c a) (opD minusB (satD a b) (satD c d))) r) (h1 : e ≠ 0 → r = none) (hb : b9 = (decide (e = 0) && !r.isSome)) :
  PureT Tryz.prog 20 [cV a b j1 j2, cV c d j3 j4] w fun v N => ∃ (wb : Option Addr) (wc : Nat), v = .tuple #[.slice wb (r.getD []).length wc, .bool b9, vI (e : Int)] ∧ N = [rowI wb wc 5 1 (byts (r.getD []))] := by
 by_cases he : e = 0
 ·obtain ⟨⟨va, vb, hv1⟩, ⟨vc, vd, hv2⟩, hv3⟩ := bE_zero.1 (hE.trans he)
  obtain ⟨z, z1, z2, z3, z4⟩ := small_z (v := a.vars) (l := [a, b, c, d]) (fun x hx => by
   simp only [List.mem_cons, List.not_mem_nil, or_false] at hx
   rcases hx with rfl | rfl | rfl | rfl
   ·exact ⟨va, rfl, la⟩
   ·exact ⟨vb, hv1.symm, lb⟩
   ·exact ⟨vc, hv3.symm, lc⟩
   ·exact ⟨vd, by rw [← hv2, hv3], ld⟩) (by simp) (by simp)
  have hL0 := h0 he
  subst he
  have hm := (InL.op (f := orB) z1 (InL.op (f := minusB) z1 (z4 c (by simp)) (z4 a (by simp))).2 (InL.op (f := minusB) z1 (InL.sat z1 (z4 a (by simp)) (z4 b (by simp))).2 (InL.sat z1 (z4 c (by simp)) (z4 d (by simp))).2).2).1
  refine (refC w z1 (z4 a (by simp)) (z4 b (by simp)) (z4 c (by simp)) (z4 d (by simp)) j1 j2 j3 j4 hj1 hj2 hj3 hj4).mono ?_
  rintro v N ⟨res, wb, wc, hL, rfl, rfl⟩
  obtain rfl : res = r := hL.unique hm.toHasL.valid hL0
  exact ⟨wb, wc, by rw [hb]; rfl, rfl⟩
 ·obtain rfl := h1 he
  refine (CallT.nilOr 5 1 (refBad w a b c d j1 j2 j3 j4 hj1 hj2 hj3 hj4 ba bb bc bd hE he)).mono ?_
  rintro v N ⟨O2, hN, rfl, rfl⟩
  refine ⟨none, 0, ?_, hN.2 rfl⟩
  rw [hb, decide_eq_false he]; rfl
theorem rRefU (w : World) [Tab Tryz.prog w] (a b c d : DFA) (j1 j2 j3 j4 : DK) (hj1 : At w a j1) (hj2 : At w b j2) (hj3 : At w c j3) (hj4 : At w d j4) (ba : a.next.length < 9223372036854775807 ∧ (∀ r ∈ a.next, r.length < 9223372036854775807) ∧ a.final.length < 9223372036854775807) (bb : b.next.length < 9223372036854775807 ∧ (∀ r ∈ b.next, r.length < 9223372036854775807) ∧ b.final.length < 9223372036854775807) (bc : c.next.length < 9223372036854775807 ∧ (∀ r ∈ c.next, r.length < 9223372036854775807) ∧ c.final.length < 9223372036854775807) (bd : d.next.length < 9223372036854775807 ∧ (∀ r ∈ d.next, r.length < 9223372036854775807) ∧ d.final.length < 9223372036854775807) (la : a.next.length ≤ 6) (lb : b.next.length ≤ 6) (lc : c.next.length ≤ 6) (ld : d.next.length ≤ 6) {r : Option (List Nat)} {b9 : Bool} {e : Nat} (hE : bE a b c d = e) (h0 : e = 0 → LeastA (opD orB (opD minusB c a) (opD minusB (satD a b) (satD c d))) r) (h1 : e ≠ 0 → r = none) (hb : b9 = (decide (e = 0) && !r.isSome)) :
  PureT Tryz.prog 21 [cV a b j1 j2, cV c d j3 j4] w fun v N => ∃ (wb : Option Addr) (wc : Nat), v = .tuple #[.slice wb (r.getD []).length wc, .bool b9, vI (e : Int)] ∧ N = [rowI wb wc 5 1 (byts (r.getD []))] := by
 by_cases he : e = 0
 ·obtain ⟨⟨va, vb, hv1⟩, ⟨vc, vd, hv2⟩, hv3⟩ := bE_zero.1 (hE.trans he)
  obtain ⟨z, z1, z2, z3, z4⟩ := small_z (v := a.vars) (l := [a, b, c, d]) (fun x hx => by
   simp only [List.mem_cons, List.not_mem_nil, or_false] at hx
   rcases hx with rfl | rfl | rfl | rfl
   ·exact ⟨va, rfl, la⟩
   ·exact ⟨vb, hv1.symm, lb⟩
   ·exact ⟨vc, hv3.symm, lc⟩
   ·exact ⟨vd, by rw [← hv2, hv3], ld⟩) (by simp) (by simp)
  have hL0 := h0 he
  subst he
  have hm := (InL.op (f := orB) z1 (InL.op (f := minusB) z1 (z4 c (by simp)) (z4 a (by simp))).2 (InL.op (f := minusB) z1 (InL.sat z1 (z4 a (by simp)) (z4 b (by simp))).2 (InL.sat z1 (z4 c (by simp)) (z4 d (by simp))).2).2).1
  refine (rRefC w z1 (z4 a (by simp)) (z4 b (by simp)) (z4 c (by simp)) (z4 d (by simp)) j1 j2 j3 j4 hj1 hj2 hj3 hj4).mono ?_
  rintro v N ⟨res, wb, wc, hL, rfl, rfl⟩
  obtain rfl : res = r := hL.unique hm.toHasL.valid hL0
  exact ⟨wb, wc, by rw [hb]; rfl, rfl⟩
 ·obtain rfl := h1 he
  refine (CallT.nilOr 5 1 (rRefBad w a b c d j1 j2 j3 j4 hj1 hj2 hj3 hj4 ba bb bc bd hE he)).mono ?_
  rintro v N ⟨O2, hN, rfl, rfl⟩
  refine ⟨none, 0, ?_, hN.2 rfl⟩
  rw [hb, decide_eq_false he]; rfl
theorem meetU (w : World) [Tab Tryz.prog w] (a b c d : DFA) (j1 j2 j3 j4 : DK) (hj1 : At w a j1) (hj2 : At w b j2) (hj3 : At w c j3) (hj4 : At w d j4) (ba : a.next.length < 9223372036854775807 ∧ (∀ r ∈ a.next, r.length < 9223372036854775807) ∧ a.final.length < 9223372036854775807) (bb : b.next.length < 9223372036854775807 ∧ (∀ r ∈ b.next, r.length < 9223372036854775807) ∧ b.final.length < 9223372036854775807) (bc : c.next.length < 9223372036854775807 ∧ (∀ r ∈ c.next, r.length < 9223372036854775807) ∧ c.final.length < 9223372036854775807) (bd : d.next.length < 9223372036854775807 ∧ (∀ r ∈ d.next, r.length < 9223372036854775807) ∧ d.final.length < 9223372036854775807) (la : a.next.length ≤ 6) (lb : b.next.length ≤ 6) (lc : c.next.length ≤ 6) (ld : d.next.length ≤ 6) {P Q : DFA} {e : Nat} (hE : bE a b c d = e) (h0 : e = 0 → opD orB a c = P ∧ opD andB (satD a b) (satD c d) = Q) (h1 : e ≠ 0 → P = noD ∧ Q = noD) :
  PureT Tryz.prog 22 [cV a b j1 j2, cV c d j3 j4] w fun v N => ∃ k1 k2 : DK, v = .tuple #[cV P Q k1 k2, vI (e : Int)] ∧ N = [dI 48 4 3 P k1, dI 48 4 3 Q k2] := by
 by_cases he : e = 0
 ·obtain ⟨⟨va, vb, hv1⟩, ⟨vc, vd, hv2⟩, hv3⟩ := bE_zero.1 (hE.trans he)
  obtain ⟨z, z1, z2, z3, z4⟩ := small_z (v := a.vars) (l := [a, b, c, d]) (fun x hx => by
   simp only [List.mem_cons, List.not_mem_nil, or_false] at hx
   rcases hx with rfl | rfl | rfl | rfl
   ·exact ⟨va, rfl, la⟩
   ·exact ⟨vb, hv1.symm, lb⟩
   ·exact ⟨vc, hv3.symm, lc⟩
   ·exact ⟨vd, by rw [← hv2, hv3], ld⟩) (by simp) (by simp)
  obtain ⟨rfl, rfl⟩ := h0 he
  subst he
  exact meetC w z1 (z4 a (by simp)) (z4 b (by simp)) (z4 c (by simp)) (z4 d (by simp)) j1 j2 j3 j4 hj1 hj2 hj3 hj4
 ·obtain ⟨rfl, rfl⟩ := h1 he
  refine (CallT.nilD 48 4 3 (CallT.nilD 48 4 3 (meetBad w a b c d j1 j2 j3 j4 hj1 hj2 hj3 hj4 ba bb bc bd hE he))).mono ?_
  rintro v N ⟨O2, rfl, O3, rfl, rfl, rfl⟩
  exact ⟨k00, k00, rfl, rfl⟩
theorem rMeetU (w : World) [Tab Tryz.prog w] (a b c d : DFA) (j1 j2 j3 j4 : DK) (hj1 : At w a j1) (hj2 : At w b j2) (hj3 : At w c j3) (hj4 : At w d j4) (ba : a.next.length < 9223372036854775807 ∧ (∀ r ∈ a.next, r.length < 9223372036854775807) ∧ a.final.length < 9223372036854775807) (bb : b.next.length < 9223372036854775807 ∧ (∀ r ∈ b.next, r.length < 9223372036854775807) ∧ b.final.length < 9223372036854775807) (bc : c.next.length < 9223372036854775807 ∧ (∀ r ∈ c.next, r.length < 9223372036854775807) ∧ c.final.length < 9223372036854775807) (bd : d.next.length < 9223372036854775807 ∧ (∀ r ∈ d.next, r.length < 9223372036854775807) ∧ d.final.length < 9223372036854775807) (la : a.next.length ≤ 6) (lb : b.next.length ≤ 6) (lc : c.next.length ≤ 6) (ld : d.next.length ≤ 6) {P Q : DFA} {e : Nat} (hE : bE a b c d = e) (h0 : e = 0 → opD orB a c = P ∧ opD andB (satD a b) (satD c d) = Q) (h1 : e ≠ 0 → P = noD ∧ Q = noD) :
  PureT Tryz.prog 23 [cV a b j1 j2, cV c d j3 j4] w fun v N => ∃ k1 k2 : DK, v = .tuple #[cV P Q k1 k2, vI (e : Int)] ∧ N = [dI 48 4 3 P k1, dI 48 4 3 Q k2] := by
 by_cases he : e = 0
 ·obtain ⟨⟨va, vb, hv1⟩, ⟨vc, vd, hv2⟩, hv3⟩ := bE_zero.1 (hE.trans he)
  obtain ⟨z, z1, z2, z3, z4⟩ := small_z (v := a.vars) (l := [a, b, c, d]) (fun x hx => by
   simp only [List.mem_cons, List.not_mem_nil, or_false] at hx
   rcases hx with rfl | rfl | rfl | rfl
   ·exact ⟨va, rfl, la⟩
   ·exact ⟨vb, hv1.symm, lb⟩
   ·exact ⟨vc, hv3.symm, lc⟩
   ·exact ⟨vd, by rw [← hv2, hv3], ld⟩) (by simp) (by simp)
  obtain ⟨rfl, rfl⟩ := h0 he
  subst he
  exact rMeetC w z1 (z4 a (by simp)) (z4 b (by simp)) (z4 c (by simp)) (z4 d (by simp)) j1 j2 j3 j4 hj1 hj2 hj3 hj4
 ·obtain ⟨rfl, rfl⟩ := h1 he
  refine (CallT.nilD 48 4 3 (CallT.nilD 48 4 3 (rMeetBad w a b c d j1 j2 j3 j4 hj1 hj2 hj3 hj4 ba bb bc bd hE he))).mono ?_
  rintro v N ⟨O2, rfl, O3, rfl, rfl, rfl⟩
  exact ⟨k00, k00, rfl, rfl⟩
theorem joinU (w : World) [Tab Tryz.prog w] (a b c d : DFA) (j1 j2 j3 j4 : DK) (hj1 : At w a j1) (hj2 : At w b j2) (hj3 : At w c j3) (hj4 : At w d j4) (ba : a.next.length < 9223372036854775807 ∧ (∀ r ∈ a.next, r.length < 9223372036854775807) ∧ a.final.length < 9223372036854775807) (bb : b.next.length < 9223372036854775807 ∧ (∀ r ∈ b.next, r.length < 9223372036854775807) ∧ b.final.length < 9223372036854775807) (bc : c.next.length < 9223372036854775807 ∧ (∀ r ∈ c.next, r.length < 9223372036854775807) ∧ c.final.length < 9223372036854775807) (bd : d.next.length < 9223372036854775807 ∧ (∀ r ∈ d.next, r.length < 9223372036854775807) ∧ d.final.length < 9223372036854775807) (la : a.next.length ≤ 6) (lb : b.next.length ≤ 6) (lc : c.next.length ≤ 6) (ld : d.next.length ≤ 6) {P Q : DFA} {e : Nat} (hE : bE a b c d = e) (h0 : e = 0 → opD andB a c = P ∧ opD orB (satD a b) (satD c d) = Q) (h1 : e ≠ 0 → P = noD ∧ Q = noD) :
  PureT Tryz.prog 24 [cV a b j1 j2, cV c d j3 j4] w fun v N => ∃ k1 k2 : DK, v = .tuple #[cV P Q k1 k2, vI (e : Int)] ∧ N = [dI 48 4 3 P k1, dI 48 4 3 Q k2] := by
 by_cases he : e = 0
 ·obtain ⟨⟨va, vb, hv1⟩, ⟨vc, vd, hv2⟩, hv3⟩ := bE_zero.1 (hE.trans he)
  obtain ⟨z, z1, z2, z3, z4⟩ := small_z (v := a.vars) (l := [a, b, c, d]) (fun x hx => by
   simp only [List.mem_cons, List.not_mem_nil, or_false] at hx
   rcases hx with rfl | rfl | rfl | rfl
   ·exact ⟨va, rfl, la⟩
   ·exact ⟨vb, hv1.symm, lb⟩
   ·exact ⟨vc, hv3.symm, lc⟩
   ·exact ⟨vd, by rw [← hv2, hv3], ld⟩) (by simp) (by simp)
  obtain ⟨rfl, rfl⟩ := h0 he
  subst he
  exact joinC w z1 (z4 a (by simp)) (z4 b (by simp)) (z4 c (by simp)) (z4 d (by simp)) j1 j2 j3 j4 hj1 hj2 hj3 hj4
 ·obtain ⟨rfl, rfl⟩ := h1 he
  refine (CallT.nilD 48 4 3 (CallT.nilD 48 4 3 (joinBad w a b c d j1 j2 j3 j4 hj1 hj2 hj3 hj4 ba bb bc bd hE he))).mono ?_
  rintro v N ⟨O2, rfl, O3, rfl, rfl, rfl⟩
  exact ⟨k00, k00, rfl, rfl⟩
theorem rJoinU (w : World) [Tab Tryz.prog w] (a b c d : DFA) (j1 j2 j3 j4 : DK) (hj1 : At w a j1) (hj2 : At w b j2) (hj3 : At w c j3) (hj4 : At w d j4) (ba : a.next.length < 9223372036854775807 ∧ (∀ r ∈ a.next, r.length < 9223372036854775807) ∧ a.final.length < 9223372036854775807) (bb : b.next.length < 9223372036854775807 ∧ (∀ r ∈ b.next, r.length < 9223372036854775807) ∧ b.final.length < 9223372036854775807) (bc : c.next.length < 9223372036854775807 ∧ (∀ r ∈ c.next, r.length < 9223372036854775807) ∧ c.final.length < 9223372036854775807) (bd : d.next.length < 9223372036854775807 ∧ (∀ r ∈ d.next, r.length < 9223372036854775807) ∧ d.final.length < 9223372036854775807) (la : a.next.length ≤ 6) (lb : b.next.length ≤ 6) (lc : c.next.length ≤ 6) (ld : d.next.length ≤ 6) {P Q : DFA} {e : Nat} (hE : bE a b c d = e) (h0 : e = 0 → opD andB a c = P ∧ opD orB (satD a b) (satD c d) = Q) (h1 : e ≠ 0 → P = noD ∧ Q = noD) :
  PureT Tryz.prog 25 [cV a b j1 j2, cV c d j3 j4] w fun v N => ∃ k1 k2 : DK, v = .tuple #[cV P Q k1 k2, vI (e : Int)] ∧ N = [dI 48 4 3 P k1, dI 48 4 3 Q k2] := by
 by_cases he : e = 0
 ·obtain ⟨⟨va, vb, hv1⟩, ⟨vc, vd, hv2⟩, hv3⟩ := bE_zero.1 (hE.trans he)
  obtain ⟨z, z1, z2, z3, z4⟩ := small_z (v := a.vars) (l := [a, b, c, d]) (fun x hx => by
   simp only [List.mem_cons, List.not_mem_nil, or_false] at hx
   rcases hx with rfl | rfl | rfl | rfl
   ·exact ⟨va, rfl, la⟩
   ·exact ⟨vb, hv1.symm, lb⟩
   ·exact ⟨vc, hv3.symm, lc⟩
   ·exact ⟨vd, by rw [← hv2, hv3], ld⟩) (by simp) (by simp)
  obtain ⟨rfl, rfl⟩ := h0 he
  subst he
  exact rJoinC w z1 (z4 a (by simp)) (z4 b (by simp)) (z4 c (by simp)) (z4 d (by simp)) j1 j2 j3 j4 hj1 hj2 hj3 hj4
 ·obtain ⟨rfl, rfl⟩ := h1 he
  refine (CallT.nilD 48 4 3 (CallT.nilD 48 4 3 (rJoinBad w a b c d j1 j2 j3 j4 hj1 hj2 hj3 hj4 ba bb bc bd hE he))).mono ?_
  rintro v N ⟨O2, rfl, O3, rfl, rfl, rfl⟩
  exact ⟨k00, k00, rfl, rfl⟩
theorem compU (w : World) [Tab Tryz.prog w] (a b c d : DFA) (j1 j2 j3 j4 : DK) (hj1 : At w a j1) (hj2 : At w b j2) (hj3 : At w c j3) (hj4 : At w d j4) (ba : a.next.length < 9223372036854775807 ∧ (∀ r ∈ a.next, r.length < 9223372036854775807) ∧ a.final.length < 9223372036854775807) (bb : b.next.length < 9223372036854775807 ∧ (∀ r ∈ b.next, r.length < 9223372036854775807) ∧ b.final.length < 9223372036854775807) (bc : c.next.length < 9223372036854775807 ∧ (∀ r ∈ c.next, r.length < 9223372036854775807) ∧ c.final.length < 9223372036854775807) (bd : d.next.length < 9223372036854775807 ∧ (∀ r ∈ d.next, r.length < 9223372036854775807) ∧ d.final.length < 9223372036854775807) (la : a.next.length ≤ 6) (lb : b.next.length ≤ 6) (lc : c.next.length ≤ 6) (ld : d.next.length ≤ 6) {P Q : DFA} {e : Nat} (hE : bE a b c d = e) (h0 : e = 0 → opD orB (opD andB a c) (notD (opD andB (satD a b) (satD c d))) = P ∧ opD andB (satD a b) (satD c d) = Q) (h1 : e ≠ 0 → P = noD ∧ Q = noD) :
  PureT Tryz.prog 26 [cV a b j1 j2, cV c d j3 j4] w fun v N => ∃ k1 k2 : DK, v = .tuple #[cV P Q k1 k2, vI (e : Int)] ∧ N = [dI 48 4 3 P k1, dI 48 4 3 Q k2] := by
 by_cases he : e = 0
 ·obtain ⟨⟨va, vb, hv1⟩, ⟨vc, vd, hv2⟩, hv3⟩ := bE_zero.1 (hE.trans he)
  obtain ⟨z, z1, z2, z3, z4⟩ := small_z (v := a.vars) (l := [a, b, c, d]) (fun x hx => by
   simp only [List.mem_cons, List.not_mem_nil, or_false] at hx
   rcases hx with rfl | rfl | rfl | rfl
   ·exact ⟨va, rfl, la⟩
   ·exact ⟨vb, hv1.symm, lb⟩
   ·exact ⟨vc, hv3.symm, lc⟩
   ·exact ⟨vd, by rw [← hv2, hv3], ld⟩) (by simp) (by simp)
  obtain ⟨rfl, rfl⟩ := h0 he
  subst he
  exact compC w z1 (z4 a (by simp)) (z4 b (by simp)) (z4 c (by simp)) (z4 d (by simp)) j1 j2 j3 j4 hj1 hj2 hj3 hj4
 ·obtain ⟨rfl, rfl⟩ := h1 he
  refine (CallT.nilD 48 4 3 (CallT.nilD 48 4 3 (compBad w a b c d j1 j2 j3 j4 hj1 hj2 hj3 hj4 ba bb bc bd hE he))).mono ?_
  rintro v N ⟨O2, rfl, O3, rfl, rfl, rfl⟩
  exact ⟨k00, k00, rfl, rfl⟩
theorem rCompU (w : World) [Tab Tryz.prog w] (a b c d : DFA) (j1 j2 j3 j4 : DK) (hj1 : At w a j1) (hj2 : At w b j2) (hj3 : At w c j3) (hj4 : At w d j4) (ba : a.next.length < 9223372036854775807 ∧ (∀ r ∈ a.next, r.length < 9223372036854775807) ∧ a.final.length < 9223372036854775807) (bb : b.next.length < 9223372036854775807 ∧ (∀ r ∈ b.next, r.length < 9223372036854775807) ∧ b.final.length < 9223372036854775807) (bc : c.next.length < 9223372036854775807 ∧ (∀ r ∈ c.next, r.length < 9223372036854775807) ∧ c.final.length < 9223372036854775807) (bd : d.next.length < 9223372036854775807 ∧ (∀ r ∈ d.next, r.length < 9223372036854775807) ∧ d.final.length < 9223372036854775807) (la : a.next.length ≤ 6) (lb : b.next.length ≤ 6) (lc : c.next.length ≤ 6) (ld : d.next.length ≤ 6) {P Q : DFA} {e : Nat} (hE : bE a b c d = e) (h0 : e = 0 → opD orB (opD andB a c) (notD (opD andB (satD a b) (satD c d))) = P ∧ opD andB (satD a b) (satD c d) = Q) (h1 : e ≠ 0 → P = noD ∧ Q = noD) :
  PureT Tryz.prog 27 [cV a b j1 j2, cV c d j3 j4] w fun v N => ∃ k1 k2 : DK, v = .tuple #[cV P Q k1 k2, vI (e : Int)] ∧ N = [dI 48 4 3 P k1, dI 48 4 3 Q k2] := by
 by_cases he : e = 0
 ·obtain ⟨⟨va, vb, hv1⟩, ⟨vc, vd, hv2⟩, hv3⟩ := bE_zero.1 (hE.trans he)
  obtain ⟨z, z1, z2, z3, z4⟩ := small_z (v := a.vars) (l := [a, b, c, d]) (fun x hx => by
   simp only [List.mem_cons, List.not_mem_nil, or_false] at hx
   rcases hx with rfl | rfl | rfl | rfl
   ·exact ⟨va, rfl, la⟩
   ·exact ⟨vb, hv1.symm, lb⟩
   ·exact ⟨vc, hv3.symm, lc⟩
   ·exact ⟨vd, by rw [← hv2, hv3], ld⟩) (by simp) (by simp)
  obtain ⟨rfl, rfl⟩ := h0 he
  subst he
  exact rCompC w z1 (z4 a (by simp)) (z4 b (by simp)) (z4 c (by simp)) (z4 d (by simp)) j1 j2 j3 j4 hj1 hj2 hj3 hj4
 ·obtain ⟨rfl, rfl⟩ := h1 he
  refine (CallT.nilD 48 4 3 (CallT.nilD 48 4 3 (rCompBad w a b c d j1 j2 j3 j4 hj1 hj2 hj3 hj4 ba bb bc bd hE he))).mono ?_
  rintro v N ⟨O2, rfl, O3, rfl, rfl, rfl⟩
  exact ⟨k00, k00, rfl, rfl⟩
end Go.Proofs.YtnpehjpookcfkaaGreatDoor


namespace Go.Lx
open Go.RowKit Go.ChangeShapes Go.WideShapes Go.Deep
section
variable {H : Type} {enc : TypeId × Value → H} {P : Program}
theorem TrodAll_stays (hl : laidOutB P = true) {W W' : World} {sp' : Nat → Bool} : ∀ {ts : List TypeId} {vs : List Value} {ds : List (DataW H)} {ps : List MemPlace},
  (∀ t ∈ ts, P.readableRec t = true ∧ t < P.types.size) → DataW.TrodAll enc P W 0 (fun _ => true) true ts vs ds ps → (∀ p ∈ ps, W.sameAt W' p) → (∀ p ∈ ps, sp' p.block = true) → DataW.TrodAll enc P W' 0 sp' true ts vs ds ps
 | [], _, _, _, _, h, _, _ => by
  obtain ⟨rfl, rfl, rfl⟩ := trodAll_nil h
  rfl
 | t :: ts, _, _, _, hr, h, hs, hsp => by
  obtain ⟨v, vs1, d, ds1, p, q, rfl, rfl, rfl, h1, h2⟩ := trodAll_cons h
  have ht := hr t (by simp)
  exact ⟨p, q, WideElems.Trod_stays hl ht.1 ht.2 h1 (fun x hx => hs x (List.mem_append_left _ hx)) (fun x hx => hsp x (List.mem_append_left _ hx)),
   TrodAll_stays hl (fun t ht => hr t (by simp [ht])) h2 (fun x hx => hs x (List.mem_append_right _ hx)) (fun x hx => hsp x (List.mem_append_right _ hx)), rfl⟩
theorem post_law {f : Func} {s : ChangeSpec} {W W' : World} {args : Array Value} {ds gs : List (DataW H)} {before : List MemPlace} {tb : TypeId}
  (hl : laidOutB P = true) (hr : ∀ t ∈ f.params.toList, P.readableRec t = true ∧ t < P.types.size) (hres : f.resultTypes = #[tb]) (hb : P.underlying tb = some .bool) (hv : s.vars = [])
  (hW : DataW.Whole enc P f.params.toList s.vars false W args.toList ds gs before)
  (h1 : (s.fn H ds).results = [.lit (.bool true)]) (h2 : (s.fn H ds).args = ds) (h3 : (s.fn H ds).vars = [])
  (hB : Below W.heap.size W W') : s.post enc P f false true false false W args (.bool true) W' := by
 have hW0 := hW
 obtain ⟨p, q, hA, hV, rfl, hz, hn⟩ := hW
 rw [hv] at hV
 obtain ⟨rfl, rfl⟩ := trodVars_none hV
 simp only [List.append_nil] at hW0 hz hn
 have hlt := hW0.lt
 have hsame : ∀ x ∈ p, W.sameAt W' x := fun x hx => hB.same (hlt x hx)
 have hargs : ∀ sp : Nat → Bool, (∀ x ∈ p, sp x.block = true) → DataW.TrodAll enc P W' 0 sp true f.params.toList args.toList (s.fn H (ds ++ [])).args p := fun sp hsp => by
  rw [List.append_nil, h2]
  exact TrodAll_stays hl hr hA hsame hsp
 have hvars : ∀ sp : Nat → Bool, DataW.TrodVars enc P W' sp s.vars (s.fn H (ds ++ [])).vars [] := fun sp => by
  rw [List.append_nil, hv, h3]; rfl
 have hresult : ∀ (b : Nat) (sp : Nat → Bool) (hd : Bool), DataW.TrodAll enc P W' b sp hd f.resultTypes.toList ((Value.bool true).resultList f.resultTypes.size) (s.fn H (ds ++ [])).results [] := fun b sp hd => by
  rw [List.append_nil, h1, hres]
  exact trodAll_cons_mk (shut_bool hb _) trodAll_mk0
 have hold : ∀ x ∈ p, (fun b => decide (b < W.heap.size)) x.block = true := fun x hx => by simpa using hlt x hx
 refine ⟨ds, [], p, [], p, [], hW0, hresult _ _ _, hargs _ hold, hvars _, World.keptBut_mono (fun x hx => ⟨hx, ?_⟩) (hB.frame _), fun _ => ?_⟩
 ·exact Or.inr (by simpa using hx)
 ·refine ⟨ok_one hres rfl (okWide_bool_mk hb _), _, _, ([] ++ p) ++ [], ⟨[] ++ p, [], trodAll_append (hargs _ (fun _ _ => rfl)) (hresult _ _ _), hvars _, rfl, ?_, ?_⟩, ?_⟩
  ·intro b off hx
   have hx' : MemPlace.cell b off ∈ p := by simpa using hx
   rw [hB.frozen (p := ⟨b, off, none⟩) (hlt _ hx')]
   exact hz b off hx'
  ·intro ha; cases ha
  ·intro x hx _
   simpa using hx
structure DfaIn (P : Program) (W : World) (v : Value) (d : DFA) (nb fb : Option Addr) (nc fc : Nat) (vs : List Value) : Prop where
 val : v = .agg (dfaCells d nb nc fb fc).toArray
 at_ : DfaAt W d nb vs fb
 n : d.next.length ≤ reachBytes
 r : ∀ r ∈ d.next, r.length ≤ reachBytes
 f : d.final.length ≤ reachBytes
 fcap : d.final.length ≤ fc
 rcap : ∀ (i : Nat) (b : Option Addr) (n c : Nat), vs[i]? = some (Value.slice b n c) → n ≤ c
theorem lt63 {n : Nat} (h : n ≤ reachBytes) : n < 9223372036854775807 := Nat.lt_of_le_of_lt h (by decide)
end
end Go.Lx


namespace Go.Proofs.YtnpehjpookcfkaaGreatDoor
open Go.ChangeShapes Go.WideShapes Go.ChangeAt Go.RowKit Go.Lx _root_.Go.Proofs.Tryz
set_option maxRecDepth 100000
theorem own : ownKnob Tryz.prog.godebug = none := by kernel_rfl
theorem laidOut : laidOutB Tryz.prog = true := by kernel_rfl
def fillO (cs : Array Value) : Obj → Obj
 | .cells _ t frozen => .cells cs t frozen
 | o => o
noncomputable def laidWorld (os : Os) : World :=
 { World.holding Tryz.prog os ⟨#[], #[], []⟩ with heap := ((((World.holding Tryz.prog os ⟨#[], #[], []⟩).heap.modify 0 (fillO #[.int .u64 1, .int .u64 10, .int .u64 100, .int .u64 1000, .int .u64 10000, .int .u64 100000, .int .u64 1000000, .int .u64 10000000, .int .u64 100000000, .int .u64 1000000000, .int .u64 10000000000, .int .u64 100000000000, .int .u64 1000000000000, .int .u64 10000000000000, .int .u64 100000000000000, .int .u64 1000000000000000, .int .u64 10000000000000000, .int .u64 100000000000000000, .int .u64 1000000000000000000, .int .u64 10000000000000000000])).modify 1 (fillO #[.int .u8 0, .int .u8 1, .int .u8 28, .int .u8 2, .int .u8 29, .int .u8 14, .int .u8 24, .int .u8 3, .int .u8 30, .int .u8 22, .int .u8 20, .int .u8 15, .int .u8 25, .int .u8 17, .int .u8 4, .int .u8 8, .int .u8 31, .int .u8 27, .int .u8 13, .int .u8 23, .int .u8 21, .int .u8 19, .int .u8 16, .int .u8 7, .int .u8 26, .int .u8 12, .int .u8 18, .int .u8 6, .int .u8 11, .int .u8 5, .int .u8 10, .int .u8 9])).modify 2 (fillO #[.int .u8 0, .int .u8 1, .int .u8 56, .int .u8 2, .int .u8 57, .int .u8 49, .int .u8 28, .int .u8 3, .int .u8 61, .int .u8 58, .int .u8 42, .int .u8 50, .int .u8 38, .int .u8 29, .int .u8 17, .int .u8 4, .int .u8 62, .int .u8 47, .int .u8 59, .int .u8 36, .int .u8 45, .int .u8 43, .int .u8 51, .int .u8 22, .int .u8 53, .int .u8 39, .int .u8 33, .int .u8 30, .int .u8 24, .int .u8 18, .int .u8 12, .int .u8 5, .int .u8 63, .int .u8 55, .int .u8 48, .int .u8 27, .int .u8 60, .int .u8 41, .int .u8 37, .int .u8 16, .int .u8 46, .int .u8 35, .int .u8 44, .int .u8 21, .int .u8 52, .int .u8 32, .int .u8 23, .int .u8 11, .int .u8 54, .int .u8 26, .int .u8 40, .int .u8 15, .int .u8 34, .int .u8 20, .int .u8 31, .int .u8 10, .int .u8 25, .int .u8 14, .int .u8 19, .int .u8 9, .int .u8 13, .int .u8 8, .int .u8 7, .int .u8 6])) }
theorem tabOf {W : World} (hL : laidMetH Tryz.prog [("math/bits.deBruijn32tab", Rows.laid_math_bits_deBruijn32tab), ("math/bits.deBruijn64tab", Rows.laid_math_bits_deBruijn64tab), ("internal/strconv.uint64pow10", Rows.laid_internal_strconv_uint64pow10)] W) : Tab Tryz.prog W := by
 have h : laidMet Tryz.prog [("math/bits.deBruijn32tab", Rows.laid_math_bits_deBruijn32tab), ("math/bits.deBruijn64tab", Rows.laid_math_bits_deBruijn64tab), ("internal/strconv.uint64pow10", Rows.laid_internal_strconv_uint64pow10)] W := hL
 obtain ⟨ps, h, _⟩ := h
 have hz := h
 obtain ⟨_, h⟩ := laidVars_tail h
 obtain ⟨_, h⟩ := laidVars_tail h
 obtain ⟨_, hz⟩ := laidVars_tail hz
 exact Tab.of (tabIs_of_vars (g := 0) (t := 153) (e := 146) (n := 20) (by kernel_rfl) (by kernel_rfl) (by kernel_rfl) underlying153 underlying146 (by kernel_rfl) (by kernel_rfl) h) (.inr (tabIs_of_vars (g := 2) (t := 159) (e := 5) (n := 64) (by kernel_rfl) (by kernel_rfl) (by kernel_rfl) underlying159 underlying5 (by kernel_rfl) (by kernel_rfl) hz))
end Go.Proofs.YtnpehjpookcfkaaGreatDoor


namespace Go.Lx
open Go.RowKit Go.ChangeShapes Go.WideShapes Go.Deep
section
variable {H : Type} {enc : TypeId × Value → H} {P : Program}
end
end Go.Lx
namespace Go.Lx
end Go.Lx


namespace Go.Proofs.YtnpehjpookcfkaaGreatDoor
open Go.ChangeShapes Go.WideShapes Go.ChangeAt Go.RowKit Go.Lx _root_.Go.Proofs.Tryz
set_option maxRecDepth 100000
abbrev Bnd (a : DFA) : Prop := a.next.length < 9223372036854775807 ∧ (∀ r ∈ a.next, r.length < 9223372036854775807) ∧ a.final.length < 9223372036854775807
theorem DfaIn.dk {W : World} {v : Value} {d : DFA} {nb fb : Option Addr} {nc fc : Nat} {vs : List Value} (h : DfaIn Tryz.prog W v d nb fb nc fc vs) : ∃ j : DK, v = .agg (dC d j).toArray ∧ At W d j ∧ Bnd d ∧ CapD d j := by
 obtain ⟨qs, rfl, e⟩ := rows_rec h.at_.rows
 exact ⟨⟨nb, nc, fb, fc, qs⟩, h.val, h.at_, ⟨lt63 h.n, fun r hr => lt63 (h.r r hr), lt63 h.f⟩, ⟨h.fcap, h.rcap⟩⟩
section
variable {H : Type} {enc : TypeId × Value → H} {W : World}
end
end Go.Proofs.YtnpehjpookcfkaaGreatDoor

