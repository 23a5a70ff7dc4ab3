/- Contracts of functions of the program (QzM): what each call answers and that it leaves memory as it was. Conditions: those each theorem names. -/
import Derived.Test.YtnpehjpookcfkaaGreatDoorCoreK
import Derived.Test.YtnpehjpookcfkaaGreatDoorAll
import Derived.Test.YtnpehjpookcfkaaGreatDoorCmb
import Derived.Test.YtnpehjpookcfkaaGreatDoorEndC
import Derived.Test.YtnpehjpookcfkaaGreatDoorCbad
set_option linter.unusedSectionVars false
set_option linter.unusedSimpArgs false
set_option linter.unusedVariables false
set_option linter.unnecessarySimpa false
set_option maxHeartbeats 8000000
set_option maxRecDepth 20000
namespace Go.Proofs.YtnpehjpookcfkaaGreatDoor
open Go.Lx Go.RowKit _root_.Go.Proofs.Tryz
theorem matchesW (w : World) [Tab Tryz.prog w] (d : DFA) (jd : DK) (hd : At w d jd) (cd : CapD d jd) (bd : Bd9 d) (a g : DFA) (ja jg : DK) (ha : At w a ja) (hg : At w g jg) (ca : CapD a ja) (cg : CapD g jg) (ba : Bd9 a) (bg : Bd9 g) :
  PureT Tryz.prog 3 [dV d jd, cV a g ja jg] w fun v N => v = .bool true ∧ N = [] := by
 refine CallT.enter func3 rfl ntmps3 rfl ?_
 obtain ⟨X, eX⟩ : ∃ x, fewD d = x := ⟨_, rfl⟩
 have bX : Bd9 X := by rw [← eX]; exact few_bd d
 have lX : X.next.length ≤ 6 := by rw [← eX]; exact few_len d
 obtain ⟨U, eU⟩ : ∃ x, fewD a = x := ⟨_, rfl⟩
 have bU : Bd9 U := by rw [← eU]; exact few_bd a
 have lU : U.next.length ≤ 6 := by rw [← eU]; exact few_len a
 obtain ⟨G, eG⟩ : ∃ x, fewD g = x := ⟨_, rfl⟩
 have bG : Bd9 G := by rw [← eG]; exact few_bd g
 have lG : G.next.length ≤ 6 := by rw [← eG]; exact few_len g
 obtain ⟨eC, hE⟩ : ∃ x, cE U G = x := ⟨_, rfl⟩
 obtain ⟨eI, hI9⟩ : ∃ x, iE X U G = x := ⟨_, rfl⟩
 obtain ⟨P, Q, hs0, hs1⟩ := pick2 eC (minD U) (satD U G)
 obtain ⟨bP, bQ⟩ := sat_bd hE lU lG hs0 hs1
 obtain ⟨r, bo, hi0, hi1, hi2⟩ := pickR eI (opD minusB (opD andB X U) G)
 have hrl := (impl_len hI9 lX lU lG hi0 hi1).1
 refine T.s (T.rg (TO.l rfl (l_box (v := (dV d jd)) (cs := (dC d jd)) rfl rfl (fun z1 => ?_))))
 refine TO.l rfl (l_box (v := (cV a g ja jg)) (cs := (cC a g ja jg)) rfl rfl (fun z2 => ?_))
 refine TO.qa rfl (TO.nl ?_)
 refine T.cut (fun ρ O => ∃ (b5 : Nat) (kX : DK) (b6 : Nat) (kA : DK) (kG : DK), O = [oI b5 25 (dC X kX), oI b6 27 (cC U G kA kG), dI 48 4 3 X kX, dI 48 4 3 U kA, dI 48 4 3 G kG, oI z2 27 (cC a g ja jg), oI z1 25 (dC d jd)] ∧ Heads [(0, (dV d jd)), (1, (cV a g ja jg)), (2, (.pointer (aD z1))), (3, (.pointer (aD z2))), (4, .bool false), (5, (.pointer (aD b5))), (6, (.pointer (aD b6)))] ρ) ?_ ?_
 ·refine T.treeT [oI z2 27 (cC a g ja jg), oI z1 25 (dC d jd)] [6, 7] 8 mixed rfl (by exact Sub.rf) (fun _ _ _ h => h) ?_
  refine RO.quietTT 0 rfl (by kernel_rfl) (q_la 1 uT25 rfl inf25 rfl rfl rfl) ?_
  refine RO.quietTT 2 rfl (by kernel_rfl) (q_la 0 uT27 rfl inf27 rfl rfl rfl) ?_
  refine RO.makers (Wt := WtM) (fuel := 2) [⟨1, 19, fun x => (dV X x.k), fun x => [dI 48 4 3 X x.k]⟩, ⟨4, 5, fun x => (.pointer (some ⟨x.n, 0, none⟩)), fun x => [oI x.n 25 [(vI 0), (vI 0), nS, nS]]⟩, ⟨3, 21, fun x => (cV U G x.k x.k2), fun x => [dI 48 4 3 U x.k, dI 48 4 3 G x.k2]⟩, ⟨5, 6, fun x => (.pointer (some ⟨x.n, 0, none⟩)), fun x => [oI x.n 27 [(vI 0), (vI 0), nS, nS, (vI 0), (vI 0), nS, nS]]⟩] [(0, (dV d jd)), (1, (cV a g ja jg)), (2, (.pointer (aD z1))), (3, (.pointer (aD z2))), (4, .bool false), (18, (dV d jd)), (20, (cV a g ja jg))] (fun _ => WtM.z) (by kernel_rfl) (by exact Sub.rf) ?_ ?_ (.of rfl)
  ·intro q hq
   simp only [List.mem_cons, List.not_mem_nil, or_false] at hq
   rcases hq with rfl | rfl | rfl | rfl
   ·refine ⟨_, rfl, rfl, fun ρ O hS hH => ?_⟩
    obtain ⟨ρ0, rfl⟩ := hH.elim
    clear hH
    refine l_call ent6 (CallT.op fun w1 hI => (haveI := tbz hI; fewK w1 d jd (hI.atB hd) cd bd eX)) rfl ?_
    rintro vr O' ⟨N, rfl, kX, rfl, rfl⟩
    exact ⟨{ WtM.z with k := kX }, rfl, rfl⟩
   ·refine ⟨_, rfl, rfl, fun ρ O hS hH => ?_⟩
    obtain ⟨ρ0, rfl⟩ := hH.elim
    clear hH
    exact l_alloc inf25 rfl (fun b5 => ⟨{ WtM.z with n := b5 }, rfl, rfl⟩)
   ·refine ⟨_, rfl, rfl, fun ρ O hS hH => ?_⟩
    obtain ⟨ρ0, rfl⟩ := hH.elim
    clear hH
    refine l_call ent7 (CallT.op fun w1 hI => (haveI := tbz hI; pairK w1 a g ja jg (hI.atB ha) (hI.atB hg) ca cg ba bg eU eG)) rfl ?_
    rintro vr O' ⟨N, rfl, kA, kG, rfl, rfl⟩
    exact ⟨{ WtM.z with k := kA, k2 := kG }, rfl, rfl⟩
   ·refine ⟨_, rfl, rfl, fun ρ O hS hH => ?_⟩
    obtain ⟨ρ0, rfl⟩ := hH.elim
    clear hH
    exact l_alloc inf27 rfl (fun b6 => ⟨{ WtM.z with n := b6 }, rfl, rfl⟩)
  intro wm ρ hH
  obtain ⟨kX, e9kX⟩ : ∃ x, x = (wm 1).k := ⟨_, rfl⟩
  obtain ⟨b5, e9b5⟩ : ∃ x, x = (wm 4).n := ⟨_, rfl⟩
  obtain ⟨kA, e9kA⟩ : ∃ x, x = (wm 3).k := ⟨_, rfl⟩
  obtain ⟨kG, e9kG⟩ : ∃ x, x = (wm 3).k2 := ⟨_, rfl⟩
  obtain ⟨b6, e9b6⟩ : ∃ x, x = (wm 5).n := ⟨_, rfl⟩
  have hH2 : Heads [(19, (dV X kX)), (5, (.pointer (aD b5))), (21, (cV U G kA kG)), (6, (.pointer (aD b6))), (0, (dV d jd)), (1, (cV a g ja jg)), (2, (.pointer (aD z1))), (3, (.pointer (aD z2))), (4, .bool false), (18, (dV d jd)), (20, (cV a g ja jg))] ρ := by subst e9kX e9b5 e9kA e9kG e9b6; exact hH
  refine RO.sub (O' := [dI 48 4 3 X kX, oI b5 25 [(vI 0), (vI 0), nS, nS], dI 48 4 3 U kA, dI 48 4 3 G kG, oI b6 27 [(vI 0), (vI 0), nS, nS, (vI 0), (vI 0), nS, nS], oI z2 27 (cC a g ja jg), oI z1 25 (dC d jd)]) (by subst e9kX e9b5 e9kA e9kG e9b6; exact Sub.rf) ?_
  clear hH e9kX e9b5 e9kA e9kG e9b6
  obtain ⟨ρ0, rfl⟩ := hH2.elim
  clear hH2
  refine RO.forkT [6] (by kernel_rfl) rfl ⟨⟨_, rfl, rfl, l_sb (v := (dV X kX)) (vs := (dC X kX)) 1 inf25 rfl rfl rfl rfl rfl rfl (by simp [putL]) ⟨.inl (by decide), ?_⟩⟩, trivial⟩ (by kernel_rfl)
  refine RO.sub (O' := [dI 48 4 3 X kX, oI b5 25 (dC X kX), dI 48 4 3 U kA, dI 48 4 3 G kG, oI b6 27 [(vI 0), (vI 0), nS, nS, (vI 0), (vI 0), nS, nS], oI z2 27 (cC a g ja jg), oI z1 25 (dC d jd)]) (by exact Sub.rf) ?_
  refine RO.forkT [7] (by kernel_rfl) rfl ⟨⟨_, rfl, rfl, l_sb (v := (cV U G kA kG)) (vs := (cC U G kA kG)) 4 inf27 rfl rfl rfl rfl rfl rfl (by simp [putL]) ⟨.inl (by decide), ?_⟩⟩, trivial⟩ (by kernel_rfl)
  refine RO.sub (O' := [dI 48 4 3 X kX, oI b5 25 (dC X kX), dI 48 4 3 U kA, dI 48 4 3 G kG, oI b6 27 (cC U G kA kG), oI z2 27 (cC a g ja jg), oI z1 25 (dC d jd)]) (by exact Sub.rf) ?_
  exact RO.fin (by kernel_rfl) ⟨b5, kX, b6, kA, kG, rfl, (.of rfl)⟩ (Sub.pick [1, 3, 0, 0, 0, 0, 0] rfl)
 rintro ρ O ⟨b5, kX, b6, kA, kG, rfl, hH⟩
 obtain ⟨ρ0, rfl⟩ := hH.elim
 clear hH
 refine T.s (T.s ?_)
 refine T.draws [oI b6 27 (cC U G kA kG)] [(0, 0), (2, 0), (1, 1), (3, 2), (4, 2)] mixed (by kernel_rfl) (by exact Sub.d (.k .z)) (fun _ _ _ h => h) ?_
 refine DO.q rfl (q_la 0 uT27 rfl inf27 rfl rfl rfl) (DO.q rfl (q_la 0 uT27 rfl inf27 rfl rfl rfl) ?_)
 refine DO.loud rfl rfl (l_call ent8 (CallT.op fun w1 hI => (haveI := tbz hI; (show PureT _ _ _ _ _ from by
   have h9 := conCheck w1 U G kA kG (hI.at (k := kA) (mG 3 rfl)) (hI.at (k := kG) (mG 4 rfl)) bU bG
   rw [hE] at h9
   exact h9))) rfl ?_)
 rintro vr O' ⟨N, rfl, rfl, rfl⟩
 refine ⟨by exact Sub.d (.k .z), ?_⟩
 refine DO.last rfl rfl (l_call ent9 (CallT.op fun w1 hI => (haveI := tbz hI; (show PureT _ _ _ _ _ from by
   have h9 := rConCheck w1 U G kA kG (hI.at (k := kA) (mG 3 rfl)) (hI.at (k := kG) (mG 4 rfl)) bU bG
   rw [hE] at h9
   exact h9))) rfl ?_)
 rintro vr O' ⟨N, rfl, rfl, rfl⟩
 refine DO.last rfl rfl (LT.oq rfl rfl (QT.toB (q_neq rfl rfl) (decide_eq_false (fun h => h rfl))) ?_)
 refine DO.done ?_
 refine T.cond0 rfl (T.skip (T.s (T.s (T.rg (TO.qa rfl (TO.nl (T.block ?_)))))))
 refine T.loopS (fun (r9 : Nat) ρ O => O = [oI b5 25 (dC X kX), oI b6 27 (cC U G kA kG), dI 48 4 3 X kX, dI 48 4 3 U kA, dI 48 4 3 G kG, oI z2 27 (cC a g ja jg), oI z1 25 (dC d jd)] ∧ r9 ≤ 2 ∧ Heads [(0, (dV d jd)), (1, (cV a g ja jg)), (2, (.pointer (aD z1))), (3, (.pointer (aD z2))), (5, (.pointer (aD b5))), (6, (.pointer (aD b6))), (7, vI ((r9 : Nat) : Int))] ρ) (fun r9 => 2 - r9) 0 ?_ ?_
 ·exact ⟨rfl, Nat.zero_le _, (.of rfl)⟩
 rintro r9 ρ O ⟨rfl, hr9, hH⟩
 obtain ⟨ρ0, rfl⟩ := hH.elim
 clear hH
 refine T.s (T.s (T.rg (TO.qm rfl (TO.q (q_lss rfl rfl) (TO.nl (T.condP rfl (fun hc => ?_) (fun hc => ?_)))))))
 ·have hlt28 : r9 < 2 := by omega
  refine T.skip (T.s (T.block (T.s (T.rg (TO.q (q_la 1 uT27 rfl inf27 rfl rfl rfl) (TO.l rfl (l_call ent10 (CallT.op fun w1 hI => (haveI := tbz hI; satU w1 U G kA kG (hI.at (k := kA) (mG 3 rfl)) (hI.at (k := kG) (mG 4 rfl)) bU bG lU lG hE hs0 hs1)) rfl ?_)))))))
  rintro vr O' ⟨N, rfl, kP, kQ, rfl, rfl⟩
  refine TO.qm rfl (TO.q (q_extract (vs := _) rfl rfl) (TO.q (q_extract (vs := _) rfl rfl) (TO.l rfl (l_alloc inf27 rfl (fun z3 => ?_)))))
  refine TO.l rfl (l_sb (v := (cV P Q kP kQ)) (vs := (cC P Q kP kQ)) 0 inf27 rfl rfl rfl rfl rfl rfl (by simp [putL]) ?_)
  refine TO.qa rfl (TO.nl (T.s (T.rg (TO.q (q_la 4 uT27 rfl inf27 rfl rfl rfl) (TO.l rfl (l_call ent11 (CallT.op fun w1 hI => (haveI := tbz hI; rSatU w1 U G kA kG (hI.at (k := kA) (mG 6 rfl)) (hI.at (k := kG) (mG 7 rfl)) bU bG lU lG hE hs0 hs1)) rfl ?_))))))
  rintro vr O' ⟨N, rfl, kP2, kQ2, rfl, rfl⟩
  refine TO.qm rfl (TO.q (q_extract (vs := _) rfl rfl) (TO.q (q_extract (vs := _) rfl rfl) (TO.l rfl (l_alloc inf27 rfl (fun z4 => ?_)))))
  refine TO.l rfl (l_sb (v := (cV P Q kP2 kQ2)) (vs := (cC P Q kP2 kQ2)) 0 inf27 rfl rfl rfl rfl rfl rfl (by simp [putL]) ?_)
  refine TO.qa rfl (TO.nl ?_)
  refine T.reset [oI z4 27 (cC P Q kP2 kQ2), dI 48 4 3 P kP2, dI 48 4 3 Q kQ2, oI z3 27 (cC P Q kP kQ), dI 48 4 3 P kP, dI 48 4 3 Q kQ, oI b5 25 (dC X kX), oI b6 27 (cC U G kA kG), dI 48 4 3 X kX, dI 48 4 3 U kA, dI 48 4 3 G kG, oI z2 27 (cC a g ja jg), oI z1 25 (dC d jd)] [(0, (dV d jd)), (1, (cV a g ja jg)), (2, (.pointer (aD z1))), (3, (.pointer (aD z2))), (5, (.pointer (aD b5))), (6, (.pointer (aD b6))), (7, vI ((r9 : Nat) : Int)), (8, (.pointer (aD z3))), (9, vI (eC : Int)), (10, (.pointer (aD z4))), (11, vI (eC : Int))] rfl (.of rfl) (fun ρ0 => ?_)
  refine T.s (T.rg (TO.q (q_la 6 uT25 rfl inf25 rfl rfl rfl) (TO.q (q_la 7 uT27 rfl inf27 rfl rfl rfl) (TO.l rfl (l_call ent12 (CallT.op fun w1 hI => (haveI := tbz hI; implU w1 X U G kX kA kG (hI.at (k := kX) (mG 8 rfl)) (hI.at (k := kA) (mG 9 rfl)) (hI.at (k := kG) (mG 10 rfl)) bX bU bG lX lU lG hI9 hi0 hi1 hi2)) rfl ?_)))))
  rintro vr O' ⟨N, rfl, wb1, wc1, rfl, rfl⟩
  refine TO.qm rfl (TO.q (q_extract (vs := _) rfl rfl) (TO.q (q_extract (vs := _) rfl rfl) (TO.q (q_extract (vs := _) rfl rfl) (TO.qa rfl (TO.qa rfl (TO.qa rfl (TO.nl (T.s (T.rg (TO.q (q_la 7 uT25 rfl inf25 rfl rfl rfl) (TO.q (q_la 8 uT27 rfl inf27 rfl rfl rfl) (TO.l rfl (l_call ent13 (CallT.op fun w1 hI => (haveI := tbz hI; rImplU w1 X U G kX kA kG (hI.at (k := kX) (mG 9 rfl)) (hI.at (k := kA) (mG 10 rfl)) (hI.at (k := kG) (mG 11 rfl)) bX bU bG lX lU lG hI9 hi0 hi1 hi2)) rfl ?_)))))))))))))
  rintro vr O' ⟨N, rfl, wb2, wc2, rfl, rfl⟩
  refine TO.qm rfl (TO.q (q_extract (vs := _) rfl rfl) (TO.q (q_extract (vs := _) rfl rfl) (TO.q (q_extract (vs := _) rfl rfl) (TO.qa rfl (TO.qa rfl (TO.qa rfl (TO.nl ?_)))))))
  refine T.reset [rowI wb2 wc2 5 1 (byts (r.getD [])), rowI wb1 wc1 5 1 (byts (r.getD [])), oI z4 27 (cC P Q kP2 kQ2), dI 48 4 3 P kP2, dI 48 4 3 Q kQ2, oI z3 27 (cC P Q kP kQ), dI 48 4 3 P kP, dI 48 4 3 Q kQ, oI b5 25 (dC X kX), oI b6 27 (cC U G kA kG), dI 48 4 3 X kX, dI 48 4 3 U kA, dI 48 4 3 G kG, oI z2 27 (cC a g ja jg), oI z1 25 (dC d jd)] [(0, (dV d jd)), (1, (cV a g ja jg)), (2, (.pointer (aD z1))), (3, (.pointer (aD z2))), (5, (.pointer (aD b5))), (6, (.pointer (aD b6))), (7, vI ((r9 : Nat) : Int)), (8, (.pointer (aD z3))), (9, vI (eC : Int)), (10, (.pointer (aD z4))), (11, vI (eC : Int)), (12, (.slice wb1 ((r.getD []).length) wc1)), (13, .bool bo), (14, vI (eI : Int)), (15, (.slice wb2 ((r.getD []).length) wc2)), (16, .bool bo), (17, vI (eI : Int))] rfl (.of rfl) (fun ρ0 => ?_)
  refine T.s (T.s ?_)
  refine T.draws [oI z4 27 (cC P Q kP2 kQ2), oI z3 27 (cC P Q kP kQ), oI b5 25 (dC X kX), oI b6 27 (cC U G kA kG), oI z2 27 (cC a g ja jg), oI z1 25 (dC d jd)] [(0, 0), (1, 0), (2, 1), (3, 0), (4, 0), (5, 0), (6, 0), (7, 0), (8, 0), (9, 0), (10, 0), (11, 0), (12, 1), (13, 0), (14, 0), (15, 0), (16, 0), (17, 0), (18, 0), (19, 0), (20, 0), (21, 0), (22, 0), (23, 0), (24, 0), (25, 0), (26, 0), (27, 0), (28, 1), (29, 1), (30, 0), (31, 0), (32, 0), (33, 0), (34, 0), (35, 1), (36, 2), (37, 2), (38, 2)] mixed (drawF_ok (by kernel_rfl)) (by exact Sub.d (.d (.k (.d (.d (.k (.d (.d (.k (.k (.d (.d (.d (.k (.k .z))))))))))))))) (fun _ _ _ h => h) ?_
  refine DO.q rfl (q_la 1 uT27 rfl inf27 rfl rfl rfl) (DO.q rfl (q_la 0 uT27 rfl inf27 rfl rfl rfl) ?_)
  refine DO.loud rfl rfl (l_call ent14 (CallT.op fun w1 hI => (haveI := tbz hI; equalC w1 P Q kP kQ kP2 kQ2 (hI.at (k := kP) (mG 6 rfl)) (hI.at (k := kQ) (mG 7 rfl)) (hI.at (k := kP2) (mG 3 rfl)) (hI.at (k := kQ2) (mG 4 rfl)) bP bQ)) rfl ?_)
  rintro vr O' ⟨N, rfl, rfl, rfl⟩
  refine ⟨by exact Sub.d (.d (.k (.d (.d (.k (.d (.d (.k (.k (.d (.d (.d (.k (.k .z)))))))))))))), ?_⟩
  refine DO.q rfl (q_not rfl) (DO.q rfl (q_move rfl) ?_)
  refine DO.guarded rfl rfl rfl (q_move rfl) ?_
  refine DO.guarded rfl rfl rfl (q_move rfl) ?_
  refine DO.guarded rfl rfl rfl (QT.toB (q_neq rfl rfl) (decide_eq_false (fun h => h rfl))) ?_
  refine DO.q rfl (q_pick0 rfl rfl) (DO.q rfl (q_move rfl) ?_)
  refine DO.guarded rfl rfl rfl (q_move rfl) ?_
  refine DO.guarded rfl rfl rfl (q_move rfl) ?_
  refine DO.loudG rfl rfl rfl rfl (l_call ent15 (CallT.op fun w1 hI => (haveI := tbz hI; (show PureT _ _ _ _ _ from by
    have h9 := equalBytes w1 wb1 wb2 wc1 wc2 (r.getD []) (r.getD []) (hI.slOf (mG 1 rfl)) (hI.slOf (mG 0 rfl)) (by omega)
    rw [decide_eq_true rfl] at h9
    exact h9))) rfl ?_)
  rintro vr O' ⟨N, rfl, rfl, rfl⟩
  refine ⟨by exact Sub.d (.d (.k (.d (.d (.k (.d (.d (.k (.k (.d (.d (.d (.k (.k .z)))))))))))))), ?_⟩
  refine DO.guarded rfl rfl rfl (q_not rfl) ?_
  refine DO.q rfl (q_pick0 rfl rfl) (DO.q rfl (q_move rfl) ?_)
  refine DO.guarded rfl rfl rfl (q_move rfl) ?_
  refine DO.guarded rfl rfl rfl (q_move rfl) ?_
  refine DO.guarded rfl rfl rfl (QT.toB (q_bneq uT4 rfl rfl) (bne_self_eq_false _)) ?_
  refine DO.q rfl (q_pick0 rfl rfl) (DO.q rfl (q_move rfl) ?_)
  refine DO.guarded rfl rfl rfl (q_move rfl) ?_
  refine DO.guarded rfl rfl rfl (q_move rfl) ?_
  refine DO.guarded rfl rfl rfl (QT.toB (q_neq rfl rfl) (decide_eq_false (fun h => h rfl))) ?_
  refine DO.q rfl (q_pick0 rfl rfl) (DO.q rfl (q_move rfl) ?_)
  refine DO.guarded rfl rfl rfl (q_la 3 uT27 rfl inf27 rfl rfl rfl) ?_
  refine DO.guarded rfl rfl rfl (q_la 4 uT27 rfl inf27 rfl rfl rfl) ?_
  refine DO.loudG rfl rfl rfl rfl (l_call ent7 (CallT.op fun w1 hI => (haveI := tbz hI; pairK w1 a g ja jg (hI.atB ha) (hI.atB hg) ca cg ba bg eU eG)) rfl ?_)
  rintro vr O' ⟨N, rfl, kA3, kG3, rfl, rfl⟩
  refine ⟨by exact Sub.d (.d (.d (.d (.k (.d (.d (.k (.d (.d (.k (.k (.d (.d (.d (.k (.k .z)))))))))))))))), ?_⟩
  refine DO.loudG rfl rfl rfl rfl (l_call ent14 (CallT.op fun w1 hI => (haveI := tbz hI; equalC w1 U G kA kG kA3 kG3 (hI.at (k := kA) (mG 13 rfl)) (hI.at (k := kG) (mG 14 rfl)) (hI.at (k := kA3) (mG 0 rfl)) (hI.at (k := kG3) (mG 1 rfl)) bU bG)) rfl ?_)
  rintro vr O' ⟨N, rfl, rfl, rfl⟩
  refine ⟨by exact Sub.d (.d (.d (.d (.k (.d (.d (.k (.d (.d (.k (.k (.d (.d (.d (.k (.k .z)))))))))))))))), ?_⟩
  refine DO.guarded rfl rfl rfl (q_not rfl) ?_
  refine DO.q rfl (q_pick0 rfl rfl) (DO.q rfl (q_move rfl) ?_)
  refine DO.guarded rfl rfl rfl (q_la 2 uT25 rfl inf25 rfl rfl rfl) ?_
  refine DO.guarded rfl rfl rfl (q_la 5 uT25 rfl inf25 rfl rfl rfl) ?_
  refine DO.loudG rfl rfl rfl rfl (l_call ent6 (CallT.op fun w1 hI => (haveI := tbz hI; fewK w1 d jd (hI.atB hd) cd bd eX)) rfl ?_)
  rintro vr O' ⟨N, rfl, kX3, rfl, rfl⟩
  refine ⟨by exact Sub.d (.d (.d (.d (.d (.k (.d (.d (.k (.d (.d (.k (.k (.d (.d (.d (.k (.k .z))))))))))))))))), ?_⟩
  refine DO.lastG rfl rfl rfl rfl (l_call ent16 (CallT.op fun w1 hI => (haveI := tbz hI; equalK w1 X kX kX3 (hI.at (k := kX) (mG 13 rfl)) (hI.at (k := kX3) (mG 0 rfl)) bX)) rfl ?_)
  rintro vr O' ⟨N, rfl, rfl, rfl⟩
  refine DO.lastG rfl rfl rfl rfl (LT.oq rfl rfl (q_not rfl) ?_)
  refine DO.last rfl rfl (LT.oq rfl rfl (q_pick0 rfl rfl) ?_)
  refine DO.done ?_
  refine T.cond0 rfl (T.skip (T.s (T.rg (TO.q (q_la 8 uT27 rfl inf27 rfl rfl rfl) (TO.l rfl (l_call ent17 (CallT.un [9, 9] (overC w P Q kP kQ bP bQ)) rfl ?_))))))
  rintro vr O' ⟨A1, rfl, rfl⟩
  refine TO.nl (T.rg (TO.qm rfl (TO.l rfl (l_call ent18 (CallT.un [4] (overBytes w wb1 wc1 wc1 (r.getD []) (by omega))) rfl ?_))))
  rintro vr O' ⟨A1, rfl, rfl⟩
  refine TO.nl (T.rg (TO.qm rfl (TO.q (q_addN (a := r9) (b := 1) rfl rfl (by omega)) (TO.qa rfl (TO.nl ?_)))))
  exact ⟨r9 + 1, by omega, [oI b5 25 (dC X kX), oI b6 27 (cC U G kA kG), dI 48 4 3 X kX, dI 48 4 3 U kA, dI 48 4 3 G kG, oI z2 27 (cC a g ja jg), oI z1 25 (dC d jd)], (by exact Sub.d (.d (.d (.d (.d (.d (.d (.d (.k (.k (.k (.k (.k (.k (.k .z))))))))))))))), rfl, by omega, (.of rfl)⟩
 have hge28 : ¬ r9 < 2 := by omega
 refine T.exit ?_
 refine T.s (T.rg (TO.l rfl (l_call ent19 (aW awakeC) rfl ?_)))
 rintro vr O' ⟨N, rfl, rfl, rfl⟩
 refine TO.qa rfl (TO.nl (T.ret (Res.drop ?_)))
 refine Res.one (.bool true) Tryz.results3 rfl ?_
 exact ⟨[], Sub.z, rfl, rfl⟩
end Go.Proofs.YtnpehjpookcfkaaGreatDoor

