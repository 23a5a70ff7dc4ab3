/- Contracts of functions of the program (QzP): what each call answers and that it leaves memory as it was. Conditions: those each theorem names. -/
import Derived.Test.YtnpehjpookcfkaaGreatDoorCoreK
import Derived.Test.YtnpehjpookcfkaaGreatDoorAll
import Derived.Test.YtnpehjpookcfkaaGreatDoorCmb
import Derived.Test.YtnpehjpookcfkaaGreatDoorEndC
import Derived.Test.YtnpehjpookcfkaaGreatDoorCbad
set_option linter.unusedSectionVars false
set_option linter.unusedSimpArgs false
set_option linter.unusedVariables false
set_option linter.unnecessarySimpa false
set_option maxHeartbeats 8000000
set_option maxRecDepth 20000
namespace Go.Proofs.YtnpehjpookcfkaaGreatDoor
open Go.Lx Go.RowKit _root_.Go.Proofs.Tryz
theorem pairsW (w : World) [Tab Tryz.prog w] (a g : DFA) (ja jg : DK) (ha : At w a ja) (hg : At w g jg) (ca : CapD a ja) (cg : CapD g jg) (ba : Bd9 a) (bg : Bd9 g) (b h : DFA) (jb jh : DK) (hb : At w b jb) (hh : At w h jh) (cb : CapD b jb) (ch : CapD h jh) (bb : Bd9 b) (bh : Bd9 h) :
  PureT Tryz.prog 4 [cV a g ja jg, cV b h jb jh] w fun v N => v = .bool true ∧ N = [] := by
 refine CallT.enter func4 rfl ntmps4 rfl ?_
 obtain ⟨U, eU⟩ : ∃ x, fewD a = x := ⟨_, rfl⟩
 have bU : Bd9 U := by rw [← eU]; exact few_bd a
 have lU : U.next.length ≤ 6 := by rw [← eU]; exact few_len a
 obtain ⟨G, eG⟩ : ∃ x, fewD g = x := ⟨_, rfl⟩
 have bG : Bd9 G := by rw [← eG]; exact few_bd g
 have lG : G.next.length ≤ 6 := by rw [← eG]; exact few_len g
 obtain ⟨V, eV⟩ : ∃ x, fewD b = x := ⟨_, rfl⟩
 have bV : Bd9 V := by rw [← eV]; exact few_bd b
 have lV : V.next.length ≤ 6 := by rw [← eV]; exact few_len b
 obtain ⟨H, eH⟩ : ∃ x, fewD h = x := ⟨_, rfl⟩
 have bH : Bd9 H := by rw [← eH]; exact few_bd h
 have lH : H.next.length ≤ 6 := by rw [← eH]; exact few_len h
 obtain ⟨eB, hE⟩ : ∃ x, bE U G V H = x := ⟨_, rfl⟩
 obtain ⟨P1, Q1, hm0, hm1⟩ := pick2 eB (opD orB U V) (opD andB (satD U G) (satD V H))
 obtain ⟨bP1, bQ1⟩ := meet_bd hE lU lG lV lH hm0 hm1
 obtain ⟨P2, Q2, hj0, hj1⟩ := pick2 eB (opD andB U V) (opD orB (satD U G) (satD V H))
 obtain ⟨bP2, bQ2⟩ := join_bd hE lU lG lV lH hj0 hj1
 obtain ⟨P3, Q3, hc0, hc1⟩ := pick2 eB (opD orB (opD andB U V) (notD (opD andB (satD U G) (satD V H)))) (opD andB (satD U G) (satD V H))
 obtain ⟨bP3, bQ3⟩ := comp_bd hE lU lG lV lH hc0 hc1
 obtain ⟨r, bo, hi0, hi1, hi2⟩ := pickR eB (opD orB (opD minusB V U) (opD minusB (satD U G) (satD V H)))
 have hrl := (ref_len hE lU lG lV lH hi0 hi1).1
 refine T.s (T.rg (TO.l rfl (l_box (v := (cV a g ja jg)) (cs := (cC a g ja jg)) rfl rfl (fun z1 => ?_))))
 refine TO.l rfl (l_box (v := (cV b h jb jh)) (cs := (cC b h jb jh)) rfl rfl (fun z2 => ?_))
 refine TO.qa rfl (TO.nl ?_)
 refine T.cut (fun ρ O => ∃ (b5 : Nat) (kA : DK) (kG : DK) (b6 : Nat) (kB : DK) (kH : DK), O = [oI b5 27 (cC U G kA kG), oI b6 27 (cC V H kB kH), dI 48 4 3 U kA, dI 48 4 3 G kG, dI 48 4 3 V kB, dI 48 4 3 H kH, oI z2 27 (cC b h jb jh), oI z1 27 (cC a g ja jg)] ∧ Heads [(0, (cV a g ja jg)), (1, (cV b h jb jh)), (2, (.pointer (aD z1))), (3, (.pointer (aD z2))), (4, .bool false), (5, (.pointer (aD b5))), (6, (.pointer (aD b6)))] ρ) ?_ ?_
 ·refine T.treeT [oI z2 27 (cC b h jb jh), oI z1 27 (cC a g ja jg)] [6, 7] 8 mixed rfl (by exact Sub.rf) (fun _ _ _ h => h) ?_
  refine RO.quietTT 0 rfl (by kernel_rfl) (q_la 1 uT27 rfl inf27 rfl rfl rfl) ?_
  refine RO.quietTT 2 rfl (by kernel_rfl) (q_la 0 uT27 rfl inf27 rfl rfl rfl) ?_
  refine RO.makers (Wt := WtM) (fuel := 2) [⟨1, 27, fun x => (cV U G x.k x.k2), fun x => [dI 48 4 3 U x.k, dI 48 4 3 G x.k2]⟩, ⟨4, 5, fun x => (.pointer (some ⟨x.n, 0, none⟩)), fun x => [oI x.n 27 [(vI 0), (vI 0), nS, nS, (vI 0), (vI 0), nS, nS]]⟩, ⟨3, 29, fun x => (cV V H x.k x.k2), fun x => [dI 48 4 3 V x.k, dI 48 4 3 H x.k2]⟩, ⟨5, 6, fun x => (.pointer (some ⟨x.n, 0, none⟩)), fun x => [oI x.n 27 [(vI 0), (vI 0), nS, nS, (vI 0), (vI 0), nS, nS]]⟩] [(0, (cV a g ja jg)), (1, (cV b h jb jh)), (2, (.pointer (aD z1))), (3, (.pointer (aD z2))), (4, .bool false), (26, (cV a g ja jg)), (28, (cV b h jb jh))] (fun _ => WtM.z) (by kernel_rfl) (by exact Sub.rf) ?_ ?_ (.of rfl)
  ·intro q hq
   simp only [List.mem_cons, List.not_mem_nil, or_false] at hq
   rcases hq with rfl | rfl | rfl | rfl
   ·refine ⟨_, rfl, rfl, fun ρ O hS hH => ?_⟩
    obtain ⟨ρ0, rfl⟩ := hH.elim
    clear hH
    refine l_call ent7 (CallT.op fun w1 hI => (haveI := tbz hI; pairK w1 a g ja jg (hI.atB ha) (hI.atB hg) ca cg ba bg eU eG)) rfl ?_
    rintro vr O' ⟨N, rfl, kA, kG, rfl, rfl⟩
    exact ⟨{ WtM.z with k := kA, k2 := kG }, rfl, rfl⟩
   ·refine ⟨_, rfl, rfl, fun ρ O hS hH => ?_⟩
    obtain ⟨ρ0, rfl⟩ := hH.elim
    clear hH
    exact l_alloc inf27 rfl (fun b5 => ⟨{ WtM.z with n := b5 }, rfl, rfl⟩)
   ·refine ⟨_, rfl, rfl, fun ρ O hS hH => ?_⟩
    obtain ⟨ρ0, rfl⟩ := hH.elim
    clear hH
    refine l_call ent7 (CallT.op fun w1 hI => (haveI := tbz hI; pairK w1 b h jb jh (hI.atB hb) (hI.atB hh) cb ch bb bh eV eH)) rfl ?_
    rintro vr O' ⟨N, rfl, kB, kH, rfl, rfl⟩
    exact ⟨{ WtM.z with k := kB, k2 := kH }, rfl, rfl⟩
   ·refine ⟨_, rfl, rfl, fun ρ O hS hH => ?_⟩
    obtain ⟨ρ0, rfl⟩ := hH.elim
    clear hH
    exact l_alloc inf27 rfl (fun b6 => ⟨{ WtM.z with n := b6 }, rfl, rfl⟩)
  intro wm ρ hH
  obtain ⟨kA, e9kA⟩ : ∃ x, x = (wm 1).k := ⟨_, rfl⟩
  obtain ⟨kG, e9kG⟩ : ∃ x, x = (wm 1).k2 := ⟨_, rfl⟩
  obtain ⟨b5, e9b5⟩ : ∃ x, x = (wm 4).n := ⟨_, rfl⟩
  obtain ⟨kB, e9kB⟩ : ∃ x, x = (wm 3).k := ⟨_, rfl⟩
  obtain ⟨kH, e9kH⟩ : ∃ x, x = (wm 3).k2 := ⟨_, rfl⟩
  obtain ⟨b6, e9b6⟩ : ∃ x, x = (wm 5).n := ⟨_, rfl⟩
  have hH2 : Heads [(27, (cV U G kA kG)), (5, (.pointer (aD b5))), (29, (cV V H kB kH)), (6, (.pointer (aD b6))), (0, (cV a g ja jg)), (1, (cV b h jb jh)), (2, (.pointer (aD z1))), (3, (.pointer (aD z2))), (4, .bool false), (26, (cV a g ja jg)), (28, (cV b h jb jh))] ρ := by subst e9kA e9kG e9b5 e9kB e9kH e9b6; exact hH
  refine RO.sub (O' := [dI 48 4 3 U kA, dI 48 4 3 G kG, oI b5 27 [(vI 0), (vI 0), nS, nS, (vI 0), (vI 0), nS, nS], dI 48 4 3 V kB, dI 48 4 3 H kH, oI b6 27 [(vI 0), (vI 0), nS, nS, (vI 0), (vI 0), nS, nS], oI z2 27 (cC b h jb jh), oI z1 27 (cC a g ja jg)]) (by subst e9kA e9kG e9b5 e9kB e9kH e9b6; exact Sub.rf) ?_
  clear hH e9kA e9kG e9b5 e9kB e9kH e9b6
  obtain ⟨ρ0, rfl⟩ := hH2.elim
  clear hH2
  refine RO.forkT [6] (by kernel_rfl) rfl ⟨⟨_, rfl, rfl, l_sb (v := (cV U G kA kG)) (vs := (cC U G kA kG)) 2 inf27 rfl rfl rfl rfl rfl rfl (by simp [putL]) ⟨.inl (by decide), ?_⟩⟩, trivial⟩ (by kernel_rfl)
  refine RO.sub (O' := [dI 48 4 3 U kA, dI 48 4 3 G kG, oI b5 27 (cC U G kA kG), dI 48 4 3 V kB, dI 48 4 3 H kH, oI b6 27 [(vI 0), (vI 0), nS, nS, (vI 0), (vI 0), nS, nS], oI z2 27 (cC b h jb jh), oI z1 27 (cC a g ja jg)]) (by exact Sub.rf) ?_
  refine RO.forkT [7] (by kernel_rfl) rfl ⟨⟨_, rfl, rfl, l_sb (v := (cV V H kB kH)) (vs := (cC V H kB kH)) 5 inf27 rfl rfl rfl rfl rfl rfl (by simp [putL]) ⟨.inl (by decide), ?_⟩⟩, trivial⟩ (by kernel_rfl)
  refine RO.sub (O' := [dI 48 4 3 U kA, dI 48 4 3 G kG, oI b5 27 (cC U G kA kG), dI 48 4 3 V kB, dI 48 4 3 H kH, oI b6 27 (cC V H kB kH), oI z2 27 (cC b h jb jh), oI z1 27 (cC a g ja jg)]) (by exact Sub.rf) ?_
  exact RO.fin (by kernel_rfl) ⟨b5, kA, kG, b6, kB, kH, rfl, (.of rfl)⟩ (Sub.pick [2, 4, 0, 0, 0, 0, 0, 0] rfl)
 rintro ρ O ⟨b5, kA, kG, b6, kB, kH, rfl, hH⟩
 obtain ⟨ρ0, rfl⟩ := hH.elim
 clear hH
 refine T.s (T.s (T.rg (TO.qa rfl (TO.nl (T.block ?_)))))
 refine T.loopS (fun (r9 : Nat) ρ O => O = [oI b5 27 (cC U G kA kG), oI b6 27 (cC V H kB kH), dI 48 4 3 U kA, dI 48 4 3 G kG, dI 48 4 3 V kB, dI 48 4 3 H kH, oI z2 27 (cC b h jb jh), oI z1 27 (cC a g ja jg)] ∧ r9 ≤ 2 ∧ Heads [(0, (cV a g ja jg)), (1, (cV b h jb jh)), (2, (.pointer (aD z1))), (3, (.pointer (aD z2))), (5, (.pointer (aD b5))), (6, (.pointer (aD b6))), (7, vI ((r9 : Nat) : Int))] ρ) (fun r9 => 2 - r9) 0 ?_ ?_
 ·exact ⟨rfl, Nat.zero_le _, (.of rfl)⟩
 rintro r9 ρ O ⟨rfl, hr9, hH⟩
 obtain ⟨ρ0, rfl⟩ := hH.elim
 clear hH
 refine T.s (T.s (T.rg (TO.qm rfl (TO.q (q_lss rfl rfl) (TO.nl (T.condP rfl (fun hc => ?_) (fun hc => ?_)))))))
 ·have hlt31 : r9 < 2 := by omega
  refine T.skip (T.s (T.block (T.s (T.rg (TO.q (q_la 0 uT27 rfl inf27 rfl rfl rfl) (TO.q (q_la 1 uT27 rfl inf27 rfl rfl rfl) (TO.l rfl (l_call ent20 (CallT.op fun w1 hI => (haveI := tbz hI; refU w1 U G V H kA kG kB kH (hI.at (k := kA) (mG 2 rfl)) (hI.at (k := kG) (mG 3 rfl)) (hI.at (k := kB) (mG 4 rfl)) (hI.at (k := kH) (mG 5 rfl)) bU bG bV bH lU lG lV lH hE hi0 hi1 hi2)) rfl ?_))))))))
  rintro vr O' ⟨N, rfl, wb1, wc1, rfl, rfl⟩
  refine TO.qm rfl (TO.q (q_extract (vs := _) rfl rfl) (TO.q (q_extract (vs := _) rfl rfl) (TO.q (q_extract (vs := _) rfl rfl) (TO.qa rfl (TO.qa rfl (TO.qa rfl (TO.nl ?_)))))))
  refine T.reset [rowI wb1 wc1 5 1 (byts (r.getD [])), oI b5 27 (cC U G kA kG), oI b6 27 (cC V H kB kH), dI 48 4 3 U kA, dI 48 4 3 G kG, dI 48 4 3 V kB, dI 48 4 3 H kH, oI z2 27 (cC b h jb jh), oI z1 27 (cC a g ja jg)] [(0, (cV a g ja jg)), (1, (cV b h jb jh)), (2, (.pointer (aD z1))), (3, (.pointer (aD z2))), (5, (.pointer (aD b5))), (6, (.pointer (aD b6))), (7, vI ((r9 : Nat) : Int)), (8, (.slice wb1 ((r.getD []).length) wc1)), (9, .bool bo), (10, vI (eB : Int))] rfl (.of rfl) (fun ρ0 => ?_)
  refine T.s (T.rg (TO.q (q_la 1 uT27 rfl inf27 rfl rfl rfl) (TO.q (q_la 2 uT27 rfl inf27 rfl rfl rfl) (TO.l rfl (l_call ent21 (CallT.op fun w1 hI => (haveI := tbz hI; rRefU w1 U G V H kA kG kB kH (hI.at (k := kA) (mG 3 rfl)) (hI.at (k := kG) (mG 4 rfl)) (hI.at (k := kB) (mG 5 rfl)) (hI.at (k := kH) (mG 6 rfl)) bU bG bV bH lU lG lV lH hE hi0 hi1 hi2)) rfl ?_)))))
  rintro vr O' ⟨N, rfl, wb2, wc2, rfl, rfl⟩
  refine TO.qm rfl (TO.q (q_extract (vs := _) rfl rfl) (TO.q (q_extract (vs := _) rfl rfl) (TO.q (q_extract (vs := _) rfl rfl) (TO.qa rfl (TO.qa rfl (TO.qa rfl (TO.nl (T.s (T.rg (TO.q (q_la 2 uT27 rfl inf27 rfl rfl rfl) (TO.q (q_la 3 uT27 rfl inf27 rfl rfl rfl) (TO.l rfl (l_call ent22 (CallT.op fun w1 hI => (haveI := tbz hI; meetU w1 U G V H kA kG kB kH (hI.at (k := kA) (mG 4 rfl)) (hI.at (k := kG) (mG 5 rfl)) (hI.at (k := kB) (mG 6 rfl)) (hI.at (k := kH) (mG 7 rfl)) bU bG bV bH lU lG lV lH hE hm0 hm1)) rfl ?_)))))))))))))
  rintro vr O' ⟨N, rfl, kP1, kQ1, rfl, rfl⟩
  refine TO.qm rfl (TO.q (q_extract (vs := _) rfl rfl) (TO.q (q_extract (vs := _) rfl rfl) (TO.l rfl (l_alloc inf27 rfl (fun z3 => ?_)))))
  refine TO.l rfl (l_sb (v := (cV P1 Q1 kP1 kQ1)) (vs := (cC P1 Q1 kP1 kQ1)) 0 inf27 rfl rfl rfl rfl rfl rfl (by simp [putL]) ?_)
  refine TO.qa rfl (TO.nl ?_)
  refine T.reset [oI z3 27 (cC P1 Q1 kP1 kQ1), dI 48 4 3 P1 kP1, dI 48 4 3 Q1 kQ1, rowI wb2 wc2 5 1 (byts (r.getD [])), rowI wb1 wc1 5 1 (byts (r.getD [])), oI b5 27 (cC U G kA kG), oI b6 27 (cC V H kB kH), dI 48 4 3 U kA, dI 48 4 3 G kG, dI 48 4 3 V kB, dI 48 4 3 H kH, oI z2 27 (cC b h jb jh), oI z1 27 (cC a g ja jg)] [(0, (cV a g ja jg)), (1, (cV b h jb jh)), (2, (.pointer (aD z1))), (3, (.pointer (aD z2))), (5, (.pointer (aD b5))), (6, (.pointer (aD b6))), (7, vI ((r9 : Nat) : Int)), (8, (.slice wb1 ((r.getD []).length) wc1)), (9, .bool bo), (10, vI (eB : Int)), (11, (.slice wb2 ((r.getD []).length) wc2)), (12, .bool bo), (13, vI (eB : Int)), (14, (.pointer (aD z3))), (15, vI (eB : Int))] rfl (.of rfl) (fun ρ0 => ?_)
  refine T.s (T.rg (TO.q (q_la 5 uT27 rfl inf27 rfl rfl rfl) (TO.q (q_la 6 uT27 rfl inf27 rfl rfl rfl) (TO.l rfl (l_call ent23 (CallT.op fun w1 hI => (haveI := tbz hI; rMeetU w1 U G V H kA kG kB kH (hI.at (k := kA) (mG 7 rfl)) (hI.at (k := kG) (mG 8 rfl)) (hI.at (k := kB) (mG 9 rfl)) (hI.at (k := kH) (mG 10 rfl)) bU bG bV bH lU lG lV lH hE hm0 hm1)) rfl ?_)))))
  rintro vr O' ⟨N, rfl, krP1, krQ1, rfl, rfl⟩
  refine TO.qm rfl (TO.q (q_extract (vs := _) rfl rfl) (TO.q (q_extract (vs := _) rfl rfl) (TO.l rfl (l_alloc inf27 rfl (fun z4 => ?_)))))
  refine TO.l rfl (l_sb (v := (cV P1 Q1 krP1 krQ1)) (vs := (cC P1 Q1 krP1 krQ1)) 0 inf27 rfl rfl rfl rfl rfl rfl (by simp [putL]) ?_)
  refine TO.qa rfl (TO.nl (T.s (T.rg (TO.q (q_la 8 uT27 rfl inf27 rfl rfl rfl) (TO.q (q_la 9 uT27 rfl inf27 rfl rfl rfl) (TO.l rfl (l_call ent24 (CallT.op fun w1 hI => (haveI := tbz hI; joinU w1 U G V H kA kG kB kH (hI.at (k := kA) (mG 10 rfl)) (hI.at (k := kG) (mG 11 rfl)) (hI.at (k := kB) (mG 12 rfl)) (hI.at (k := kH) (mG 13 rfl)) bU bG bV bH lU lG lV lH hE hj0 hj1)) rfl ?_)))))))
  rintro vr O' ⟨N, rfl, kP2, kQ2, rfl, rfl⟩
  refine TO.qm rfl (TO.q (q_extract (vs := _) rfl rfl) (TO.q (q_extract (vs := _) rfl rfl) (TO.l rfl (l_alloc inf27 rfl (fun z5 => ?_)))))
  refine TO.l rfl (l_sb (v := (cV P2 Q2 kP2 kQ2)) (vs := (cC P2 Q2 kP2 kQ2)) 0 inf27 rfl rfl rfl rfl rfl rfl (by simp [putL]) ?_)
  refine TO.qa rfl (TO.nl ?_)
  refine T.reset [oI z5 27 (cC P2 Q2 kP2 kQ2), dI 48 4 3 P2 kP2, dI 48 4 3 Q2 kQ2, oI z4 27 (cC P1 Q1 krP1 krQ1), dI 48 4 3 P1 krP1, dI 48 4 3 Q1 krQ1, oI z3 27 (cC P1 Q1 kP1 kQ1), dI 48 4 3 P1 kP1, dI 48 4 3 Q1 kQ1, rowI wb2 wc2 5 1 (byts (r.getD [])), rowI wb1 wc1 5 1 (byts (r.getD [])), oI b5 27 (cC U G kA kG), oI b6 27 (cC V H kB kH), dI 48 4 3 U kA, dI 48 4 3 G kG, dI 48 4 3 V kB, dI 48 4 3 H kH, oI z2 27 (cC b h jb jh), oI z1 27 (cC a g ja jg)] [(0, (cV a g ja jg)), (1, (cV b h jb jh)), (2, (.pointer (aD z1))), (3, (.pointer (aD z2))), (5, (.pointer (aD b5))), (6, (.pointer (aD b6))), (7, vI ((r9 : Nat) : Int)), (8, (.slice wb1 ((r.getD []).length) wc1)), (9, .bool bo), (10, vI (eB : Int)), (11, (.slice wb2 ((r.getD []).length) wc2)), (12, .bool bo), (13, vI (eB : Int)), (14, (.pointer (aD z3))), (15, vI (eB : Int)), (16, (.pointer (aD z4))), (17, vI (eB : Int)), (18, (.pointer (aD z5))), (19, vI (eB : Int))] rfl (.of rfl) (fun ρ0 => ?_)
  refine T.s (T.rg (TO.q (q_la 11 uT27 rfl inf27 rfl rfl rfl) (TO.q (q_la 12 uT27 rfl inf27 rfl rfl rfl) (TO.l rfl (l_call ent25 (CallT.op fun w1 hI => (haveI := tbz hI; rJoinU w1 U G V H kA kG kB kH (hI.at (k := kA) (mG 13 rfl)) (hI.at (k := kG) (mG 14 rfl)) (hI.at (k := kB) (mG 15 rfl)) (hI.at (k := kH) (mG 16 rfl)) bU bG bV bH lU lG lV lH hE hj0 hj1)) rfl ?_)))))
  rintro vr O' ⟨N, rfl, krP2, krQ2, rfl, rfl⟩
  refine TO.qm rfl (TO.q (q_extract (vs := _) rfl rfl) (TO.q (q_extract (vs := _) rfl rfl) (TO.l rfl (l_alloc inf27 rfl (fun z6 => ?_)))))
  refine TO.l rfl (l_sb (v := (cV P2 Q2 krP2 krQ2)) (vs := (cC P2 Q2 krP2 krQ2)) 0 inf27 rfl rfl rfl rfl rfl rfl (by simp [putL]) ?_)
  refine TO.qa rfl (TO.nl (T.s (T.rg (TO.q (q_la 14 uT27 rfl inf27 rfl rfl rfl) (TO.q (q_la 15 uT27 rfl inf27 rfl rfl rfl) (TO.l rfl (l_call ent26 (CallT.op fun w1 hI => (haveI := tbz hI; compU w1 U G V H kA kG kB kH (hI.at (k := kA) (mG 16 rfl)) (hI.at (k := kG) (mG 17 rfl)) (hI.at (k := kB) (mG 18 rfl)) (hI.at (k := kH) (mG 19 rfl)) bU bG bV bH lU lG lV lH hE hc0 hc1)) rfl ?_)))))))
  rintro vr O' ⟨N, rfl, kP3, kQ3, rfl, rfl⟩
  refine TO.qm rfl (TO.q (q_extract (vs := _) rfl rfl) (TO.q (q_extract (vs := _) rfl rfl) (TO.l rfl (l_alloc inf27 rfl (fun z7 => ?_)))))
  refine TO.l rfl (l_sb (v := (cV P3 Q3 kP3 kQ3)) (vs := (cC P3 Q3 kP3 kQ3)) 0 inf27 rfl rfl rfl rfl rfl rfl (by simp [putL]) ?_)
  refine TO.qa rfl (TO.nl ?_)
  refine T.reset [oI z7 27 (cC P3 Q3 kP3 kQ3), dI 48 4 3 P3 kP3, dI 48 4 3 Q3 kQ3, oI z6 27 (cC P2 Q2 krP2 krQ2), dI 48 4 3 P2 krP2, dI 48 4 3 Q2 krQ2, oI z5 27 (cC P2 Q2 kP2 kQ2), dI 48 4 3 P2 kP2, dI 48 4 3 Q2 kQ2, oI z4 27 (cC P1 Q1 krP1 krQ1), dI 48 4 3 P1 krP1, dI 48 4 3 Q1 krQ1, oI z3 27 (cC P1 Q1 kP1 kQ1), dI 48 4 3 P1 kP1, dI 48 4 3 Q1 kQ1, rowI wb2 wc2 5 1 (byts (r.getD [])), rowI wb1 wc1 5 1 (byts (r.getD [])), oI b5 27 (cC U G kA kG), oI b6 27 (cC V H kB kH), dI 48 4 3 U kA, dI 48 4 3 G kG, dI 48 4 3 V kB, dI 48 4 3 H kH, oI z2 27 (cC b h jb jh), oI z1 27 (cC a g ja jg)] [(0, (cV a g ja jg)), (1, (cV b h jb jh)), (2, (.pointer (aD z1))), (3, (.pointer (aD z2))), (5, (.pointer (aD b5))), (6, (.pointer (aD b6))), (7, vI ((r9 : Nat) : Int)), (8, (.slice wb1 ((r.getD []).length) wc1)), (9, .bool bo), (10, vI (eB : Int)), (11, (.slice wb2 ((r.getD []).length) wc2)), (12, .bool bo), (13, vI (eB : Int)), (14, (.pointer (aD z3))), (15, vI (eB : Int)), (16, (.pointer (aD z4))), (17, vI (eB : Int)), (18, (.pointer (aD z5))), (19, vI (eB : Int)), (20, (.pointer (aD z6))), (21, vI (eB : Int)), (22, (.pointer (aD z7))), (23, vI (eB : Int))] rfl (.of rfl) (fun ρ0 => ?_)
  refine T.s (T.rg (TO.q (q_la 17 uT27 rfl inf27 rfl rfl rfl) (TO.q (q_la 18 uT27 rfl inf27 rfl rfl rfl) (TO.l rfl (l_call ent27 (CallT.op fun w1 hI => (haveI := tbz hI; rCompU w1 U G V H kA kG kB kH (hI.at (k := kA) (mG 19 rfl)) (hI.at (k := kG) (mG 20 rfl)) (hI.at (k := kB) (mG 21 rfl)) (hI.at (k := kH) (mG 22 rfl)) bU bG bV bH lU lG lV lH hE hc0 hc1)) rfl ?_)))))
  rintro vr O' ⟨N, rfl, krP3, krQ3, rfl, rfl⟩
  refine TO.qm rfl (TO.q (q_extract (vs := _) rfl rfl) (TO.q (q_extract (vs := _) rfl rfl) (TO.l rfl (l_alloc inf27 rfl (fun z8 => ?_)))))
  refine TO.l rfl (l_sb (v := (cV P3 Q3 krP3 krQ3)) (vs := (cC P3 Q3 krP3 krQ3)) 0 inf27 rfl rfl rfl rfl rfl rfl (by simp [putL]) ?_)
  refine TO.qa rfl (TO.nl (T.s (T.s ?_)))
  refine T.draws [oI z8 27 (cC P3 Q3 krP3 krQ3), oI z7 27 (cC P3 Q3 kP3 kQ3), oI z6 27 (cC P2 Q2 krP2 krQ2), oI z5 27 (cC P2 Q2 kP2 kQ2), oI z4 27 (cC P1 Q1 krP1 krQ1), oI z3 27 (cC P1 Q1 kP1 kQ1), oI b5 27 (cC U G kA kG), oI b6 27 (cC V H kB kH), oI z2 27 (cC b h jb jh), oI z1 27 (cC a g ja jg)] [(0, 0), (1, 0), (2, 1), (3, 0), (4, 0), (5, 0), (6, 0), (7, 0), (8, 0), (9, 0), (10, 0), (11, 0), (12, 0), (13, 0), (14, 0), (15, 0), (16, 0), (17, 1), (18, 0), (19, 0), (20, 0), (21, 0), (22, 0), (23, 0), (24, 0), (25, 0), (26, 0), (27, 0), (28, 1), (29, 0), (30, 0), (31, 0), (32, 0), (33, 0), (34, 0), (35, 0), (36, 0), (37, 0), (38, 0), (39, 1), (40, 0), (41, 0), (42, 0), (43, 0), (44, 0), (45, 0), (46, 0), (47, 0), (48, 0), (49, 0), (50, 1), (51, 1), (52, 0), (53, 0), (54, 0), (55, 0), (56, 0), (57, 1), (58, 2), (59, 2), (60, 2)] mixed (drawF_ok (by kernel_rfl)) (by exact Sub.k (.d (.d (.k (.d (.d (.k (.d (.d (.k (.d (.d (.k (.d (.d (.k (.d (.d (.d (.d (.k (.k (.d (.d (.d (.d (.k (.k .z)))))))))))))))))))))))))))) (fun _ _ _ h => h) ?_
  refine DO.q rfl (q_move rfl) (DO.q rfl (q_move rfl) ?_)
  refine DO.loud rfl rfl (l_call ent15 (CallT.op fun w1 hI => (haveI := tbz hI; (show PureT _ _ _ _ _ from by
    have h9 := equalBytes w1 wb1 wb2 wc1 wc2 (r.getD []) (r.getD []) (hI.slOf (mG 19 rfl)) (hI.slOf (mG 18 rfl)) (by omega)
    rw [decide_eq_true rfl] at h9
    exact h9))) rfl ?_)
  rintro vr O' ⟨N, rfl, rfl, rfl⟩
  refine ⟨by exact Sub.k (.d (.d (.k (.d (.d (.k (.d (.d (.k (.d (.d (.k (.d (.d (.k (.d (.d (.d (.d (.k (.k (.d (.d (.d (.d (.k (.k .z))))))))))))))))))))))))))), ?_⟩
  refine DO.q rfl (q_not rfl) (DO.q rfl (q_move rfl) ?_)
  refine DO.guarded rfl rfl rfl (q_move rfl) ?_
  refine DO.guarded rfl rfl rfl (q_move rfl) ?_
  refine DO.guarded rfl rfl rfl (QT.toB (q_bneq uT4 rfl rfl) (bne_self_eq_false _)) ?_
  refine DO.q rfl (q_pick0 rfl rfl) (DO.q rfl (q_move rfl) ?_)
  refine DO.guarded rfl rfl rfl (q_move rfl) ?_
  refine DO.guarded rfl rfl rfl (q_move rfl) ?_
  refine DO.guarded rfl rfl rfl (QT.toB (q_neq rfl rfl) (decide_eq_false (fun h => h rfl))) ?_
  refine DO.q rfl (q_pick0 rfl rfl) (DO.q rfl (q_move rfl) ?_)
  refine DO.guarded rfl rfl rfl (q_la 5 uT27 rfl inf27 rfl rfl rfl) ?_
  refine DO.guarded rfl rfl rfl (q_la 4 uT27 rfl inf27 rfl rfl rfl) ?_
  refine DO.loudG rfl rfl rfl rfl (l_call ent14 (CallT.op fun w1 hI => (haveI := tbz hI; equalC w1 P1 Q1 kP1 kQ1 krP1 krQ1 (hI.at (k := kP1) (mG 16 rfl)) (hI.at (k := kQ1) (mG 17 rfl)) (hI.at (k := krP1) (mG 13 rfl)) (hI.at (k := krQ1) (mG 14 rfl)) bP1 bQ1)) rfl ?_)
  rintro vr O' ⟨N, rfl, rfl, rfl⟩
  refine ⟨by exact Sub.k (.d (.d (.k (.d (.d (.k (.d (.d (.k (.d (.d (.k (.d (.d (.k (.d (.d (.d (.d (.k (.k (.d (.d (.d (.d (.k (.k .z))))))))))))))))))))))))))), ?_⟩
  refine DO.guarded rfl rfl rfl (q_not rfl) ?_
  refine DO.q rfl (q_pick0 rfl rfl) (DO.q rfl (q_move rfl) ?_)
  refine DO.guarded rfl rfl rfl (q_move rfl) ?_
  refine DO.guarded rfl rfl rfl (q_move rfl) ?_
  refine DO.guarded rfl rfl rfl (QT.toB (q_neq rfl rfl) (decide_eq_false (fun h => h rfl))) ?_
  refine DO.q rfl (q_pick0 rfl rfl) (DO.q rfl (q_move rfl) ?_)
  refine DO.guarded rfl rfl rfl (q_la 3 uT27 rfl inf27 rfl rfl rfl) ?_
  refine DO.guarded rfl rfl rfl (q_la 2 uT27 rfl inf27 rfl rfl rfl) ?_
  refine DO.loudG rfl rfl rfl rfl (l_call ent14 (CallT.op fun w1 hI => (haveI := tbz hI; equalC w1 P2 Q2 kP2 kQ2 krP2 krQ2 (hI.at (k := kP2) (mG 10 rfl)) (hI.at (k := kQ2) (mG 11 rfl)) (hI.at (k := krP2) (mG 7 rfl)) (hI.at (k := krQ2) (mG 8 rfl)) bP2 bQ2)) rfl ?_)
  rintro vr O' ⟨N, rfl, rfl, rfl⟩
  refine ⟨by exact Sub.k (.d (.d (.k (.d (.d (.k (.d (.d (.k (.d (.d (.k (.d (.d (.k (.d (.d (.d (.d (.k (.k (.d (.d (.d (.d (.k (.k .z))))))))))))))))))))))))))), ?_⟩
  refine DO.guarded rfl rfl rfl (q_not rfl) ?_
  refine DO.q rfl (q_pick0 rfl rfl) (DO.q rfl (q_move rfl) ?_)
  refine DO.guarded rfl rfl rfl (q_move rfl) ?_
  refine DO.guarded rfl rfl rfl (q_move rfl) ?_
  refine DO.guarded rfl rfl rfl (QT.toB (q_neq rfl rfl) (decide_eq_false (fun h => h rfl))) ?_
  refine DO.q rfl (q_pick0 rfl rfl) (DO.q rfl (q_move rfl) ?_)
  refine DO.guarded rfl rfl rfl (q_la 1 uT27 rfl inf27 rfl rfl rfl) ?_
  refine DO.guarded rfl rfl rfl (q_la 0 uT27 rfl inf27 rfl rfl rfl) ?_
  refine DO.loudG rfl rfl rfl rfl (l_call ent14 (CallT.op fun w1 hI => (haveI := tbz hI; equalC w1 P3 Q3 kP3 kQ3 krP3 krQ3 (hI.at (k := kP3) (mG 4 rfl)) (hI.at (k := kQ3) (mG 5 rfl)) (hI.at (k := krP3) (mG 1 rfl)) (hI.at (k := krQ3) (mG 2 rfl)) bP3 bQ3)) rfl ?_)
  rintro vr O' ⟨N, rfl, rfl, rfl⟩
  refine ⟨by exact Sub.k (.d (.d (.k (.d (.d (.k (.d (.d (.k (.d (.d (.k (.d (.d (.k (.d (.d (.d (.d (.k (.k (.d (.d (.d (.d (.k (.k .z))))))))))))))))))))))))))), ?_⟩
  refine DO.guarded rfl rfl rfl (q_not rfl) ?_
  refine DO.q rfl (q_pick0 rfl rfl) (DO.q rfl (q_move rfl) ?_)
  refine DO.guarded rfl rfl rfl (q_move rfl) ?_
  refine DO.guarded rfl rfl rfl (q_move rfl) ?_
  refine DO.guarded rfl rfl rfl (QT.toB (q_neq rfl rfl) (decide_eq_false (fun h => h rfl))) ?_
  refine DO.q rfl (q_pick0 rfl rfl) (DO.q rfl (q_move rfl) ?_)
  refine DO.guarded rfl rfl rfl (q_la 6 uT27 rfl inf27 rfl rfl rfl) ?_
  refine DO.guarded rfl rfl rfl (q_la 9 uT27 rfl inf27 rfl rfl rfl) ?_
  refine DO.loudG rfl rfl rfl rfl (l_call ent7 (CallT.op fun w1 hI => (haveI := tbz hI; pairK w1 a g ja jg (hI.atB ha) (hI.atB hg) ca cg ba bg eU eG)) rfl ?_)
  rintro vr O' ⟨N, rfl, kA3, kG3, rfl, rfl⟩
  refine ⟨by exact Sub.d (.d (.k (.d (.d (.k (.d (.d (.k (.d (.d (.k (.d (.d (.k (.d (.d (.k (.d (.d (.d (.d (.k (.k (.d (.d (.d (.d (.k (.k .z))))))))))))))))))))))))))))), ?_⟩
  refine DO.loudG rfl rfl rfl rfl (l_call ent14 (CallT.op fun w1 hI => (haveI := tbz hI; equalC w1 U G kA kG kA3 kG3 (hI.at (k := kA) (mG 24 rfl)) (hI.at (k := kG) (mG 25 rfl)) (hI.at (k := kA3) (mG 0 rfl)) (hI.at (k := kG3) (mG 1 rfl)) bU bG)) rfl ?_)
  rintro vr O' ⟨N, rfl, rfl, rfl⟩
  refine ⟨by exact Sub.d (.d (.k (.d (.d (.k (.d (.d (.k (.d (.d (.k (.d (.d (.k (.d (.d (.k (.d (.d (.d (.d (.k (.k (.d (.d (.d (.d (.k (.k .z))))))))))))))))))))))))))))), ?_⟩
  refine DO.guarded rfl rfl rfl (q_not rfl) ?_
  refine DO.q rfl (q_pick0 rfl rfl) (DO.q rfl (q_move rfl) ?_)
  refine DO.guarded rfl rfl rfl (q_la 7 uT27 rfl inf27 rfl rfl rfl) ?_
  refine DO.guarded rfl rfl rfl (q_la 8 uT27 rfl inf27 rfl rfl rfl) ?_
  refine DO.loudG rfl rfl rfl rfl (l_call ent7 (CallT.op fun w1 hI => (haveI := tbz hI; pairK w1 b h jb jh (hI.atB hb) (hI.atB hh) cb ch bb bh eV eH)) rfl ?_)
  rintro vr O' ⟨N, rfl, kB3, kH3, rfl, rfl⟩
  refine ⟨by exact Sub.d (.d (.d (.d (.k (.d (.d (.k (.d (.d (.k (.d (.d (.k (.d (.d (.k (.d (.d (.k (.d (.d (.d (.d (.k (.k (.d (.d (.d (.d (.k (.k .z))))))))))))))))))))))))))))))), ?_⟩
  refine DO.lastG rfl rfl rfl rfl (l_call ent14 (CallT.op fun w1 hI => (haveI := tbz hI; equalC w1 V H kB kH kB3 kH3 (hI.at (k := kB) (mG 28 rfl)) (hI.at (k := kH) (mG 29 rfl)) (hI.at (k := kB3) (mG 0 rfl)) (hI.at (k := kH3) (mG 1 rfl)) bV bH)) rfl ?_)
  rintro vr O' ⟨N, rfl, rfl, rfl⟩
  refine DO.lastG rfl rfl rfl rfl (LT.oq rfl rfl (q_not rfl) ?_)
  refine DO.last rfl rfl (LT.oq rfl rfl (q_pick0 rfl rfl) ?_)
  refine DO.done ?_
  refine T.cond0 rfl (T.skip (T.s (T.rg (TO.q (q_la 19 uT27 rfl inf27 rfl rfl rfl) (TO.l rfl (l_call ent17 (CallT.un [20, 20] (overC w P1 Q1 kP1 kQ1 bP1 bQ1)) rfl ?_))))))
  rintro vr O' ⟨A1, rfl, rfl⟩
  refine TO.nl (T.s (T.rg (TO.q (q_la 13 uT27 rfl inf27 rfl rfl rfl) (TO.l rfl (l_call ent17 (CallT.un [14, 14] (overC w P2 Q2 kP2 kQ2 bP2 bQ2)) rfl ?_)))))
  rintro vr O' ⟨A1, rfl, rfl⟩
  refine TO.nl ?_
  refine T.reset [dI 48 4 3 V kB3, dI 48 4 3 H kH3, dI 48 4 3 U kA3, dI 48 4 3 G kG3, oI z8 27 (cC P3 Q3 krP3 krQ3), dI 48 4 3 P3 krP3, dI 48 4 3 Q3 krQ3, oI z7 27 (cC P3 Q3 kP3 kQ3), dI 48 4 3 P3 kP3, dI 48 4 3 Q3 kQ3, oI z6 27 (cC P2 Q2 krP2 krQ2), dI 48 4 3 P2 krP2, dI 48 4 3 Q2 krQ2, oI z5 27 (cC P2 Q2 kP2 kQ2), oI z4 27 (cC P1 Q1 krP1 krQ1), dI 48 4 3 P1 krP1, dI 48 4 3 Q1 krQ1, oI z3 27 (cC P1 Q1 kP1 kQ1), rowI wb2 wc2 5 1 (byts (r.getD [])), rowI wb1 wc1 5 1 (byts (r.getD [])), oI b5 27 (cC U G kA kG), oI b6 27 (cC V H kB kH), dI 48 4 3 U kA, dI 48 4 3 G kG, dI 48 4 3 V kB, dI 48 4 3 H kH, oI z2 27 (cC b h jb jh), oI z1 27 (cC a g ja jg)] [(0, (cV a g ja jg)), (1, (cV b h jb jh)), (2, (.pointer (aD z1))), (3, (.pointer (aD z2))), (5, (.pointer (aD b5))), (6, (.pointer (aD b6))), (7, vI ((r9 : Nat) : Int)), (8, (.slice wb1 ((r.getD []).length) wc1)), (9, .bool bo), (10, vI (eB : Int)), (11, (.slice wb2 ((r.getD []).length) wc2)), (12, .bool bo), (13, vI (eB : Int)), (14, (.pointer (aD z3))), (15, vI (eB : Int)), (16, (.pointer (aD z4))), (17, vI (eB : Int)), (18, (.pointer (aD z5))), (19, vI (eB : Int)), (20, (.pointer (aD z6))), (21, vI (eB : Int)), (22, (.pointer (aD z7))), (23, vI (eB : Int)), (24, (.pointer (aD z8))), (25, vI (eB : Int))] rfl (.of rfl) (fun ρ0 => ?_)
  refine T.s (T.rg (TO.q (q_la 7 uT27 rfl inf27 rfl rfl rfl) (TO.l rfl (l_call ent17 (CallT.un [8, 8] (overC w P3 Q3 kP3 kQ3 bP3 bQ3)) rfl ?_))))
  rintro vr O' ⟨A1, rfl, rfl⟩
  refine TO.nl (T.rg (TO.qm rfl (TO.l rfl (l_call ent18 (CallT.un [17] (overBytes w wb1 wc1 wc1 (r.getD []) (by omega))) rfl ?_))))
  rintro vr O' ⟨A1, rfl, rfl⟩
  refine TO.nl (T.rg (TO.qm rfl (TO.q (q_addN (a := r9) (b := 1) rfl rfl (by omega)) (TO.qa rfl (TO.nl ?_)))))
  exact ⟨r9 + 1, by omega, [oI b5 27 (cC U G kA kG), oI b6 27 (cC V H kB kH), dI 48 4 3 U kA, dI 48 4 3 G kG, dI 48 4 3 V kB, dI 48 4 3 H kH, oI z2 27 (cC b h jb jh), oI z1 27 (cC a g ja jg)], (by exact Sub.d (.d (.d (.d (.d (.d (.d (.d (.d (.d (.d (.d (.d (.d (.d (.d (.d (.k (.k (.k (.k (.k (.k (.k (.k .z))))))))))))))))))))))))), rfl, by omega, (.of rfl)⟩
 have hge31 : ¬ r9 < 2 := by omega
 refine T.exit ?_
 refine T.s (T.rg (TO.l rfl (l_call ent19 (aW awakeC) rfl ?_)))
 rintro vr O' ⟨N, rfl, rfl, rfl⟩
 refine TO.qa rfl (TO.nl (T.ret (Res.drop ?_)))
 refine Res.one (.bool true) Tryz.results4 rfl ?_
 exact ⟨[], Sub.z, rfl, rfl⟩
end Go.Proofs.YtnpehjpookcfkaaGreatDoor

