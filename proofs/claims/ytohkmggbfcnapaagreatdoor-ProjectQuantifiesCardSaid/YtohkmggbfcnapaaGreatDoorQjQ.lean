/- Contracts of functions of the program (QjQ): what each call answers and that it leaves memory as it was. Conditions: those each theorem names. -/
import Derived.Test.YtohkmggbfcnapaaGreatDoorCoreK
import Derived.Test.YtohkmggbfcnapaaGreatDoorBolE
import Derived.Test.YtohkmggbfcnapaaGreatDoorEnd
set_option linter.unusedSectionVars false
set_option linter.unusedSimpArgs false
set_option linter.unusedVariables false
set_option linter.unnecessarySimpa false
set_option maxHeartbeats 8000000
set_option maxRecDepth 20000
namespace Go.Proofs.YtohkmggbfcnapaaGreatDoor
open Go.Lx Go.RowKit _root_.Go.Proofs.Tryz
theorem quantW (w : World) [Tab Tryz.prog w] (a : DFA) (k : DK) (ha : At w a k) (haa : a.next.length < 9223372036854775807) (haar : ∀ r ∈ a.next, r.length < 9223372036854775807) (haaf : a.final.length < 9223372036854775807) (v B : Int) :
  PureT Tryz.prog 3 [dV a k, vI v, vI B] w fun r N => r = .bool true ∧ N = [] := by
 refine CallT.enter func3 rfl ntmps3 rfl ?_
 refine T.s (T.rg (TO.l rfl (l_box (v := (dV a k)) (cs := (dC a k)) rfl rfl (fun z1 => ?_))))
 refine TO.qa rfl (TO.nl (T.s (T.s (T.rg (TO.q (q_la 0 uT25 rfl inf25 rfl rfl rfl) (TO.l rfl (l_buildSlice (m := 1) (parts := [(0, _)]) (cs := (dC a k)) uT56 inf25 (by decide) (by kernel_rfl) rfl (fun z2 => ?_))))))))
 have hk23 := fun (w1 : World) (hI : Inv w [rowI (aD z2) 1 25 4 (dC a k), oI z1 25 (dC a k)] w1) => (haveI := tbz hI; long1K w1 (aD z2) a k (hI.slOf (mG 0 rfl)) (hI.atB ha) haa)
 refine TO.l rfl (l_call ent10 (CallT.op hk23) rfl ?_)
 clear hk23
 rintro vr O' ⟨N, rfl, rfl, rfl⟩
 refine TO.sub (O' := [oI z1 25 (dC a k)]) (by exact Sub.d (.k .z)) ?_
 refine TO.nl (T.cond rfl (fun hc => ?_) (fun hc => ?_))
 ·refine T.s ?_
  refine T.rg ?_
  have hk24 := fun (w1 : World) (hI : Inv w [oI z1 25 (dC a k)] w1) => (haveI := tbz hI; awakeC w1)
  refine TO.l rfl (l_call ent11 (CallT.op hk24) rfl ?_)
  clear hk24
  rintro vr O' ⟨N, rfl, rfl, rfl⟩
  refine TO.qa rfl (TO.nl (T.ret (Res.drop ?_)))
  refine Res.one (.bool true) Tryz.results3 rfl ?_
  exact ⟨[], Sub.z, rfl, rfl⟩
 refine T.skip (T.s ?_)
 have hnl : ¬ longB [a] = true := by simpa using hc
 have sa : Sh a := longB_one hnl
 have ba : Bd9 a := ⟨haa, haar, haaf⟩
 have hn8 := sa.n8
 obtain ⟨X, eX⟩ : ∃ zz, xsV a v B = zz := ⟨_, rfl⟩
 obtain ⟨x1, ex1⟩ : ∃ zz, xsE a v B = zz := ⟨_, rfl⟩
 obtain ⟨Y, eY⟩ : ∃ zz, alV a v B = zz := ⟨_, rfl⟩
 obtain ⟨x2, ex2⟩ : ∃ zz, alE a v B = zz := ⟨_, rfl⟩
 obtain ⟨bi, ebi⟩ : ∃ zz, igV a v = zz := ⟨_, rfl⟩
 obtain ⟨x3, ex3⟩ : ∃ zz, vE a v = zz := ⟨_, rfl⟩
 have bX : Bd9 X := eX ▸ bdX (fun _ => by omega)
 have bY : Bd9 Y := eY ▸ bdAl (fun _ => by omega)
 refine T.rg (TO.q (q_la 0 uT25 rfl inf25 rfl rfl rfl) ?_)
 have hk26 := fun (w1 : World) (hI : Inv w [oI z1 25 (dC a k)] w1) => (haveI := tbz hI; copyK w1 a k (hI.atB ha) (by have := sa.n8; omega) (fun r hr => by have := sa.r100 r hr; omega) (by have := sa.f40; omega))
 refine TO.l rfl (l_call ent12 (CallT.op hk26) rfl ?_)
 clear hk26
 rintro vr O' ⟨N, rfl, k1, rfl, rfl⟩
 refine TO.l rfl (l_alloc inf25 rfl (fun z3 => ?_))
 refine TO.l rfl (l_sb (v := (dV a k1)) (vs := (dC a k1)) 0 inf25 rfl rfl rfl rfl rfl rfl (by simp [putL]) ?_)
 refine TO.sub (O' := [oI z3 25 (dC a k1), dI 37 4 3 a k1, oI z1 25 (dC a k)]) (by exact Sub.rf) ?_
 refine TO.nl (T.s (T.rg (TO.q (q_la 2 uT25 rfl inf25 rfl rfl rfl) (TO.qm rfl (TO.qm rfl ?_)))))
 have hk31 := fun (w1 : World) (hI : Inv w [oI z3 25 (dC a k1), dI 37 4 3 a k1, oI z1 25 (dC a k)] w1) => (haveI := tbz hI; (show PureT _ _ _ _ _ from by
   have h9 := rexC w1 a k (hI.atB ha) v B ba.1 ba.2.1 ba.2.2 (fun _ => by omega)
   rw [eX, ex1] at h9
   exact h9))
 refine TO.l rfl (l_call ent13 (CallT.op hk31) rfl ?_)
 clear hk31
 rintro vr O' ⟨N, rfl, kX, rfl, rfl⟩
 refine TO.qm rfl (TO.q (q_extract (vs := _) rfl rfl) (TO.q (q_extract (vs := _) rfl rfl) (TO.l rfl (l_alloc inf25 rfl (fun z4 => ?_)))))
 refine TO.l rfl (l_sb (v := (dV X kX)) (vs := (dC X kX)) 0 inf25 rfl rfl rfl rfl rfl rfl (by simp [putL]) ?_)
 refine TO.qa rfl ?_
 refine TO.sub (O' := [oI z4 25 (dC X kX), dI 37 4 3 X kX, oI z3 25 (dC a k1), dI 37 4 3 a k1, oI z1 25 (dC a k)]) (by exact Sub.rf) ?_
 refine TO.nl ?_
 refine T.reset [oI z4 25 (dC X kX), dI 37 4 3 X kX, oI z3 25 (dC a k1), dI 37 4 3 a k1, oI z1 25 (dC a k)] [(0, (dV a k)), (1, vI v), (2, vI B), (3, (.pointer (aD z1))), (6, .bool false), (7, (.pointer (aD z3))), (8, (.pointer (aD z4))), (9, vI (x1 : Int))] rfl (.of rfl) (fun ρ0 => ?_)
 refine T.s (T.rg (TO.q (q_la 4 uT25 rfl inf25 rfl rfl rfl) (TO.qm rfl (TO.qm rfl ?_))))
 have hk38 := fun (w1 : World) (hI : Inv w [oI z4 25 (dC X kX), dI 37 4 3 X kX, oI z3 25 (dC a k1), dI 37 4 3 a k1, oI z1 25 (dC a k)] w1) => (haveI := tbz hI; (show PureT _ _ _ _ _ from by
   have h9 := ralC w1 a k (hI.atB ha) v B ba.1 ba.2.1 ba.2.2 (fun _ => by omega)
   rw [eY, ex2] at h9
   exact h9))
 refine TO.l rfl (l_call ent14 (CallT.op hk38) rfl ?_)
 clear hk38
 rintro vr O' ⟨N, rfl, kY, rfl, rfl⟩
 refine TO.qm rfl (TO.q (q_extract (vs := _) rfl rfl) (TO.q (q_extract (vs := _) rfl rfl) (TO.l rfl (l_alloc inf25 rfl (fun z5 => ?_)))))
 refine TO.l rfl (l_sb (v := (dV Y kY)) (vs := (dC Y kY)) 0 inf25 rfl rfl rfl rfl rfl rfl (by simp [putL]) ?_)
 refine TO.qa rfl ?_
 refine TO.sub (O' := [oI z5 25 (dC Y kY), dI 37 4 3 Y kY, oI z4 25 (dC X kX), dI 37 4 3 X kX, oI z3 25 (dC a k1), dI 37 4 3 a k1, oI z1 25 (dC a k)]) (by exact Sub.rf) ?_
 refine TO.nl (T.s (T.rg (TO.q (q_la 6 uT25 rfl inf25 rfl rfl rfl) (TO.qm rfl ?_))))
 have hk44 := fun (w1 : World) (hI : Inv w [oI z5 25 (dC Y kY), dI 37 4 3 Y kY, oI z4 25 (dC X kX), dI 37 4 3 X kX, oI z3 25 (dC a k1), dI 37 4 3 a k1, oI z1 25 (dC a k)] w1) => (haveI := tbz hI; (show PureT _ _ _ _ _ from by
   have h9 := rigC w1 a k (hI.atB ha) ba.1 ba.2.1 ba.2.2 v
   rw [ebi, ex3] at h9
   exact h9))
 refine TO.l rfl (l_call ent15 (CallT.op hk44) rfl ?_)
 clear hk44
 rintro vr O' ⟨N, rfl, rfl, rfl⟩
 refine TO.qm rfl (TO.q (q_extract (vs := _) rfl rfl) (TO.q (q_extract (vs := _) rfl rfl) (TO.qa rfl (TO.qa rfl (TO.nl ?_)))))
 refine T.reset [oI z5 25 (dC Y kY), dI 37 4 3 Y kY, oI z4 25 (dC X kX), dI 37 4 3 X kX, oI z3 25 (dC a k1), dI 37 4 3 a k1, oI z1 25 (dC a k)] [(0, (dV a k)), (1, vI v), (2, vI B), (3, (.pointer (aD z1))), (6, .bool false), (7, (.pointer (aD z3))), (8, (.pointer (aD z4))), (9, vI (x1 : Int)), (10, (.pointer (aD z5))), (11, vI (x2 : Int)), (12, .bool bi), (13, vI (x3 : Int))] rfl (.of rfl) (fun ρ0 => ?_)
 refine T.s (T.s (T.rg (TO.qa rfl (TO.nl (T.block ?_)))))
 refine T.sub (O' := [oI z5 25 (dC Y kY), dI 37 4 3 Y kY, oI z4 25 (dC X kX), dI 37 4 3 X kX, oI z3 25 (dC a k1), dI 37 4 3 a k1, oI z1 25 (dC a k)]) (by exact Sub.rf) ?_
 refine T.loopS (fun (r : Nat) ρ O => O = [oI z5 25 (dC Y kY), dI 37 4 3 Y kY, oI z4 25 (dC X kX), dI 37 4 3 X kX, oI z3 25 (dC a k1), dI 37 4 3 a k1, oI z1 25 (dC a k)] ∧ r ≤ 2 ∧ Heads [(0, (dV a k)), (1, vI v), (2, vI B), (3, (.pointer (aD z1))), (7, (.pointer (aD z3))), (8, (.pointer (aD z4))), (9, vI (x1 : Int)), (10, (.pointer (aD z5))), (11, vI (x2 : Int)), (12, .bool bi), (13, vI (x3 : Int)), (14, vI ((r : Nat) : Int))] ρ) (fun r => 2 - r) 0 ?_ ?_
 ·exact ⟨rfl, Nat.zero_le _, (.of rfl)⟩
 rintro r ρ O ⟨rfl, hr, hH⟩
 obtain ⟨ρ0, rfl⟩ := hH.elim
 clear hH
 refine T.s (T.s (T.rg (TO.qm rfl (TO.q (q_lss rfl rfl) (TO.nl (T.condP rfl (fun hc => ?_) (fun hc => ?_)))))))
 ·have hlt48 : r < 2 := by omega
  refine T.skip (T.s (T.block (T.s (T.rg (TO.q (q_la 4 uT25 rfl inf25 rfl rfl rfl) (TO.qm rfl (TO.qm rfl ?_)))))))
  have hk55 := fun (w1 : World) (hI : Inv w [oI z5 25 (dC Y kY), dI 37 4 3 Y kY, oI z4 25 (dC X kX), dI 37 4 3 X kX, oI z3 25 (dC a k1), dI 37 4 3 a k1, oI z1 25 (dC a k)] w1) => (haveI := tbz hI; (show PureT _ _ _ _ _ from by
    have h9 := exC w1 a k1 (hI.at (k := k1) (mG 5 rfl)) v B ba.1 ba.2.1 ba.2.2 (fun _ => by omega)
    rw [eX, ex1] at h9
    exact h9))
  refine TO.l rfl (l_call ent16 (CallT.op hk55) rfl ?_)
  clear hk55
  rintro vr O' ⟨N, rfl, kx, rfl, rfl⟩
  refine TO.qm rfl (TO.q (q_extract (vs := _) rfl rfl) (TO.q (q_extract (vs := _) rfl rfl) (TO.l rfl (l_alloc inf25 rfl (fun z6 => ?_)))))
  refine TO.l rfl (l_sb (v := (dV X kx)) (vs := (dC X kx)) 0 inf25 rfl rfl rfl rfl rfl rfl (by simp [putL]) ?_)
  refine TO.qa rfl (TO.nl ?_)
  refine T.reset [oI z6 25 (dC X kx), dI 37 4 3 X kx, oI z5 25 (dC Y kY), dI 37 4 3 Y kY, oI z4 25 (dC X kX), dI 37 4 3 X kX, oI z3 25 (dC a k1), dI 37 4 3 a k1, oI z1 25 (dC a k)] [(0, (dV a k)), (1, vI v), (2, vI B), (3, (.pointer (aD z1))), (7, (.pointer (aD z3))), (8, (.pointer (aD z4))), (9, vI (x1 : Int)), (10, (.pointer (aD z5))), (11, vI (x2 : Int)), (12, .bool bi), (13, vI (x3 : Int)), (14, vI ((r : Nat) : Int)), (15, (.pointer (aD z6))), (16, vI (x1 : Int))] rfl (.of rfl) (fun ρ0 => ?_)
  refine T.s (T.rg (TO.q (q_la 6 uT25 rfl inf25 rfl rfl rfl) (TO.qm rfl (TO.qm rfl ?_))))
  have hk62 := fun (w1 : World) (hI : Inv w [oI z6 25 (dC X kx), dI 37 4 3 X kx, oI z5 25 (dC Y kY), dI 37 4 3 Y kY, oI z4 25 (dC X kX), dI 37 4 3 X kX, oI z3 25 (dC a k1), dI 37 4 3 a k1, oI z1 25 (dC a k)] w1) => (haveI := tbz hI; (show PureT _ _ _ _ _ from by
    have h9 := alC w1 a k1 (hI.at (k := k1) (mG 7 rfl)) v B ba.1 ba.2.1 ba.2.2 (fun _ => by omega)
    rw [eY, ex2] at h9
    exact h9))
  refine TO.l rfl (l_call ent17 (CallT.op hk62) rfl ?_)
  clear hk62
  rintro vr O' ⟨N, rfl, ky, rfl, rfl⟩
  refine TO.qm rfl (TO.q (q_extract (vs := _) rfl rfl) (TO.q (q_extract (vs := _) rfl rfl) (TO.l rfl (l_alloc inf25 rfl (fun z7 => ?_)))))
  refine TO.l rfl (l_sb (v := (dV Y ky)) (vs := (dC Y ky)) 0 inf25 rfl rfl rfl rfl rfl rfl (by simp [putL]) ?_)
  refine TO.qa rfl (TO.nl (T.s (T.rg (TO.q (q_la 8 uT25 rfl inf25 rfl rfl rfl) (TO.qm rfl ?_)))))
  have hk68 := fun (w1 : World) (hI : Inv w [oI z7 25 (dC Y ky), dI 37 4 3 Y ky, oI z6 25 (dC X kx), dI 37 4 3 X kx, oI z5 25 (dC Y kY), dI 37 4 3 Y kY, oI z4 25 (dC X kX), dI 37 4 3 X kX, oI z3 25 (dC a k1), dI 37 4 3 a k1, oI z1 25 (dC a k)] w1) => (haveI := tbz hI; (show PureT _ _ _ _ _ from by
    have h9 := ignC w1 a k1 (hI.at (k := k1) (mG 9 rfl)) ba.1 ba.2.1 ba.2.2 v
    rw [ebi, ex3] at h9
    exact h9))
  refine TO.l rfl (l_call ent18 (CallT.op hk68) rfl ?_)
  clear hk68
  rintro vr O' ⟨N, rfl, rfl, rfl⟩
  refine TO.qm rfl (TO.q (q_extract (vs := _) rfl rfl) (TO.q (q_extract (vs := _) rfl rfl) (TO.qa rfl (TO.qa rfl (TO.nl ?_)))))
  refine T.reset [oI z7 25 (dC Y ky), dI 37 4 3 Y ky, oI z6 25 (dC X kx), dI 37 4 3 X kx, oI z5 25 (dC Y kY), dI 37 4 3 Y kY, oI z4 25 (dC X kX), dI 37 4 3 X kX, oI z3 25 (dC a k1), dI 37 4 3 a k1, oI z1 25 (dC a k)] [(0, (dV a k)), (1, vI v), (2, vI B), (3, (.pointer (aD z1))), (7, (.pointer (aD z3))), (8, (.pointer (aD z4))), (9, vI (x1 : Int)), (10, (.pointer (aD z5))), (11, vI (x2 : Int)), (12, .bool bi), (13, vI (x3 : Int)), (14, vI ((r : Nat) : Int)), (15, (.pointer (aD z6))), (16, vI (x1 : Int)), (17, (.pointer (aD z7))), (18, vI (x2 : Int)), (19, .bool bi), (20, vI (x3 : Int))] rfl (.of rfl) (fun ρ0 => ?_)
  refine T.s (T.s (T.rg (TO.qm rfl (TO.qm rfl (TO.q (QT.toB (q_neq rfl rfl) (decide_eq_false (fun h => h rfl))) (TO.qm rfl (TO.gq rfl rfl (q_move rfl) (TO.gq rfl rfl (q_move rfl) (TO.gq rfl rfl (QT.toB (q_neq rfl rfl) (decide_eq_false (fun h => h rfl))) (TO.q (q_pick0 rfl rfl) (TO.qm rfl (TO.gq rfl rfl (q_move rfl) (TO.gq rfl rfl (q_move rfl) ?_)))))))))))))
  refine TO.gq rfl rfl (QT.toB (q_neq rfl rfl) (decide_eq_false (fun h => h rfl))) (TO.q (q_pick0 rfl rfl) (TO.qm rfl (TO.gq rfl rfl (q_move rfl) (TO.gq rfl rfl (q_move rfl) (TO.gq rfl rfl (QT.cast (q_bneq uT4 rfl rfl) (v' := .bool false) (by simp)) (TO.q (q_pick0 rfl rfl) (TO.qm rfl (TO.gq rfl rfl (q_la 2 uT25 rfl inf25 rfl rfl rfl) (TO.gq rfl rfl (q_la 6 uT25 rfl inf25 rfl rfl rfl) ?_)))))))))
  have hk92 := fun (w1 : World) (hI : Inv w [oI z7 25 (dC Y ky), dI 37 4 3 Y ky, oI z6 25 (dC X kx), dI 37 4 3 X kx, oI z5 25 (dC Y kY), dI 37 4 3 Y kY, oI z4 25 (dC X kX), dI 37 4 3 X kX, oI z3 25 (dC a k1), dI 37 4 3 a k1, oI z1 25 (dC a k)] w1) => (haveI := tbz hI; equalK w1 X kx kX (hI.at (k := kx) (mG 3 rfl)) (hI.at (k := kX) (mG 7 rfl)) bX.1 bX.2.1 bX.2.2)
  refine TO.gd rfl rfl rfl (l_call ent19 (CallT.op hk92) rfl ?_)
  clear hk92
  rintro vr O' ⟨N, rfl, rfl, rfl⟩
  refine TO.gq rfl rfl (q_not rfl) (TO.q (q_pick0 rfl rfl) (TO.qm rfl (TO.gq rfl rfl (q_la 0 uT25 rfl inf25 rfl rfl rfl) (TO.gq rfl rfl (q_la 4 uT25 rfl inf25 rfl rfl rfl) ?_))))
  have hk98 := fun (w1 : World) (hI : Inv w [oI z7 25 (dC Y ky), dI 37 4 3 Y ky, oI z6 25 (dC X kx), dI 37 4 3 X kx, oI z5 25 (dC Y kY), dI 37 4 3 Y kY, oI z4 25 (dC X kX), dI 37 4 3 X kX, oI z3 25 (dC a k1), dI 37 4 3 a k1, oI z1 25 (dC a k)] w1) => (haveI := tbz hI; equalK w1 Y ky kY (hI.at (k := ky) (mG 1 rfl)) (hI.at (k := kY) (mG 5 rfl)) bY.1 bY.2.1 bY.2.2)
  refine TO.gd rfl rfl rfl (l_call ent19 (CallT.op hk98) rfl ?_)
  clear hk98
  rintro vr O' ⟨N, rfl, rfl, rfl⟩
  refine TO.gq rfl rfl (q_not rfl) (TO.q (q_pick0 rfl rfl) (TO.qm rfl (TO.gq rfl rfl (q_la 8 uT25 rfl inf25 rfl rfl rfl) (TO.gq rfl rfl (q_la 10 uT25 rfl inf25 rfl rfl rfl) ?_))))
  have hk104 := fun (w1 : World) (hI : Inv w [oI z7 25 (dC Y ky), dI 37 4 3 Y ky, oI z6 25 (dC X kx), dI 37 4 3 X kx, oI z5 25 (dC Y kY), dI 37 4 3 Y kY, oI z4 25 (dC X kX), dI 37 4 3 X kX, oI z3 25 (dC a k1), dI 37 4 3 a k1, oI z1 25 (dC a k)] w1) => (haveI := tbz hI; equalK w1 a k1 k (hI.at (k := k1) (mG 9 rfl)) (hI.atB ha) ba.1 ba.2.1 ba.2.2)
  refine TO.gd rfl rfl rfl (l_call ent19 (CallT.op hk104) rfl ?_)
  clear hk104
  rintro vr O' ⟨N, rfl, rfl, rfl⟩
  refine TO.gq rfl rfl (q_not rfl) (TO.q (q_pick0 rfl rfl) (TO.nl (T.cond0 rfl (T.skip (T.s (T.rg (TO.q (q_la 2 uT25 rfl inf25 rfl rfl rfl) ?_)))))))
  have hk108 := CallT.under (B := [oI z7 25 (dC Y ky), dI 37 4 3 Y ky, oI z6 25 (dC X kx), oI z5 25 (dC Y kY), dI 37 4 3 Y kY, oI z4 25 (dC X kX), dI 37 4 3 X kX, oI z3 25 (dC a k1), dI 37 4 3 a k1, oI z1 25 (dC a k)]) (O := [oI z7 25 (dC Y ky), dI 37 4 3 Y ky, oI z6 25 (dC X kx), dI 37 4 3 X kx, oI z5 25 (dC Y kY), dI 37 4 3 Y kY, oI z4 25 (dC X kX), dI 37 4 3 X kX, oI z3 25 (dC a k1), dI 37 4 3 a k1, oI z1 25 (dC a k)]) (overK w X kx bX.1 bX.2.1 bX.2.2) (by exact Sub.pull [oI z7 25 (dC Y ky), dI 37 4 3 Y ky, oI z6 25 (dC X kx)] _ (.k (.k (.k (.k (.k (.k (.k (.k (.k (.k .z)))))))))))
  refine TO.l rfl (l_call ent20 hk108 rfl ?_)
  clear hk108
  rintro vr O' ⟨A1, rfl, rfl⟩
  refine TO.nl (T.rg (TO.q (q_la 0 uT25 rfl inf25 rfl rfl rfl) ?_))
  have hk110 := CallT.under (B := [oI z7 25 (dC Y ky), oI z6 25 (dC X kx), oI z5 25 (dC Y kY), dI 37 4 3 Y kY, oI z4 25 (dC X kX), dI 37 4 3 X kX, oI z3 25 (dC a k1), dI 37 4 3 a k1, oI z1 25 (dC a k)]) (O := [oI z7 25 (dC Y ky), dI 37 4 3 Y ky, oI z6 25 (dC X kx), oI z5 25 (dC Y kY), dI 37 4 3 Y kY, oI z4 25 (dC X kX), dI 37 4 3 X kX, oI z3 25 (dC a k1), dI 37 4 3 a k1, oI z1 25 (dC a k)]) (overK w Y ky bY.1 bY.2.1 bY.2.2) (by exact Sub.pull [oI z7 25 (dC Y ky)] _ (.k (.k (.k (.k (.k (.k (.k (.k (.k .z))))))))))
  refine TO.l rfl (l_call ent20 hk110 rfl ?_)
  clear hk110
  rintro vr O' ⟨A1, rfl, rfl⟩
  refine TO.nl (T.rg (TO.qm rfl (TO.q (q_addN (a := r) (b := 1) rfl rfl (by omega)) (TO.qa rfl (TO.nl ?_)))))
  exact ⟨r + 1, by omega, [oI z5 25 (dC Y kY), dI 37 4 3 Y kY, oI z4 25 (dC X kX), dI 37 4 3 X kX, oI z3 25 (dC a k1), dI 37 4 3 a k1, oI z1 25 (dC a k)], (by exact Sub.d (.d (.k (.k (.k (.k (.k (.k (.k .z))))))))), rfl, by omega, (.of rfl)⟩
 have hge48 : ¬ r < 2 := by omega
 refine T.exit ?_
 refine T.s (T.rg ?_)
 have hk111 := fun (w1 : World) (hI : Inv w [oI z5 25 (dC Y kY), dI 37 4 3 Y kY, oI z4 25 (dC X kX), dI 37 4 3 X kX, oI z3 25 (dC a k1), dI 37 4 3 a k1, oI z1 25 (dC a k)] w1) => (haveI := tbz hI; awakeC w1)
 refine TO.l rfl (l_call ent11 (CallT.op hk111) rfl ?_)
 clear hk111
 rintro vr O' ⟨N, rfl, rfl, rfl⟩
 refine TO.qa rfl (TO.nl (T.ret (Res.drop ?_)))
 refine Res.one (.bool true) Tryz.results3 rfl ?_
 exact ⟨[], Sub.z, rfl, rfl⟩
end Go.Proofs.YtohkmggbfcnapaaGreatDoor

