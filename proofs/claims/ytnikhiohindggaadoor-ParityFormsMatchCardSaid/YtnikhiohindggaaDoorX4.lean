/- Contracts of functions of the program (X4): what each call answers and that it leaves memory as it was. Conditions: those each theorem names. -/
import Derived.Test.YtnikhiohindggaaDoorCoreL
import Derived.Test.YtnikhiohindggaaDoorZ4
import Derived.Test.YtnikhiohindggaaDoorX3
import Derived.Test.YtnikhiohindggaaDoorY7
set_option linter.unusedSectionVars false
set_option linter.unusedSimpArgs false
set_option linter.unusedVariables false
set_option linter.unnecessarySimpa false
set_option maxHeartbeats 8000000
set_option maxRecDepth 20000
namespace Go.Proofs.YtnikhiohindggaaDoor
open Go.Lx Go.RowKit _root_.Go.Proofs.Tryd
theorem formsW (w : World) [Tab Tryd.prog w] (p : Par) (k : DK) (h : AtP w p k) (hB : ParC p) :
  PureT Tryd.prog 4 [pV p k] w fun v N => v = .bool true ∧ N = [] := by
 refine CallT.enter func4 rfl ntmps4 rfl ?_
 obtain ⟨R, eR⟩ : ∃ zz, rdV p = zz := ⟨_, rfl⟩
 obtain ⟨Q, eQ⟩ : ∃ zz, quoV p = zz := ⟨_, rfl⟩
 have hR : ParC R := eR ▸ rdV_c hB
 have hQ : ParC Q := eQ ▸ quoV_c p
 refine T.s (T.rg (TO.l rfl (l_box (v := (pV p k)) (cs := (pC p k)) rfl rfl (fun z1 => ?_))))
 refine TO.qa rfl (TO.nl (T.s (T.s (T.rg (TO.q (q_la 0 uT25 rfl inf25 rfl rfl rfl) (TO.l rfl (l_buildSlice (m := 1) (parts := [(0, _)]) (cs := (pC p k)) uT59 inf25 (by decide) (by kernel_rfl) rfl (fun z2 => ?_))))))))
 have hk14 := fun (w1 : World) (hI : Inv w [rowI (aD z2) 1 25 4 (pC p k), oI z1 25 (pC p k)] w1) => (haveI := tbz hI; (show PureT _ _ _ _ _ from by
   have h9 := longPF w1 (aD z2) 1 [(p, k)] (hI.slOf (cs := parsC [(p, k)]) (mG 0 rfl)) (by intro q9 hq; simp only [List.mem_cons, List.not_mem_nil, or_false] at hq; rcases hq with rfl <;> first | exact hI.atQ h) (by show 1 < 1000000; decide) (by intro q9 hq; simp only [List.mem_cons, List.not_mem_nil, or_false] at hq; rcases hq with rfl <;> first | exact hB)
   rw [show ([(p, k)] : List (Par × DK)).any (fun q => Lx.longP q.1) = Lx.longP p by simp] at h9
   exact h9))
 refine TO.l rfl (l_call ent10 (CallT.op hk14) rfl ?_)
 clear hk14
 rintro vr O' ⟨N, rfl, rfl, rfl⟩
 refine TO.nl (T.condP (p := Lx.longP p = true) (congrArg Value.bool (by cases Lx.longP p <;> rfl)) (fun hc => ?_) (fun hc => ?_))
 ·refine T.s ?_
  refine T.rg ?_
  have hk15 := fun (w1 : World) (hI : Inv w [rowI (aD z2) 1 25 4 (pC p k), oI z1 25 (pC p k)] w1) => (haveI := tbz hI; awakeC w1)
  refine TO.l rfl (l_call ent12 (CallT.op hk15) rfl ?_)
  clear hk15
  rintro vr O' ⟨N, rfl, rfl, rfl⟩
  refine TO.qa rfl (TO.nl (T.ret (Res.drop ?_)))
  refine Res.one (.bool true) Tryd.results4 rfl ?_
  exact ⟨[], Sub.of (List.nil_sublist _), rfl, rfl⟩
 have hS : ParS p := longP_s (Bool.eq_false_iff.2 hc)
 refine T.skip (T.s (T.rg (TO.q (q_la 1 uT25 rfl inf25 rfl rfl rfl) ?_)))
 have hk17 := fun (w1 : World) (hI : Inv w [rowI (aD z2) 1 25 4 (pC p k), oI z1 25 (pC p k)] w1) => (haveI := tbz hI; copyPar w1 p k (hI.atQ h) hS)
 refine TO.l rfl (l_call ent13 (CallT.op hk17) rfl ?_)
 clear hk17
 rintro vr O' ⟨N, rfl, k1, rfl, rfl⟩
 refine TO.l rfl (l_alloc inf25 rfl (fun z3 => ?_))
 refine TO.l rfl (l_sb (v := (pV p k1)) (vs := (pC p k1)) 0 inf25 rfl rfl rfl rfl rfl rfl (by simp [putL]) ?_)
 refine TO.sub (O' := [oI z3 25 (pC p k1), pI 23 3 p k1, oI z1 25 (pC p k)]) (Sub.pick [0, 0, 1] rfl) ?_
 refine TO.nl (T.s (T.rg (TO.q (q_la 0 uT25 rfl inf25 rfl rfl rfl) ?_)))
 have hk20 := fun (w1 : World) (hI : Inv w [oI z3 25 (pC p k1), pI 23 3 p k1, oI z1 25 (pC p k)] w1) => (haveI := tbz hI; (show PureT _ _ _ _ _ from by
   have h9 := parRd w1 p k1 (hI.atP (II := 23) (I := 3) (mG 1 rfl)) hB
   rw [eR] at h9
   exact h9))
 refine TO.l rfl (l_call ent25 (CallT.op hk20) rfl ?_)
 clear hk20
 rintro vr O' ⟨N, rfl, k5, rfl, rfl⟩
 refine TO.qm rfl (TO.q (q_extract (vs := _) rfl rfl) (TO.q (q_extract (vs := _) rfl rfl) (TO.l rfl (l_alloc inf25 rfl (fun z4 => ?_)))))
 refine TO.l rfl (l_sb (v := (pV R k5)) (vs := (pC R k5)) 0 inf25 rfl rfl rfl rfl rfl rfl (by simp [putL]) ?_)
 refine TO.qa rfl ?_
 refine TO.sub (O' := [oI z4 25 (pC R k5), pI 23 3 R k5, oI z3 25 (pC p k1), pI 23 3 p k1, oI z1 25 (pC p k)]) (Sub.pick [0, 0, 0, 0, 0] rfl) ?_
 refine TO.nl (T.s (T.rg (TO.q (q_la 4 uT25 rfl inf25 rfl rfl rfl) ?_)))
 have hk25 := fun (w1 : World) (hI : Inv w [oI z4 25 (pC R k5), pI 23 3 R k5, oI z3 25 (pC p k1), pI 23 3 p k1, oI z1 25 (pC p k)] w1) => (haveI := tbz hI; (show PureT _ _ _ _ _ from by
   have h9 := refParRd w1 p k (hI.atQ h) hB hS
   rw [eR] at h9
   exact h9))
 refine TO.l rfl (l_call ent26 (CallT.op hk25) rfl ?_)
 clear hk25
 rintro vr O' ⟨N, rfl, k6, rfl, rfl⟩
 refine TO.qm rfl (TO.q (q_extract (vs := _) rfl rfl) (TO.q (q_extract (vs := _) rfl rfl) (TO.l rfl (l_alloc inf25 rfl (fun z5 => ?_)))))
 refine TO.l rfl (l_sb (v := (pV R k6)) (vs := (pC R k6)) 0 inf25 rfl rfl rfl rfl rfl rfl (by simp [putL]) ?_)
 refine TO.qa rfl ?_
 refine TO.sub (O' := [oI z5 25 (pC R k6), pI 23 3 R k6, oI z4 25 (pC R k5), pI 23 3 R k5, oI z3 25 (pC p k1), pI 23 3 p k1, oI z1 25 (pC p k)]) (Sub.pick [0, 0, 0, 0, 0, 0, 0] rfl) ?_
 refine TO.nl (T.s (T.rg (TO.q (q_la 4 uT25 rfl inf25 rfl rfl rfl) ?_)))
 have hk30 := fun (w1 : World) (hI : Inv w [oI z5 25 (pC R k6), pI 23 3 R k6, oI z4 25 (pC R k5), pI 23 3 R k5, oI z3 25 (pC p k1), pI 23 3 p k1, oI z1 25 (pC p k)] w1) => (haveI := tbz hI; (show PureT _ _ _ _ _ from by
   have h9 := parQuo w1 p k1 (hI.atP (II := 23) (I := 3) (mG 5 rfl)) hB
   rw [eQ] at h9
   exact h9))
 refine TO.l rfl (l_call ent27 (CallT.op hk30) rfl ?_)
 clear hk30
 rintro vr O' ⟨N, rfl, k7, rfl, rfl⟩
 refine TO.qm rfl (TO.q (q_extract (vs := _) rfl rfl) (TO.q (q_extract (vs := _) rfl rfl) (TO.l rfl (l_alloc inf25 rfl (fun z6 => ?_)))))
 refine TO.l rfl (l_sb (v := (pV Q k7)) (vs := (pC Q k7)) 0 inf25 rfl rfl rfl rfl rfl rfl (by simp [putL]) ?_)
 refine TO.qa rfl ?_
 refine TO.sub (O' := [oI z6 25 (pC Q k7), pI 23 3 Q k7, oI z5 25 (pC R k6), pI 23 3 R k6, oI z4 25 (pC R k5), pI 23 3 R k5, oI z3 25 (pC p k1), pI 23 3 p k1, oI z1 25 (pC p k)]) (Sub.pick [0, 0, 0, 0, 0, 0, 0, 0, 0] rfl) ?_
 refine TO.nl (T.s (T.rg (TO.q (q_la 8 uT25 rfl inf25 rfl rfl rfl) ?_)))
 have hk35 := fun (w1 : World) (hI : Inv w [oI z6 25 (pC Q k7), pI 23 3 Q k7, oI z5 25 (pC R k6), pI 23 3 R k6, oI z4 25 (pC R k5), pI 23 3 R k5, oI z3 25 (pC p k1), pI 23 3 p k1, oI z1 25 (pC p k)] w1) => (haveI := tbz hI; (show PureT _ _ _ _ _ from by
   have h9 := refParQuo w1 p k (hI.atQ h) hB
   rw [eQ] at h9
   exact h9))
 refine TO.l rfl (l_call ent28 (CallT.op hk35) rfl ?_)
 clear hk35
 rintro vr O' ⟨N, rfl, k8, rfl, rfl⟩
 refine TO.qm rfl (TO.q (q_extract (vs := _) rfl rfl) (TO.q (q_extract (vs := _) rfl rfl) (TO.l rfl (l_alloc inf25 rfl (fun z7 => ?_)))))
 refine TO.l rfl (l_sb (v := (pV Q k8)) (vs := (pC Q k8)) 0 inf25 rfl rfl rfl rfl rfl rfl (by simp [putL]) ?_)
 refine TO.qa rfl ?_
 refine TO.sub (O' := [oI z7 25 (pC Q k8), pI 23 3 Q k8, oI z6 25 (pC Q k7), pI 23 3 Q k7, oI z5 25 (pC R k6), pI 23 3 R k6, oI z4 25 (pC R k5), pI 23 3 R k5, oI z3 25 (pC p k1), pI 23 3 p k1, oI z1 25 (pC p k)]) (Sub.pick [0, 0, 0, 0, 0, 0, 0, 0, 0, 0, 0] rfl) ?_
 refine TO.nl (T.s (T.s (T.rg (TO.qm rfl (TO.qm rfl (TO.q (QT.toB (q_neq rfl rfl) (decide_eq_false (fun h9 => h9 rfl))) (TO.qm rfl (TO.gq rfl rfl (q_move rfl) (TO.gq rfl rfl (q_move rfl) (TO.gq rfl rfl (QT.toB (q_neq rfl rfl) (decide_eq_false (fun h9 => h9 rfl))) (TO.q (q_pick0 rfl rfl) (TO.qm rfl (TO.gq rfl rfl (q_la 6 uT25 rfl inf25 rfl rfl rfl) (TO.gq rfl rfl (q_la 4 uT25 rfl inf25 rfl rfl rfl) ?_))))))))))))))
 have hk49 := fun (w1 : World) (hI : Inv w [oI z7 25 (pC Q k8), pI 23 3 Q k8, oI z6 25 (pC Q k7), pI 23 3 Q k7, oI z5 25 (pC R k6), pI 23 3 R k6, oI z4 25 (pC R k5), pI 23 3 R k5, oI z3 25 (pC p k1), pI 23 3 p k1, oI z1 25 (pC p k)] w1) => (haveI := tbz hI; (show PureT _ _ _ _ _ from by
   have h9 := equalPar w1 R k5 (hI.atP (II := 23) (I := 3) (mG 7 rfl)) R k6 (hI.atP (II := 23) (I := 3) (mG 5 rfl)) hR
   rw [decide_eq_true rfl] at h9
   exact h9))
 refine TO.gd rfl rfl rfl (l_call ent22 (CallT.op hk49) rfl ?_)
 clear hk49
 rintro vr O' ⟨N, rfl, rfl, rfl⟩
 refine TO.gq rfl rfl (q_not rfl) (TO.q (q_pick0 rfl rfl) (TO.qm rfl (TO.gq rfl rfl (q_la 2 uT25 rfl inf25 rfl rfl rfl) (TO.gq rfl rfl (q_la 0 uT25 rfl inf25 rfl rfl rfl) ?_))))
 have hk55 := fun (w1 : World) (hI : Inv w [oI z7 25 (pC Q k8), pI 23 3 Q k8, oI z6 25 (pC Q k7), pI 23 3 Q k7, oI z5 25 (pC R k6), pI 23 3 R k6, oI z4 25 (pC R k5), pI 23 3 R k5, oI z3 25 (pC p k1), pI 23 3 p k1, oI z1 25 (pC p k)] w1) => (haveI := tbz hI; (show PureT _ _ _ _ _ from by
   have h9 := equalPar w1 Q k7 (hI.atP (II := 23) (I := 3) (mG 3 rfl)) Q k8 (hI.atP (II := 23) (I := 3) (mG 1 rfl)) hQ
   rw [decide_eq_true rfl] at h9
   exact h9))
 refine TO.gd rfl rfl rfl (l_call ent22 (CallT.op hk55) rfl ?_)
 clear hk55
 rintro vr O' ⟨N, rfl, rfl, rfl⟩
 refine TO.gq rfl rfl (q_not rfl) (TO.q (q_pick0 rfl rfl) (TO.nl (T.cond0 rfl (T.skip (T.s (T.rg (TO.q (q_la 6 uT25 rfl inf25 rfl rfl rfl) ?_)))))))
 have hk59 := CallT.under (B := [oI z7 25 (pC Q k8), pI 23 3 Q k8, oI z6 25 (pC Q k7), pI 23 3 Q k7, oI z5 25 (pC R k6), pI 23 3 R k6, oI z4 25 (pC R k5), oI z3 25 (pC p k1), pI 23 3 p k1, oI z1 25 (pC p k)]) (O := [oI z7 25 (pC Q k8), pI 23 3 Q k8, oI z6 25 (pC Q k7), pI 23 3 Q k7, oI z5 25 (pC R k6), pI 23 3 R k6, oI z4 25 (pC R k5), pI 23 3 R k5, oI z3 25 (pC p k1), pI 23 3 p k1, oI z1 25 (pC p k)]) (overPar w R k5 hR) (Sub.pick [7, 0, 0, 0, 0, 0, 0, 0, 0, 0, 0] rfl)
 refine TO.l rfl (l_call ent23 hk59 rfl ?_)
 clear hk59
 rintro vr O' ⟨A1, rfl, rfl⟩
 refine TO.nl (T.s (T.rg (TO.q (q_la 2 uT25 rfl inf25 rfl rfl rfl) ?_)))
 have hk61 := CallT.under (B := [oI z7 25 (pC Q k8), pI 23 3 Q k8, oI z6 25 (pC Q k7), oI z5 25 (pC R k6), pI 23 3 R k6, oI z4 25 (pC R k5), oI z3 25 (pC p k1), pI 23 3 p k1, oI z1 25 (pC p k)]) (O := [oI z7 25 (pC Q k8), pI 23 3 Q k8, oI z6 25 (pC Q k7), pI 23 3 Q k7, oI z5 25 (pC R k6), pI 23 3 R k6, oI z4 25 (pC R k5), oI z3 25 (pC p k1), pI 23 3 p k1, oI z1 25 (pC p k)]) (overPar w Q k7 hQ) (Sub.pick [3, 0, 0, 0, 0, 0, 0, 0, 0, 0] rfl)
 refine TO.l rfl (l_call ent23 hk61 rfl ?_)
 clear hk61
 rintro vr O' ⟨A1, rfl, rfl⟩
 refine TO.nl (T.s (T.rg (TO.q (q_la 6 uT25 rfl inf25 rfl rfl rfl) (TO.q (q_la 8 uT25 rfl inf25 rfl rfl rfl) ?_))))
 have hk64 := fun (w1 : World) (hI : Inv w [oI z7 25 (pC Q k8), pI 23 3 Q k8, oI z6 25 (pC Q k7), oI z5 25 (pC R k6), pI 23 3 R k6, oI z4 25 (pC R k5), oI z3 25 (pC p k1), pI 23 3 p k1, oI z1 25 (pC p k)] w1) => (haveI := tbz hI; (show PureT _ _ _ _ _ from by
   have h9 := equalPar w1 p k1 (hI.atP (II := 23) (I := 3) (mG 7 rfl)) p k (hI.atQ h) hB
   rw [decide_eq_true rfl] at h9
   exact h9))
 refine TO.l rfl (l_call ent22 (CallT.op hk64) rfl ?_)
 clear hk64
 rintro vr O' ⟨N, rfl, rfl, rfl⟩
 refine TO.qm rfl ?_
 have hk66 := fun (w1 : World) (hI : Inv w [oI z7 25 (pC Q k8), pI 23 3 Q k8, oI z6 25 (pC Q k7), oI z5 25 (pC R k6), pI 23 3 R k6, oI z4 25 (pC R k5), oI z3 25 (pC p k1), pI 23 3 p k1, oI z1 25 (pC p k)] w1) => (haveI := tbz hI; awakeC w1)
 refine TO.gd rfl rfl rfl (l_call ent12 (CallT.op hk66) rfl ?_)
 clear hk66
 rintro vr O' ⟨N, rfl, rfl, rfl⟩
 refine TO.q (q_pick1 rfl rfl) (TO.qa rfl (TO.nl (T.ret (Res.drop ?_))))
 refine Res.one (.bool true) Tryd.results4 rfl ?_
 exact ⟨[], Sub.of (List.nil_sublist _), rfl, rfl⟩
end Go.Proofs.YtnikhiohindggaaDoor

