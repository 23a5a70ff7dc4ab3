/- Contracts of functions of the program (JM, PjW, Close, CloseP, End): what each call answers and that it leaves memory as it was. Conditions: those each theorem names. -/
import Derived.Test.YtohkmggbfcnapaaGreatDoorCoreK
import Derived.Test.YtohkmggbfcnapaaGreatDoorWtK
import Derived.Test.YtohkmggbfcnapaaGreatDoorJL
import Derived.Test.YtohkmggbfcnapaaGreatDoorStr
import Derived.OpenShut
import Derived.Deep.DeepHandedRow
import Derived.Deep.Matrix
import Derived.Deep.Grids
import Derived.WideKeyArgs
import Derived.SizedLaws
import Derived.Test.YtohkmggbfcnapaaGreatDoorCards
import Derived.Test.YtohkmggbfcnapaaGreatDoorTie
import Derived.WalkKit
import Derived.ProofKit
import Derived.Lib.LaidTab
set_option linter.unusedSectionVars false
set_option linter.unusedSimpArgs false
set_option linter.unusedVariables false
set_option linter.unnecessarySimpa false
set_option maxHeartbeats 8000000
set_option maxRecDepth 20000
namespace Go.Proofs.YtohkmggbfcnapaaGreatDoor
open Go.Lx Go.RowKit _root_.Go.Proofs.Tryz
theorem awakeC (w : World) [Tab Tryz.prog w] : PureT Tryz.prog 11 [] w fun v N => v = .bool true ∧ N = [] := by
  refine CallT.enter func11 rfl ntmps11 rfl ?_
  obtain ⟨X, eX⟩ : ∃ m, xsV exX 0 16 = m := ⟨_, rfl⟩
  obtain ⟨Y, eY⟩ : ∃ m, alV exX 0 16 = m := ⟨_, rfl⟩
  obtain ⟨Mi, eM⟩ : ∃ m, inV exZ 0 = m := ⟨_, rfl⟩
  obtain ⟨R, eR⟩ : ∃ m, rnV exX [1, 0] = m := ⟨_, rfl⟩
  have fX := fun x (h : x < 4) => @aw_some x h
  have fY := fun x (h : x < 4) => @aw_every x h
  have fM := fun x (h : x < 4) => @aw_inA x h
  have fR := fun x (h : x < 4) => @aw_rnA x h
  have fN := aw_none
  have f1 := aw_one
  have bX := min_bounds aw_xs.toHasL
  have bY := min_bounds aw_al.toHasL
  have bM := min_bounds aw_in.toHasL
  have bR := min_bounds aw_rn.toHasL
  have bE := min_bounds hX
  have bZ := min_bounds hZ
  rw [eX] at fX fN bX
  rw [eY] at fY f1 bY
  rw [eM] at fM bM
  rw [eR] at fR bR
  refine T.s (T.rg ?_)
  refine TO.qa rfl ?_
  refine TO.nl (T.s (T.rg ?_))
  have hk17 := fun (w1 : World) (hI : Inv w [] w1) => (haveI := tbz hI; exactlyK w1)
  refine TO.l rfl (l_call ent30 (CallT.op hk17) rfl ?_)
  clear hk17
  rintro vr O' ⟨N, rfl, k0, rfl, rfl⟩
  refine TO.l rfl (l_alloc inf25 rfl (fun z1 => ?_))
  refine TO.l rfl (l_sb (v := (dV exX k0)) (vs := (dC exX k0)) 0 inf25 rfl rfl rfl rfl rfl rfl (by simp [putL]) ?_)
  refine TO.sub (O' := [oI z1 25 (dC exX k0), dI 37 4 3 exX k0]) (by exact Sub.rf) ?_
  refine TO.nl (T.s (T.rg ?_))
  refine TO.q (q_la 0 underlying25 rfl inf25 rfl rfl rfl) ?_
  have hk20 := fun (w1 : World) (hI : Inv w [oI z1 25 (dC exX k0), dI 37 4 3 exX k0] w1) => (haveI := tbz hI; (show PureT _ _ _ _ _ from by
      have h9 := exC w1 exX k0 (hI.at (k := k0) (mG 1 rfl)) 0 16 bE.1 bE.2.1 bE.2.2 (fun _ => by decide)
      rw [eX, aw_xsE] at h9
      exact h9))
  refine TO.l rfl (l_call ent16 (CallT.op hk20) rfl ?_)
  clear hk20
  rintro vr O' ⟨N, rfl, k1, rfl, rfl⟩
  refine TO.qm rfl (TO.q (q_extract (vs := _) rfl rfl) (TO.q (q_extract (vs := _) rfl rfl) ?_))
  refine TO.l rfl (l_alloc inf25 rfl (fun z2 => ?_))
  refine TO.l rfl (l_sb (v := (dV X k1)) (vs := (dC X k1)) 0 inf25 rfl rfl rfl rfl rfl rfl (by simp [putL]) ?_)
  refine TO.qa rfl ?_
  refine TO.sub (O' := [oI z2 25 (dC X k1), oI z1 25 (dC exX k0), dI 37 4 3 X k1, dI 37 4 3 exX k0]) (by exact Sub.k (.pull [dI 37 4 3 X k1] _ (.k (.k .z)))) ?_
  refine TO.nl ?_
  refine T.reset [oI z2 25 (dC X k1), oI z1 25 (dC exX k0), dI 37 4 3 X k1, dI 37 4 3 exX k0] [(0, .bool false), (1, (.pointer (some ⟨z1, 0, none⟩))), (2, (.pointer (some ⟨z2, 0, none⟩))), (3, .int .i64 0)] rfl ⟨rfl, rfl, rfl, rfl, trivial⟩ (fun ρ0 => ?_)
  refine T.s (T.rg ?_)
  refine TO.q (q_la 1 underlying25 rfl inf25 rfl rfl rfl) ?_
  have hk25 := fun (w1 : World) (hI : Inv w [oI z2 25 (dC X k1), oI z1 25 (dC exX k0), dI 37 4 3 X k1, dI 37 4 3 exX k0] w1) => (haveI := tbz hI; (show PureT _ _ _ _ _ from by
      have h9 := alC w1 exX k0 (hI.at (k := k0) (mG 3 rfl)) 0 16 bE.1 bE.2.1 bE.2.2 (fun _ => by decide)
      rw [eY, aw_alE] at h9
      exact h9))
  refine TO.l rfl (l_call ent17 (CallT.op hk25) rfl ?_)
  clear hk25
  rintro vr O' ⟨N, rfl, k2, rfl, rfl⟩
  refine TO.qm rfl (TO.q (q_extract (vs := _) rfl rfl) (TO.q (q_extract (vs := _) rfl rfl) ?_))
  refine TO.l rfl (l_alloc inf25 rfl (fun z3 => ?_))
  refine TO.l rfl (l_sb (v := (dV Y k2)) (vs := (dC Y k2)) 0 inf25 rfl rfl rfl rfl rfl rfl (by simp [putL]) ?_)
  refine TO.qa rfl ?_
  refine TO.sub (O' := [oI z3 25 (dC Y k2), oI z2 25 (dC X k1), oI z1 25 (dC exX k0), dI 37 4 3 Y k2, dI 37 4 3 X k1, dI 37 4 3 exX k0]) (by exact Sub.k (.pull [dI 37 4 3 Y k2] _ (.pull [dI 37 4 3 Y k2] _ (.k (.k (.k .z)))))) ?_
  refine TO.nl (T.s (T.rg ?_))
  refine TO.q (q_la 2 underlying25 rfl inf25 rfl rfl rfl) ?_
  have hk30 := fun (w1 : World) (hI : Inv w [oI z3 25 (dC Y k2), oI z2 25 (dC X k1), oI z1 25 (dC exX k0), dI 37 4 3 Y k2, dI 37 4 3 X k1, dI 37 4 3 exX k0] w1) => (haveI := tbz hI; (show PureT _ _ _ _ _ from by
      have h9 := ignC w1 exX k0 (hI.at (k := k0) (mG 5 rfl)) bE.1 bE.2.1 bE.2.2 0
      rw [aw_ig, aw_vE] at h9
      exact h9))
  refine TO.l rfl (l_call ent18 (CallT.op hk30) rfl ?_)
  clear hk30
  rintro vr O' ⟨N, rfl, rfl, rfl⟩
  refine TO.qm rfl (TO.q (q_extract (vs := _) rfl rfl) (TO.q (q_extract (vs := _) rfl rfl) (TO.qa rfl ?_)))
  refine TO.qa rfl ?_
  refine TO.sub (O' := [oI z3 25 (dC Y k2), oI z2 25 (dC X k1), oI z1 25 (dC exX k0), dI 37 4 3 Y k2, dI 37 4 3 X k1, dI 37 4 3 exX k0]) (by exact Sub.rf) ?_
  refine TO.nl ?_
  refine T.reset [oI z3 25 (dC Y k2), oI z2 25 (dC X k1), oI z1 25 (dC exX k0), dI 37 4 3 Y k2, dI 37 4 3 X k1, dI 37 4 3 exX k0] [(0, .bool false), (1, (.pointer (some ⟨z1, 0, none⟩))), (2, (.pointer (some ⟨z2, 0, none⟩))), (3, .int .i64 0), (4, (.pointer (some ⟨z3, 0, none⟩))), (5, .int .i64 0), (6, .bool false), (7, .int .i64 0)] rfl ⟨rfl, rfl, rfl, rfl, rfl, rfl, rfl, rfl, trivial⟩ (fun ρ0 => ?_)
  refine T.s (T.rg ?_)
  refine TO.q (q_la 2 underlying25 rfl inf25 rfl rfl rfl) ?_
  have hk35 := fun (w1 : World) (hI : Inv w [oI z3 25 (dC Y k2), oI z2 25 (dC X k1), oI z1 25 (dC exX k0), dI 37 4 3 Y k2, dI 37 4 3 X k1, dI 37 4 3 exX k0] w1) => (haveI := tbz hI; (show PureT _ _ _ _ _ from by
      have h9 := drC w1 exX k0 (hI.at (k := k0) (mG 5 rfl)) bE.1 bE.2.1 bE.2.2 0
      rw [aw_drE] at h9
      exact h9))
  refine TO.l rfl (l_call ent26 (CallT.op hk35) rfl ?_)
  clear hk35
  rintro vr O' ⟨N, rfl, k3, rfl, rfl⟩
  refine TO.qm rfl (TO.q (q_extract (vs := _) rfl rfl) (TO.q (q_extract (vs := _) rfl rfl) ?_))
  refine TO.l rfl (l_alloc inf25 rfl (fun z4 => ?_))
  refine TO.l rfl (l_sb (v := (dV (drV exX 0) k3)) (vs := (dC (drV exX 0) k3)) 0 inf25 rfl rfl rfl rfl rfl rfl (by simp [putL]) ?_)
  refine TO.qa rfl ?_
  refine TO.sub (O' := [oI z4 25 (dC (drV exX 0) k3), oI z3 25 (dC Y k2), oI z2 25 (dC X k1), oI z1 25 (dC exX k0), dI 37 4 3 (drV exX 0) k3, dI 37 4 3 Y k2, dI 37 4 3 X k1, dI 37 4 3 exX k0]) (by exact Sub.k (.pull [dI 37 4 3 (drV exX 0) k3] _ (.pull [dI 37 4 3 (drV exX 0) k3] _ (.pull [dI 37 4 3 (drV exX 0) k3] _ (.k (.k (.k (.k .z)))))))) ?_
  refine TO.nl (T.s (T.rg ?_))
  refine TO.l rfl (l_buildSlice (m := 2) (parts := [(0, .const (.int .i64 2)), (1, .const (.int .i64 1))]) (cs := [.int .i64 2, .int .i64 1]) underlying37 inf3 (by decide) (by kernel_rfl) rfl (fun z5 => ?_))
  refine TO.l rfl (l_buildSlice (m := 2) (parts := [(0, .const (.int .i64 2)), (1, .const (.int .i64 2))]) (cs := [.int .i64 2, .int .i64 2]) underlying37 inf3 (by decide) (by kernel_rfl) rfl (fun z6 => ?_))
  refine TO.l rfl (l_buildSlice (m := 2) (parts := [(0, .const (.int .i64 2)), (1, .const (.int .i64 2))]) (cs := [.int .i64 2, .int .i64 2]) underlying37 inf3 (by decide) (by kernel_rfl) rfl (fun z7 => ?_))
  refine TO.l rfl (l_buildSlice (m := 3) (parts := [(0, .tmp 38), (1, .tmp 39), (2, .tmp 40)]) (cs := [(.slice (some ⟨z5, 0, none⟩) 2 2), (.slice (some ⟨z6, 0, none⟩) 2 2), (.slice (some ⟨z7, 0, none⟩) 2 2)]) underlying22 inf37 (by decide) (by kernel_rfl) rfl (fun z8 => ?_))
  refine TO.l rfl (l_buildSlice (m := 3) (parts := [(0, .const (.bool false)), (1, .const (.bool true)), (2, .const (.bool false))]) (cs := [.bool false, .bool true, .bool false]) underlying23 inf4 (by decide) (by kernel_rfl) rfl (fun z9 => ?_))
  refine TO.q (q_build (cs := [.int .i64 1, (.int .i64 0), (.slice (some ⟨z8, 0, none⟩) 3 3), (.slice (some ⟨z9, 0, none⟩) 3 3)]) plan25 inf25 (by kernel_rfl)) ?_
  refine TO.l rfl (l_alloc inf25 rfl (fun z10 => ?_))
  refine TO.l rfl (l_sb (v := (.agg #[.int .i64 1, (.int .i64 0), (.slice (some ⟨z8, 0, none⟩) 3 3), (.slice (some ⟨z9, 0, none⟩) 3 3)])) (vs := [.int .i64 1, (.int .i64 0), (.slice (some ⟨z8, 0, none⟩) 3 3), (.slice (some ⟨z9, 0, none⟩) 3 3)]) 0 inf25 rfl rfl rfl rfl rfl rfl (by simp [putL]) ?_)
  refine TO.nl ?_
  refine T.sub (O' := [rowI (some ⟨z8, 0, none⟩) 3 37 1 [(.slice (some ⟨z5, 0, none⟩) 2 2), (.slice (some ⟨z6, 0, none⟩) 2 2), (.slice (some ⟨z7, 0, none⟩) 2 2)], rowI (some ⟨z9, 0, none⟩) 3 4 1 [.bool false, .bool true, .bool false], rowI (some ⟨z5, 0, none⟩) 2 3 1 [.int .i64 2, .int .i64 1], rowI (some ⟨z6, 0, none⟩) 2 3 1 [.int .i64 2, .int .i64 2], rowI (some ⟨z7, 0, none⟩) 2 3 1 [.int .i64 2, .int .i64 2], oI z10 25 [.int .i64 1, (.int .i64 0), (.slice (some ⟨z8, 0, none⟩) 3 3), (.slice (some ⟨z9, 0, none⟩) 3 3)], oI z4 25 (dC (drV exX 0) k3), oI z3 25 (dC Y k2), oI z2 25 (dC X k1), oI z1 25 (dC exX k0), dI 37 4 3 (drV exX 0) k3, dI 37 4 3 Y k2, dI 37 4 3 X k1, dI 37 4 3 exX k0]) (by exact Sub.pull [oI z10 25 [.int .i64 1, (.int .i64 0), (.slice (some ⟨z8, 0, none⟩) 3 3), (.slice (some ⟨z9, 0, none⟩) 3 3)], rowI (some ⟨z9, 0, none⟩) 3 4 1 [.bool false, .bool true, .bool false]] _ (.pull [oI z10 25 [.int .i64 1, (.int .i64 0), (.slice (some ⟨z8, 0, none⟩) 3 3), (.slice (some ⟨z9, 0, none⟩) 3 3)]] _ (.pull [oI z10 25 [.int .i64 1, (.int .i64 0), (.slice (some ⟨z8, 0, none⟩) 3 3), (.slice (some ⟨z9, 0, none⟩) 3 3)], rowI (some ⟨z7, 0, none⟩) 2 3 1 [.int .i64 2, .int .i64 2], rowI (some ⟨z6, 0, none⟩) 2 3 1 [.int .i64 2, .int .i64 2]] _ (.pull [oI z10 25 [.int .i64 1, (.int .i64 0), (.slice (some ⟨z8, 0, none⟩) 3 3), (.slice (some ⟨z9, 0, none⟩) 3 3)], rowI (some ⟨z7, 0, none⟩) 2 3 1 [.int .i64 2, .int .i64 2]] _ (.pull [oI z10 25 [.int .i64 1, (.int .i64 0), (.slice (some ⟨z8, 0, none⟩) 3 3), (.slice (some ⟨z9, 0, none⟩) 3 3)]] _ (.k (.k (.k (.k (.k (.k (.k (.k (.k .z)))))))))))))) ?_
  obtain ⟨kz, hkz⟩ : ∃ k : DK, k = ⟨some ⟨z8, 0, none⟩, 3, some ⟨z9, 0, none⟩, 3, [⟨some ⟨z5, 0, none⟩, 2, [2, 1]⟩, ⟨some ⟨z6, 0, none⟩, 2, [2, 2]⟩, ⟨some ⟨z7, 0, none⟩, 2, [2, 2]⟩]⟩ := ⟨_, rfl⟩
  refine T.sub (O' := (([rowI kz.nb kz.nc 37 1 (vals kz.qs), rowI kz.fb kz.fc 4 1 (bools exZ.final)] ++ itms 3 kz.qs) ++ [oI z10 25 [.int .i64 1, (.int .i64 0), (.slice (some ⟨z8, 0, none⟩) 3 3), (.slice (some ⟨z9, 0, none⟩) 3 3)], oI z4 25 (dC (drV exX 0) k3), oI z3 25 (dC Y k2), oI z2 25 (dC X k1), oI z1 25 (dC exX k0), dI 37 4 3 (drV exX 0) k3, dI 37 4 3 Y k2, dI 37 4 3 X k1, dI 37 4 3 exX k0])) (by subst hkz; exact Sub.rf) ?_
  refine T.pack (φ := nums kz.qs = exZ.next) (by subst hkz; rfl) ?_
  refine T.sub (O' := [dI 37 4 3 exZ kz, oI z10 25 (dC exZ kz), oI z4 25 (dC (drV exX 0) k3), oI z3 25 (dC Y k2), oI z2 25 (dC X k1), oI z1 25 (dC exX k0), dI 37 4 3 (drV exX 0) k3, dI 37 4 3 Y k2, dI 37 4 3 X k1, dI 37 4 3 exX k0]) (by subst hkz; exact Sub.rf) ?_
  refine T.reset [dI 37 4 3 exZ kz, oI z10 25 (dC exZ kz), oI z4 25 (dC (drV exX 0) k3), oI z3 25 (dC Y k2), oI z2 25 (dC X k1), oI z1 25 (dC exX k0), dI 37 4 3 (drV exX 0) k3, dI 37 4 3 Y k2, dI 37 4 3 X k1, dI 37 4 3 exX k0] [(0, .bool false), (1, (.pointer (some ⟨z1, 0, none⟩))), (2, (.pointer (some ⟨z2, 0, none⟩))), (3, .int .i64 0), (4, (.pointer (some ⟨z3, 0, none⟩))), (5, .int .i64 0), (6, .bool false), (7, .int .i64 0), (8, (.pointer (some ⟨z4, 0, none⟩))), (9, .int .i64 7), (10, (.pointer (some ⟨z10, 0, none⟩)))] rfl ⟨rfl, rfl, rfl, rfl, rfl, rfl, rfl, rfl, rfl, rfl, rfl, trivial⟩ (fun ρ0 => ?_)
  refine T.s (T.rg ?_)
  refine TO.q (q_la 1 underlying25 rfl inf25 rfl rfl rfl) ?_
  have hk46 := fun (w1 : World) (hI : Inv w [dI 37 4 3 exZ kz, oI z10 25 (dC exZ kz), oI z4 25 (dC (drV exX 0) k3), oI z3 25 (dC Y k2), oI z2 25 (dC X k1), oI z1 25 (dC exX k0), dI 37 4 3 (drV exX 0) k3, dI 37 4 3 Y k2, dI 37 4 3 X k1, dI 37 4 3 exX k0] w1) => (haveI := tbz hI; (show PureT _ _ _ _ _ from by
      have h9 := insC w1 exZ kz (hI.at (k := kz) (mG 0 rfl)) bZ.1 bZ.2.1 bZ.2.2 0
      rw [eM, aw_inE] at h9
      exact h9))
  refine TO.l rfl (l_call ent27 (CallT.op hk46) rfl ?_)
  clear hk46
  rintro vr O' ⟨N, rfl, k4, rfl, rfl⟩
  refine TO.qm rfl (TO.q (q_extract (vs := _) rfl rfl) (TO.q (q_extract (vs := _) rfl rfl) ?_))
  refine TO.l rfl (l_alloc inf25 rfl (fun z11 => ?_))
  refine TO.l rfl (l_sb (v := (dV Mi k4)) (vs := (dC Mi k4)) 0 inf25 rfl rfl rfl rfl rfl rfl (by simp [putL]) ?_)
  refine TO.qa rfl ?_
  refine TO.sub (O' := [oI z11 25 (dC Mi k4), oI z10 25 (dC exZ kz), oI z4 25 (dC (drV exX 0) k3), oI z3 25 (dC Y k2), oI z2 25 (dC X k1), oI z1 25 (dC exX k0), dI 37 4 3 Mi k4, dI 37 4 3 exZ kz, dI 37 4 3 (drV exX 0) k3, dI 37 4 3 Y k2, dI 37 4 3 X k1, dI 37 4 3 exX k0]) (by exact Sub.k (.pull [dI 37 4 3 Mi k4, dI 37 4 3 exZ kz] _ (.pull [dI 37 4 3 Mi k4, dI 37 4 3 exZ kz] _ (.pull [dI 37 4 3 Mi k4, dI 37 4 3 exZ kz] _ (.pull [dI 37 4 3 Mi k4, dI 37 4 3 exZ kz] _ (.pull [dI 37 4 3 Mi k4, dI 37 4 3 exZ kz] _ (.k (.k (.k (.k (.k (.k .z)))))))))))) ?_
  refine TO.nl (T.s (T.rg ?_))
  refine TO.q (q_la 5 underlying25 rfl inf25 rfl rfl rfl) ?_
  refine TO.l rfl (l_buildSlice (m := 2) (parts := [(0, .const (.int .i64 1)), (1, .const (.int .i64 0))]) (cs := [.int .i64 1, .int .i64 0]) underlying37 inf3 (by decide) (by kernel_rfl) rfl (fun z12 => ?_))
  have hk52 := fun (w1 : World) (hI : Inv w [rowI (some ⟨z12, 0, none⟩) 2 3 1 [.int .i64 1, .int .i64 0], oI z11 25 (dC Mi k4), oI z10 25 (dC exZ kz), oI z4 25 (dC (drV exX 0) k3), oI z3 25 (dC Y k2), oI z2 25 (dC X k1), oI z1 25 (dC exX k0), dI 37 4 3 Mi k4, dI 37 4 3 exZ kz, dI 37 4 3 (drV exX 0) k3, dI 37 4 3 Y k2, dI 37 4 3 X k1, dI 37 4 3 exX k0] w1) => (haveI := tbz hI; (show PureT _ _ _ _ _ from by
      have h9 := rnC w1 exX k0 (hI.at (k := k0) (mG 12 rfl)) bE.1 bE.2.1 bE.2.2 (some ⟨z12, 0, none⟩) 2 [1, 0] (hI.slOf (cs := ints [1, 0]) (mG 0 rfl)) (by decide)
      rw [eR, aw_rnE] at h9
      exact h9))
  refine TO.l rfl (l_call ent28 (CallT.op hk52) rfl ?_)
  clear hk52
  rintro vr O' ⟨N, rfl, k5, rfl, rfl⟩
  refine TO.qm rfl (TO.q (q_extract (vs := _) rfl rfl) (TO.q (q_extract (vs := _) rfl rfl) ?_))
  refine TO.l rfl (l_alloc inf25 rfl (fun z13 => ?_))
  refine TO.l rfl (l_sb (v := (dV R k5)) (vs := (dC R k5)) 0 inf25 rfl rfl rfl rfl rfl rfl (by simp [putL]) ?_)
  refine TO.qa rfl ?_
  refine TO.sub (O' := [oI z13 25 (dC R k5), oI z11 25 (dC Mi k4), oI z10 25 (dC exZ kz), oI z4 25 (dC (drV exX 0) k3), oI z3 25 (dC Y k2), oI z2 25 (dC X k1), oI z1 25 (dC exX k0), dI 37 4 3 R k5, dI 37 4 3 Mi k4, dI 37 4 3 exZ kz, dI 37 4 3 (drV exX 0) k3, dI 37 4 3 Y k2, dI 37 4 3 X k1, dI 37 4 3 exX k0]) (by exact Sub.k (.pull [dI 37 4 3 R k5, rowI (some ⟨z12, 0, none⟩) 2 3 1 [.int .i64 1, .int .i64 0]] _ (.pull [dI 37 4 3 R k5, rowI (some ⟨z12, 0, none⟩) 2 3 1 [.int .i64 1, .int .i64 0]] _ (.pull [dI 37 4 3 R k5, rowI (some ⟨z12, 0, none⟩) 2 3 1 [.int .i64 1, .int .i64 0]] _ (.pull [dI 37 4 3 R k5, rowI (some ⟨z12, 0, none⟩) 2 3 1 [.int .i64 1, .int .i64 0]] _ (.pull [dI 37 4 3 R k5, rowI (some ⟨z12, 0, none⟩) 2 3 1 [.int .i64 1, .int .i64 0]] _ (.pull [dI 37 4 3 R k5, rowI (some ⟨z12, 0, none⟩) 2 3 1 [.int .i64 1, .int .i64 0]] _ (.k (.d (.k (.k (.k (.k (.k (.k .z))))))))))))))) ?_
  refine TO.nl ?_
  refine T.reset [oI z13 25 (dC R k5), oI z11 25 (dC Mi k4), oI z10 25 (dC exZ kz), oI z4 25 (dC (drV exX 0) k3), oI z3 25 (dC Y k2), oI z2 25 (dC X k1), oI z1 25 (dC exX k0), dI 37 4 3 R k5, dI 37 4 3 Mi k4, dI 37 4 3 exZ kz, dI 37 4 3 (drV exX 0) k3, dI 37 4 3 Y k2, dI 37 4 3 X k1, dI 37 4 3 exX k0] [(0, .bool false), (1, (.pointer (some ⟨z1, 0, none⟩))), (2, (.pointer (some ⟨z2, 0, none⟩))), (3, .int .i64 0), (4, (.pointer (some ⟨z3, 0, none⟩))), (5, .int .i64 0), (6, .bool false), (7, .int .i64 0), (8, (.pointer (some ⟨z4, 0, none⟩))), (9, .int .i64 7), (10, (.pointer (some ⟨z10, 0, none⟩))), (11, (.pointer (some ⟨z11, 0, none⟩))), (12, .int .i64 0), (13, (.pointer (some ⟨z13, 0, none⟩))), (14, .int .i64 0)] rfl ⟨rfl, rfl, rfl, rfl, rfl, rfl, rfl, rfl, rfl, rfl, rfl, rfl, rfl, rfl, rfl, trivial⟩ (fun ρ0 => ?_)
  refine T.s (T.s (T.rg ?_))
  refine TO.qm rfl (TO.q (QT.toB (q_neq rfl rfl) (decide_eq_false (fun h => h rfl))) (TO.qm rfl ?_))
  refine TO.gd rfl rfl rfl (LT.oq rfl rfl (q_move rfl) ?_)
  refine TO.gd rfl rfl rfl (LT.oq rfl rfl (QT.toB (q_neq rfl rfl) (decide_eq_false (fun h => h rfl))) ?_)
  refine TO.q (q_pick0 rfl rfl) (TO.qm rfl ?_)
  refine TO.gd rfl rfl rfl (LT.oq rfl rfl (q_move rfl) ?_)
  refine TO.gd rfl rfl rfl (LT.oq rfl rfl (QT.toB (q_neq rfl rfl) (decide_eq_false (fun h => h rfl))) ?_)
  refine TO.q (q_pick0 rfl rfl) (TO.qm rfl ?_)
  refine TO.gd rfl rfl rfl (LT.oq rfl rfl (q_move rfl) ?_)
  refine TO.gd rfl rfl rfl (LT.oq rfl rfl (QT.toB (q_neq rfl rfl) (decide_eq_false (fun h => h rfl))) ?_)
  refine TO.q (q_pick0 rfl rfl) (TO.qm rfl ?_)
  refine TO.gd rfl rfl rfl (LT.oq rfl rfl (q_move rfl) ?_)
  refine TO.gd rfl rfl rfl (LT.oq rfl rfl (QT.toB (q_neq rfl rfl) (decide_eq_false (fun h => h rfl))) ?_)
  refine TO.q (q_pick0 rfl rfl) (TO.qm rfl ?_)
  refine TO.gd rfl rfl rfl (LT.oq rfl rfl (q_move rfl) ?_)
  refine TO.gd rfl rfl rfl (LT.oq rfl rfl (QT.toB (q_neq rfl rfl) (decide_eq_false (fun h => h rfl))) ?_)
  refine TO.q (q_pick0 rfl rfl) (TO.qm rfl ?_)
  refine TO.gd rfl rfl rfl (LT.oq rfl rfl (q_move rfl) ?_)
  refine TO.q (q_pick0 rfl rfl) ?_
  refine TO.nl ?_
  refine T.cond0 rfl ?_
  refine T.skip (T.s (T.s (T.rg ?_)))
  refine TO.qa rfl ?_
  refine TO.nl (T.block ?_)
  refine T.loopS (fun (x : Nat) ρ O => O = [oI z13 25 (dC R k5), oI z11 25 (dC Mi k4), oI z10 25 (dC exZ kz), oI z4 25 (dC (drV exX 0) k3), oI z3 25 (dC Y k2), oI z2 25 (dC X k1), oI z1 25 (dC exX k0), dI 37 4 3 R k5, dI 37 4 3 Mi k4, dI 37 4 3 exZ kz, dI 37 4 3 (drV exX 0) k3, dI 37 4 3 Y k2, dI 37 4 3 X k1, dI 37 4 3 exX k0] ∧ x ≤ 4 ∧ Heads [(1, (.pointer (some ⟨z1, 0, none⟩))), (2, (.pointer (some ⟨z2, 0, none⟩))), (3, .int .i64 0), (4, (.pointer (some ⟨z3, 0, none⟩))), (5, .int .i64 0), (6, .bool false), (7, .int .i64 0), (8, (.pointer (some ⟨z4, 0, none⟩))), (9, .int .i64 7), (10, (.pointer (some ⟨z10, 0, none⟩))), (11, (.pointer (some ⟨z11, 0, none⟩))), (12, .int .i64 0), (13, (.pointer (some ⟨z13, 0, none⟩))), (14, .int .i64 0), (15, .int .i64 ((x : Nat) : Int))] ρ) (fun x => 4 - x) 0 ?_ ?_
  · exact ⟨rfl, Nat.zero_le _, ⟨rfl, rfl, rfl, rfl, rfl, rfl, rfl, rfl, rfl, rfl, rfl, rfl, rfl, rfl, rfl, trivial⟩⟩
  rintro x ρ O ⟨rfl, hx4, hH⟩
  obtain ⟨ρ0, rfl⟩ := hH.elim
  clear hH
  refine T.s (T.s (T.rg ?_))
  refine TO.qm rfl (TO.q (q_lss rfl rfl) ?_)
  refine TO.nl ?_
  refine T.condP rfl (fun hc => ?_) (fun hc => ?_)
  · have hlt81 : x < 4 := by omega
    have hxl : x < 4 := by omega
    have hw8 : ∀ y ∈ [x], y < 256 := fun y hy => by have := List.mem_singleton.1 hy; omega
    refine T.skip (T.s (T.block (T.s (T.rg ?_))))
    refine TO.qm rfl (TO.q (q_conv_id underlying3 underlying5 rfl (wrap8 (by omega))) ?_)
    refine TO.l rfl (l_build1 (v := .int .u8 ((x : Nat) : Int)) underlying46 inf5 rfl rfl rfl (fun z14 => ?_))
    refine TO.qa rfl ?_
    refine TO.nl (T.s ?_)
    refine T.draws _ [(0, 0), (1, 0), (2, 1), (3, 0), (4, 0), (5, 0), (6, 0), (7, 1), (8, 0), (9, 0), (10, 0), (11, 0), (13, 0), (14, 0), (12, 1), (15, 0), (16, 0), (17, 0), (18, 0), (19, 0), (21, 0), (22, 0), (20, 1), (23, 2), (24, 2), (25, 2)] mixed (drawF_ok (by kernel_rfl)) (Sub.of (List.Sublist.refl _)) (fun _ _ _ h => h) ?_
    refine DO.q rfl (q_la 6 underlying25 rfl inf25 rfl rfl rfl) (DO.q rfl (q_move rfl) ?_)
    have hk89 := fun (w1 : World) (hI : Inv w [rowI (some ⟨z14, 0, none⟩) 1 5 1 [.int .u8 ((x : Nat) : Int)], oI z13 25 (dC R k5), oI z11 25 (dC Mi k4), oI z10 25 (dC exZ kz), oI z4 25 (dC (drV exX 0) k3), oI z3 25 (dC Y k2), oI z2 25 (dC X k1), oI z1 25 (dC exX k0), dI 37 4 3 R k5, dI 37 4 3 Mi k4, dI 37 4 3 exZ kz, dI 37 4 3 (drV exX 0) k3, dI 37 4 3 Y k2, dI 37 4 3 X k1, dI 37 4 3 exX k0] w1) => (haveI := tbz hI; (show PureT _ _ _ _ _ from by
        have h9 := accF w1 X k1 (hI.at (k := k1) (mG 13 rfl)) bX.1 bX.2.1 bX.2.2 (some ⟨z14, 0, none⟩) 1 [x] (hI.slOf (cs := byts [x]) (mG 0 rfl)) (show 1 < _ by decide) hw8
        rw [fX x hxl] at h9
        exact h9))
    refine DO.loud rfl rfl (l_call ent38 (CallT.op hk89) rfl ?_)
    clear hk89
    rintro vr O' ⟨N, rfl, rfl, rfl⟩
    refine ⟨by exact Sub.rf, ?_⟩
    refine DO.q rfl (q_not rfl) (DO.q rfl (q_move rfl) ?_)
    refine DO.guarded rfl rfl rfl (q_la 5 underlying25 rfl inf25 rfl rfl rfl) ?_
    refine DO.guarded rfl rfl rfl (q_move rfl) ?_
    have hk94 := fun (w1 : World) (hI : Inv w [rowI (some ⟨z14, 0, none⟩) 1 5 1 [.int .u8 ((x : Nat) : Int)], oI z13 25 (dC R k5), oI z11 25 (dC Mi k4), oI z10 25 (dC exZ kz), oI z4 25 (dC (drV exX 0) k3), oI z3 25 (dC Y k2), oI z2 25 (dC X k1), oI z1 25 (dC exX k0), dI 37 4 3 R k5, dI 37 4 3 Mi k4, dI 37 4 3 exZ kz, dI 37 4 3 (drV exX 0) k3, dI 37 4 3 Y k2, dI 37 4 3 X k1, dI 37 4 3 exX k0] w1) => (haveI := tbz hI; (show PureT _ _ _ _ _ from by
        have h9 := accF w1 Y k2 (hI.at (k := k2) (mG 12 rfl)) bY.1 bY.2.1 bY.2.2 (some ⟨z14, 0, none⟩) 1 [x] (hI.slOf (cs := byts [x]) (mG 0 rfl)) (show 1 < _ by decide) hw8
        rw [fY x hxl] at h9
        exact h9))
    refine DO.loudG rfl rfl rfl rfl (l_call ent38 (CallT.op hk94) rfl ?_)
    clear hk94
    rintro vr O' ⟨N, rfl, rfl, rfl⟩
    refine ⟨by exact Sub.rf, ?_⟩
    refine DO.q rfl (q_pick0 rfl rfl) (DO.q rfl (q_move rfl) ?_)
    refine DO.guarded rfl rfl rfl (q_la 2 underlying25 rfl inf25 rfl rfl rfl) ?_
    refine DO.guarded rfl rfl rfl (q_move rfl) ?_
    refine DO.guarded rfl rfl rfl (q_move rfl) ?_
    refine DO.guarded rfl rfl rfl (QT.cast (q_gtr rfl rfl) (v' := .bool (decide (x > 1))) (congrArg Value.bool (decide_eq_decide.2 (by omega)))) ?_
    have hk99 := fun (w1 : World) (hI : Inv w [rowI (some ⟨z14, 0, none⟩) 1 5 1 [.int .u8 ((x : Nat) : Int)], oI z13 25 (dC R k5), oI z11 25 (dC Mi k4), oI z10 25 (dC exZ kz), oI z4 25 (dC (drV exX 0) k3), oI z3 25 (dC Y k2), oI z2 25 (dC X k1), oI z1 25 (dC exX k0), dI 37 4 3 R k5, dI 37 4 3 Mi k4, dI 37 4 3 exZ kz, dI 37 4 3 (drV exX 0) k3, dI 37 4 3 Y k2, dI 37 4 3 X k1, dI 37 4 3 exX k0] w1) => (haveI := tbz hI; (show PureT _ _ _ _ _ from by
        have h9 := accF w1 Mi k4 (hI.at (k := k4) (mG 9 rfl)) bM.1 bM.2.1 bM.2.2 (some ⟨z14, 0, none⟩) 1 [x] (hI.slOf (cs := byts [x]) (mG 0 rfl)) (show 1 < _ by decide) hw8
        rw [fM x hxl] at h9
        exact h9))
    refine DO.loudG rfl rfl rfl rfl (l_call ent38 (CallT.op hk99) rfl ?_)
    clear hk99
    rintro vr O' ⟨N, rfl, rfl, rfl⟩
    refine ⟨by exact Sub.rf, ?_⟩
    refine DO.guarded rfl rfl rfl (QT.cast (q_bneq underlying4 rfl rfl) (v' := .bool false) (by simp)) ?_
    refine DO.q rfl (q_pick0 rfl rfl) (DO.q rfl (q_move rfl) ?_)
    refine DO.guarded rfl rfl rfl (q_la 1 underlying25 rfl inf25 rfl rfl rfl) ?_
    refine DO.guarded rfl rfl rfl (q_move rfl) ?_
    refine DO.guarded rfl rfl rfl (q_la 7 underlying25 rfl inf25 rfl rfl rfl) ?_
    refine DO.guarded rfl rfl rfl (q_move rfl) ?_
    have hk107 := fun (w1 : World) (hI : Inv w [rowI (some ⟨z14, 0, none⟩) 1 5 1 [.int .u8 ((x : Nat) : Int)], oI z13 25 (dC R k5), oI z11 25 (dC Mi k4), oI z10 25 (dC exZ kz), oI z4 25 (dC (drV exX 0) k3), oI z3 25 (dC Y k2), oI z2 25 (dC X k1), oI z1 25 (dC exX k0), dI 37 4 3 R k5, dI 37 4 3 Mi k4, dI 37 4 3 exZ kz, dI 37 4 3 (drV exX 0) k3, dI 37 4 3 Y k2, dI 37 4 3 X k1, dI 37 4 3 exX k0] w1) => (haveI := tbz hI; (show PureT _ _ _ _ _ from by
        have h9 := accF w1 R k5 (hI.at (k := k5) (mG 8 rfl)) bR.1 bR.2.1 bR.2.2 (some ⟨z14, 0, none⟩) 1 [x] (hI.slOf (cs := byts [x]) (mG 0 rfl)) (show 1 < _ by decide) hw8
        rw [fR x hxl] at h9
        exact h9))
    refine DO.loudG rfl rfl rfl rfl (l_call ent38 (CallT.op hk107) rfl ?_)
    clear hk107
    rintro vr O' ⟨N, rfl, rfl, rfl⟩
    refine ⟨by exact Sub.rf, ?_⟩
    have hk110 := fun (w1 : World) (hI : Inv w [rowI (some ⟨z14, 0, none⟩) 1 5 1 [.int .u8 ((x : Nat) : Int)], oI z13 25 (dC R k5), oI z11 25 (dC Mi k4), oI z10 25 (dC exZ kz), oI z4 25 (dC (drV exX 0) k3), oI z3 25 (dC Y k2), oI z2 25 (dC X k1), oI z1 25 (dC exX k0), dI 37 4 3 R k5, dI 37 4 3 Mi k4, dI 37 4 3 exZ kz, dI 37 4 3 (drV exX 0) k3, dI 37 4 3 Y k2, dI 37 4 3 X k1, dI 37 4 3 exX k0] w1) => (haveI := tbz hI; (show PureT _ _ _ _ _ from by
        have h9 := accF w1 exX k0 (hI.at (k := k0) (mG 14 rfl)) bE.1 bE.2.1 bE.2.2 (some ⟨z14, 0, none⟩) 1 [x] (hI.slOf (cs := byts [x]) (mG 0 rfl)) (show 1 < _ by decide) hw8
        exact h9))
    refine DO.lastG rfl rfl rfl rfl (l_call ent38 (CallT.op hk110) rfl ?_)
    clear hk110
    rintro vr O' ⟨N, rfl, rfl, rfl⟩
    refine DO.lastG rfl rfl rfl rfl (LT.oq rfl rfl (QT.cast (q_bneq underlying4 rfl rfl) (v' := .bool false) (by simp)) ?_)
    refine DO.last rfl rfl (LT.oq rfl rfl (q_pick0 rfl rfl) ?_)
    refine DO.done ?_
    refine T.cond0 rfl ?_
    refine T.skip (T.rg ?_)
    refine TO.qm rfl (TO.q (q_addN (a := x) (b := 1) rfl rfl (by omega)) (TO.qa rfl ?_))
    refine TO.nl ?_
    exact ⟨x + 1, by omega, [oI z13 25 (dC R k5), oI z11 25 (dC Mi k4), oI z10 25 (dC exZ kz), oI z4 25 (dC (drV exX 0) k3), oI z3 25 (dC Y k2), oI z2 25 (dC X k1), oI z1 25 (dC exX k0), dI 37 4 3 R k5, dI 37 4 3 Mi k4, dI 37 4 3 exZ kz, dI 37 4 3 (drV exX 0) k3, dI 37 4 3 Y k2, dI 37 4 3 X k1, dI 37 4 3 exX k0], (by exact Sub.d (.k (.k (.k (.k (.k (.k (.k (.k (.k (.k (.k (.k (.k (.k .z))))))))))))))), rfl, by omega, ⟨rfl, rfl, rfl, rfl, rfl, rfl, rfl, rfl, rfl, rfl, rfl, rfl, rfl, rfl, rfl, trivial⟩⟩
  have hge81 : ¬ x < 4 := by omega
  refine T.exit ?_
  refine T.s (T.rg ?_)
  refine TO.q (q_la 5 underlying25 rfl inf25 rfl rfl rfl) ?_
  have hk114 := fun (w1 : World) (hI : Inv w [oI z13 25 (dC R k5), oI z11 25 (dC Mi k4), oI z10 25 (dC exZ kz), oI z4 25 (dC (drV exX 0) k3), oI z3 25 (dC Y k2), oI z2 25 (dC X k1), oI z1 25 (dC exX k0), dI 37 4 3 R k5, dI 37 4 3 Mi k4, dI 37 4 3 exZ kz, dI 37 4 3 (drV exX 0) k3, dI 37 4 3 Y k2, dI 37 4 3 X k1, dI 37 4 3 exX k0] w1) => (haveI := tbz hI; (show PureT _ _ _ _ _ from by
      have h9 := accF w1 X k1 (hI.at (k := k1) (mG 12 rfl)) bX.1 bX.2.1 bX.2.2 none 0 [] (Sl.nil _ none) (by decide) (fun x hx => by cases hx)
      rw [fN] at h9
      exact h9))
  refine TO.l rfl (l_call ent38 (CallT.op hk114) rfl ?_)
  clear hk114
  rintro vr O' ⟨N, rfl, rfl, rfl⟩
  refine TO.q (q_not rfl) (TO.qm rfl ?_)
  refine TO.gd rfl rfl rfl (LT.oq rfl rfl (q_fa underlying25 rfl inf22 rfl rfl) ?_)
  refine TO.gd rfl rfl rfl (LT.oq rfl rfl (q_lb 4 underlying22 rfl rfl rfl rfl) ?_)
  refine TO.gd rfl rfl rfl (LT.oq rfl rfl (q_len underlying22 rfl) ?_)
  refine TO.gd rfl rfl rfl (LT.oq rfl rfl (QT.toB (q_eql rfl rfl) (decide_eq_true (by rw [f1]; rfl))) ?_)
  refine TO.q (q_pick1 rfl rfl) (TO.qa rfl ?_)
  refine TO.nl (T.ret (Res.drop ?_))
  refine Res.one (.bool true) Tryz.results11 rfl ?_
  exact ⟨[], Sub.z, rfl, rfl⟩
end Go.Proofs.YtohkmggbfcnapaaGreatDoor


namespace Go.Lx
theorem longB_one {a : DFA} (h : ¬ longB [a] = true) : Sh a := sh_of (fun h2 => h (by simpa [longB] using h2))
theorem bdVal {d : DFA} (hv : Valid d) : Bd9 d := min_bounds (HasL.of hv (Nat.le_refl _))
theorem bdRn {d : DFA} {l : List Int} : Bd9 (rnV d l) := by
  by_cases he : rnE d l = 0
  · exact bdVal (rn_has (HasL.of (rnE_zero.1 he).1 (Nat.le_refl _)) he).2.2.2.valid
  · unfold rnV; rw [if_neg he]; exact bd_noD
theorem rnV_bad {d : DFA} {l : List Int} (h : rnE d l ≠ 0) : rnV d l = noD := by unfold rnV; rw [if_neg h]
theorem Sh.h8 {a : DFA} (sa : Sh a) (hv : Valid a) : HasL a.vars 8 a (acc a) := HasL.of hv sa.n8
theorem Sh.h6 {a : DFA} (hv : Valid a) (hn : a.next.length ≤ 6) : HasL a.vars 6 a (acc a) := HasL.of hv hn
theorem ren_err {a : DFA} {l : List Int} (h : rnE a l ≠ 0) : (rnV a l).next.length = 0 := by rw [rnV_bad h]; rfl
structure RenF (a : DFA) (l : List Int) (p : List Nat) (X : DFA) : Prop where
  va : Valid a
  pn : PermN p p.length
  pl : p.length = l.length
  p6 : p.length ≤ 6
  pi : ints l = intN p
  wd : ∀ o, runE a o = 0 → runE X (o.map fun x => maF p x p.length) = 0 ∧ accV X (o.map fun x => maF p x p.length) = accV a o
  bd : ∀ m, rnE X m ≠ 0 → rnE X m = 7
  ok : ∀ m, rnE X m = 0 → ∃ q, natL m = q ∧ q.length = m.length ∧ ints m = intN q ∧ m.length = l.length ∧ (∀ x ∈ q, x < 6) ∧ rnE a (p.map fun x => (((q.getD x 0) : Nat) : Int)) = 0 ∧ rnV X m = rnV a (p.map fun x => (((q.getD x 0) : Nat) : Int))
theorem ren_ok {a : DFA} (sa : Sh a) {l : List Int} (he : rnE a l = 0) : RenF a l (natL l) (rnV a l) := by
  have hv := (rnE_zero.1 he).1
  have H := sa.h8 hv
  have h6 := H.lt6
  obtain ⟨hP, hl, hln, hM⟩ := rn_has H he
  have hlen : (natL l).length = a.vars.toNat := hP.len
  refine ⟨hv, by rw [hlen]; exact hP, natL_len l, by omega, ?_, fun o ho => ?_, fun m hm => rn_err hM.toHasL hm, fun m hm => ?_⟩
  · conv => lhs; rw [hl]
    simp [List.map_map]
  · have := rn_word H he ho
    rw [hlen]; exact this
  · obtain ⟨hQ, hm2, hmn, _⟩ := rn_has hM.toHasL hm
    obtain ⟨c1, c2⟩ := rn_comp H he hm
    refine ⟨natL m, rfl, natL_len m, ?_, by omega, fun x hx => by have := hQ.lt x hx; omega, c1, c2⟩
    conv => lhs; rw [hm2]
    simp [List.map_map]
end Go.Lx


namespace Go.Lx
open Go.RowKit Go.ChangeShapes Go.WideShapes Go.Deep
section
variable {H : Type} {enc : TypeId × Value → H} {P : Program}
theorem TrodAll_stays (hl : laidOutB P = true) {W W' : World} {sp' : Nat → Bool} : ∀ {ts : List TypeId} {vs : List Value} {ds : List (DataW H)} {ps : List MemPlace},
    (∀ t ∈ ts, P.readableRec t = true ∧ t < P.types.size) → DataW.TrodAll enc P W 0 (fun _ => true) true ts vs ds ps → (∀ p ∈ ps, W.sameAt W' p) → (∀ p ∈ ps, sp' p.block = true) → DataW.TrodAll enc P W' 0 sp' true ts vs ds ps
  | [], _, _, _, _, h, _, _ => by
    obtain ⟨rfl, rfl, rfl⟩ := trodAll_nil h
    rfl
  | t :: ts, _, _, _, hr, h, hs, hsp => by
    obtain ⟨v, vs1, d, ds1, p, q, rfl, rfl, rfl, h1, h2⟩ := trodAll_cons h
    have ht := hr t (by simp)
    exact ⟨p, q, WideElems.Trod_stays hl ht.1 ht.2 h1 (fun x hx => hs x (List.mem_append_left _ hx)) (fun x hx => hsp x (List.mem_append_left _ hx)),
      TrodAll_stays hl (fun t ht => hr t (by simp [ht])) h2 (fun x hx => hs x (List.mem_append_right _ hx)) (fun x hx => hsp x (List.mem_append_right _ hx)), rfl⟩
theorem post_law {f : Func} {s : ChangeSpec} {W W' : World} {args : Array Value} {ds gs : List (DataW H)} {before : List MemPlace} {tb : TypeId}
    (hl : laidOutB P = true) (hr : ∀ t ∈ f.params.toList, P.readableRec t = true ∧ t < P.types.size) (hres : f.resultTypes = #[tb]) (hb : P.underlying tb = some .bool) (hv : s.vars = [])
    (hW : DataW.Whole enc P f.params.toList s.vars false W args.toList ds gs before)
    (h1 : (s.fn H ds).results = [.lit (.bool true)]) (h2 : (s.fn H ds).args = ds) (h3 : (s.fn H ds).vars = [])
    (hB : Below W.heap.size W W') : s.post enc P f false true false false W args (.bool true) W' := by
  have hW0 := hW
  obtain ⟨p, q, hA, hV, rfl, hz, hn⟩ := hW
  rw [hv] at hV
  obtain ⟨rfl, rfl⟩ := trodVars_none hV
  simp only [List.append_nil] at hW0 hz hn
  have hlt := hW0.lt
  have hsame : ∀ x ∈ p, W.sameAt W' x := fun x hx => hB.same (hlt x hx)
  have hargs : ∀ sp : Nat → Bool, (∀ x ∈ p, sp x.block = true) → DataW.TrodAll enc P W' 0 sp true f.params.toList args.toList (s.fn H (ds ++ [])).args p := fun sp hsp => by
    rw [List.append_nil, h2]
    exact TrodAll_stays hl hr hA hsame hsp
  have hvars : ∀ sp : Nat → Bool, DataW.TrodVars enc P W' sp s.vars (s.fn H (ds ++ [])).vars [] := fun sp => by
    rw [List.append_nil, hv, h3]; rfl
  have hresult : ∀ (b : Nat) (sp : Nat → Bool) (hd : Bool), DataW.TrodAll enc P W' b sp hd f.resultTypes.toList ((Value.bool true).resultList f.resultTypes.size) (s.fn H (ds ++ [])).results [] := fun b sp hd => by
    rw [List.append_nil, h1, hres]
    exact trodAll_cons_mk (shut_bool hb _) trodAll_mk0
  have hold : ∀ x ∈ p, (fun b => decide (b < W.heap.size)) x.block = true := fun x hx => by simpa using hlt x hx
  refine ⟨ds, [], p, [], p, [], hW0, hresult _ _ _, hargs _ hold, hvars _, World.keptBut_mono (fun x hx => ⟨hx, ?_⟩) (hB.frame _), fun _ => ?_⟩
  · exact Or.inr (by simpa using hx)
  · refine ⟨ok_one hres rfl (okWide_bool_mk hb _), _, _, ([] ++ p) ++ [], ⟨[] ++ p, [], trodAll_append (hargs _ (fun _ _ => rfl)) (hresult _ _ _), hvars _, rfl, ?_, ?_⟩, ?_⟩
    · intro b off hx
      have hx' : MemPlace.cell b off ∈ p := by simpa using hx
      rw [hB.frozen (p := ⟨b, off, none⟩) (hlt _ hx')]
      exact hz b off hx'
    · intro ha; cases ha
    · intro x hx _
      simpa using hx
theorem spotNone {w : World} {a : Addr} {v : Value} (h : w.cell? a = some v) : a.spot = none := by
  unfold World.cell? at h
  cases e : a.spot with
  | none => rfl
  | some x => rw [e] at h; split at h <;> simp at h
theorem Sl.ofCells {w : World} {a : Addr} {cs : List Value} (h : ∀ i (hi : i < cs.length), w.cell? (a.add i) = some cs[i]) : Sl w (some a) cs := fun i hi => by
  have h0 := h 0 (by omega)
  have h1 := h i hi
  have h2 : a.spot = none := spotNone (a := a) (by simpa [Addr.add] using h0)
  refine ⟨a, rfl, h2, ?_⟩
  have e : a.add i = ⟨a.block, a.off + i, none⟩ := by
    unfold Addr.add
    split
    · rename_i h; subst h
      cases a with
      | mk b o s => simp at h2; subst h2; rfl
    · rfl
  rw [← e]; exact h1
structure DfaIn (P : Program) (W : World) (v : Value) (d : DFA) (nb fb : Option Addr) (nc fc : Nat) (vs : List Value) : Prop where
  val : v = .agg (dfaCells d nb nc fb fc).toArray
  at_ : DfaAt W d nb vs fb
  n : d.next.length ≤ reachBytes
  r : ∀ r ∈ d.next, r.length ≤ reachBytes
  f : d.final.length ≤ reachBytes
  fcap : d.final.length ≤ fc
  rcap : ∀ (i : Nat) (b : Option Addr) (n c : Nat), vs[i]? = some (Value.slice b n c) → n ≤ c
theorem weights_all (e : TypeId) : ∀ {l : List (DataW H)} {d : DataW H}, d ∈ l → ∀ m ∈ d.weights P e, m ∈ DataW.weightsAll P e l
  | [], _, h, _, _ => by cases h
  | x :: l, d, h, m, hm => by
    rw [DataW.weightsAll, List.mem_append]
    rcases List.mem_cons.1 h with rfl | h
    · exact .inl hm
    · exact .inr (weights_all e h m hm)
theorem slice_bound {t e : TypeId} {elems spare : List (DataW H)} (ht : P.underlying t = some (.slice e)) (he : 0 < P.bytesOf e) (h : ∀ m ∈ (DataW.slice elems spare).weights P t, m ≤ reachBytes) :
    elems.length ≤ reachBytes ∧ ∀ d ∈ elems, ∀ m ∈ d.weights P e, m ≤ reachBytes := by
  have hw : (DataW.slice elems spare).weights P t = (elems.length + spare.length) * P.bytesOf e :: (DataW.weightsAll P e elems ++ DataW.weightsAll P e spare) := by
    rw [DataW.weights, ht]
  rw [hw] at h
  refine ⟨?_, fun d hd m hm => h m (List.mem_cons_of_mem _ (List.mem_append_left _ (weights_all e hd m hm)))⟩
  have h1 := h _ List.mem_cons_self
  have h2 := Nat.mul_le_mul_left (elems.length + spare.length) (show 1 ≤ P.bytesOf e from he)
  omega
theorem intsOf {w : World} {A : Option Addr} {L C : Nat} {Z : List Int} (hL : L ≤ C) (hZ : Z.length = C) (h0 : A = none → C = 0) (h : ∀ a', A = some a' → 0 ≤ a'.block ∧ ∀ c, c < C → w.cell? (a'.add c) = some (.int .i64 (Z.getD c 0))) :
    (Z.take L).length = L ∧ Sl w A (ints (Z.take L)) := by
  have hl : (Z.take L).length = L := by rw [List.length_take]; omega
  refine ⟨hl, ?_⟩
  cases A with
  | none =>
    have := h0 rfl
    have : Z.take L = [] := List.eq_nil_of_length_eq_zero (by omega)
    rw [this]; exact Sl.nil _ _
  | some a =>
    refine Sl.ofCells fun i hi => ?_
    have hi' : i < L := by rw [List.length_map, hl] at hi; exact hi
    have hiz : i < Z.length := by omega
    rw [(h a rfl).2 i (by omega), List.getElem_map, List.getElem_take]
    simp [hiz]
theorem open_dfa {t ti tn tr tf tb : TypeId} {f0 f1 f2 f3 : Field} {W : World} {v : Value} {d : DataW H} {p : List MemPlace}
    (ht : P.underlying t = some (.struct #[f0, f1, f2, f3])) (hc : P.cellsOf t = 4) (h0 : f0.type = ti) (h1 : f1.type = ti) (h2 : f2.type = tn) (h3 : f3.type = tf) (o0 : f0.offset = 0) (o1 : f1.offset = 1) (o2 : f2.offset = 2) (o3 : f3.offset = 3)
    (hi : P.underlying ti = some (.int .i64)) (hn : P.underlying tn = some (.slice tr)) (hrow : P.underlying tr = some (.slice ti)) (hf : P.underlying tf = some (.slice tb)) (hb : P.underlying tb = some .bool)
    (ci : P.cellsOf ti = 1) (cn : P.cellsOf tn = 1) (cr : P.cellsOf tr = 1) (cf : P.cellsOf tf = 1) (cb : P.cellsOf tb = 1) (br : 0 < P.bytesOf tr) (bi : 0 < P.bytesOf ti) (bb : 0 < P.bytesOf tb) (hw : ∀ m ∈ d.weights P t, m ≤ reachBytes)
    (h : DataW.Trod enc P W 0 (fun _ => true) true t v d p) : ∃ D nb fb nc fc vs, DfaIn P W v D nb fb nc fc vs := by
  obtain ⟨fuel, hT⟩ := h
  obtain ⟨xs, n, rfl, hx, hlen, hxl, hfs⟩ := DataW.trod_struct ht hT
  rw [hc] at hlen
  obtain ⟨c0, c1, c2, c3, hcs⟩ : ∃ c0 c1 c2 c3, v.cells.toList = [c0, c1, c2, c3] := by
    match hh : v.cells.toList, hlen with
    | [a, b, c, e], _ => exact ⟨a, b, c, e, rfl⟩
  have hv : v = .agg #[c0, c1, c2, c3] := by
    have hsz : v.cells.size = 4 := by rw [← Array.length_toList, hcs]; rfl
    cases v with
    | agg cs =>
      have : cs.toList = [c0, c1, c2, c3] := hcs
      rw [← Array.toArray_toList (xs := cs), this]
    | _ => simp [Value.cells] at hsz
  rw [hcs] at hfs
  obtain ⟨x0, x1, x2, x3, rfl⟩ : ∃ a b c e, xs = [a, b, c, e] := by
    match xs, hxl with
    | [a, b, c, e], _ => exact ⟨a, b, c, e, rfl⟩
  have g0 := hfs 0 f0 rfl
  have g1 := hfs 1 f1 rfl
  have g2 := hfs 2 f2 rfl
  have g3 := hfs 3 f3 rfl
  rw [h0, o0, ci] at g0
  rw [h1, o1, ci] at g1
  rw [h2, o2, cn] at g2
  rw [h3, o3, cf] at g3
  have hd : d = .agg [x0.1, x1.1, x2.1, x3.1] := congrArg Prod.fst hx
  have hwe : d.weights P t = DataW.weightsEach P [ti, ti, tn, tf] [x0.1, x1.1, x2.1, x3.1] := by
    rw [hd, DataW.weights, ht]
    simp [h0, h1, h2, h3]
  rw [hwe] at hw
  have hw2 : ∀ m ∈ x2.1.weights P tn, m ≤ reachBytes := fun m hm => hw m (DataW.weights_mem_each (j := 2) rfl rfl m hm)
  have hw3 : ∀ m ∈ x3.1.weights P tf, m ≤ reachBytes := fun m hm => hw m (DataW.weights_mem_each (j := 3) rfl rfl m hm)
  obtain ⟨n0, e0, _, _⟩ := DataW.trod_int hi g0
  obtain ⟨n1, e1, _, _⟩ := DataW.trod_int hi g1
  have e0' : c0 = .int .i64 n0 := by simpa using e0
  have e1' : c1 = .int .i64 n1 := by simpa using e1
  subst e0' e1'
  obtain ⟨nb, nc, rows, vs, e2, hnl, hvl, hout, hrows, hrcap⟩ : ∃ (nb : Option Addr) (nc : Nat) (rows : List (List Int)) (vs : List Value), c2 = .slice nb rows.length nc ∧ rows.length ≤ reachBytes ∧ (∀ r ∈ rows, r.length ≤ reachBytes) ∧ Sl W nb vs ∧ RowsR W vs rows ∧ ∀ (i : Nat) (b : Option Addr) (n c : Nat), vs[i]? = some (Value.slice b n c) → n ≤ c := by
    rcases open_int_rows hn hrow hi cr ci g2 with ⟨hcs2, _⟩ | ⟨a, len, cap, A, L, C, Z, hcs2, _, hlc, hcm, hx2, hall⟩
    · exact ⟨none, 0, [], [], by simpa using hcs2, Nat.zero_le _, fun r hr => (List.not_mem_nil hr).elim, Sl.nil _ _, ⟨rfl, fun i r hr => by simp at hr⟩, fun i b n c hr => by simp at hr⟩
    · rw [congrArg Prod.fst hx2] at hw2
      obtain ⟨hwl, hwr⟩ := slice_bound hn br hw2
      have hwl' : len ≤ reachBytes := by simpa using hwl
      have hwrow : ∀ r, r < len → L r ≤ reachBytes := fun r hr => by
        obtain ⟨_, a2, _, a4, _, a6, _⟩ := hall r (by omega)
        have hm := hwr _ (List.mem_map.2 ⟨r, List.mem_range.2 hr, rfl⟩)
        cases hA : A r with
        | none => have := a6 hA; omega
        | some b =>
          rw [hA] at hm
          have := (slice_bound hrow bi hm).1
          simp [lits] at this
          omega
      have hrl : ∀ r, r < len → ((Z r).take (L r)).length = L r ∧ Sl W (A r) (ints ((Z r).take (L r))) := fun r hr => by
        obtain ⟨_, a2, a3, a4, _, a6, a7⟩ := hall r (by omega)
        exact intsOf a2 a4 a6 a7
      refine ⟨some a, cap, (List.range len).map fun r => (Z r).take (L r), (List.range len).map fun r => .slice (A r) (L r) (C r), by simpa using hcs2, by simp; omega, ?_, ?_, ⟨by simp, ?_⟩, ?_⟩
      · intro r hr
        obtain ⟨j, hj, rfl⟩ := List.mem_map.1 hr
        have hj' := List.mem_range.1 hj
        rw [(hrl j hj').1]; exact hwrow j hj'
      · refine Sl.ofCells fun i hi9 => ?_
        have hi' : i < len := by simpa using hi9
        rw [(hall i (by omega)).1]; simp
      · intro i r hr
        have hi' : i < len := by
          have := (List.getElem?_eq_some_iff.1 hr).1
          simpa using this
        have er : r = (Z i).take (L i) := by
          rw [List.getElem?_map, List.getElem?_range hi'] at hr
          exact (Option.some.inj hr).symm
        subst er
        refine ⟨A i, C i, ?_, (hrl i hi').2⟩
        rw [List.getElem?_map, List.getElem?_range hi', (hrl i hi').1]; rfl
      · intro i b n c hr
        by_cases hi' : i < len
        · rw [List.getElem?_map, List.getElem?_range hi'] at hr
          have h9 := Option.some.inj hr
          obtain ⟨_, a2, _⟩ := hall i (by omega)
          injection h9 with _ h10 h11
          omega
        · rw [List.getElem?_eq_none (by simpa using hi')] at hr; cases hr
  obtain ⟨fb, fc, fin, e3, hfl, hfin, hfcap⟩ : ∃ (fb : Option Addr) (fc : Nat) (fin : List Bool), c3 = .slice fb fin.length fc ∧ fin.length ≤ reachBytes ∧ Sl W fb (bools fin) ∧ fin.length ≤ fc := by
    rcases open_bools hf hb cb g3 with ⟨hcs3, _⟩ | ⟨a, len, cap, B, hcs3, _, hlc, hcm, hx3, hall⟩
    · exact ⟨none, 0, [], by simpa using hcs3, Nat.zero_le _, Sl.nil _ _, Nat.zero_le _⟩
    · rw [congrArg Prod.fst hx3] at hw3
      have hwl := (slice_bound hf bb hw3).1
      have hwl' : len ≤ reachBytes := by simpa using hwl
      refine ⟨some a, cap, (List.range len).map B, by simpa using hcs3, by simp; omega, Sl.ofCells fun i hi9 => ?_, by simp; omega⟩
      have hi' : i < len := by simpa using hi9
      rw [hall i (by omega)]; simp
  exact ⟨⟨n0, n1, rows, fin⟩, nb, fb, nc, fc, vs, by rw [hv, e2, e3], ⟨hout, hrows, hfin⟩, hnl, hvl, hfl, hfcap, hrcap⟩
theorem wfU8 {n : Int} (h : (Lit.int .u8 n).wf = true) : 0 ≤ n ∧ n < 256 := by
  simp only [Lit.wf, Bool.and_eq_true, decide_eq_true_eq] at h
  have h1 : (0 : Int) ≤ n := h.1
  have h2 : n ≤ 255 := h.2
  omega
theorem open_word {t e : TypeId} {W : World} {r : Reach} {b0 : Nat} {v : Value} {d : DataW H} {p : List MemPlace} (ht : P.underlying t = some (.slice e)) (he : P.underlying e = some (.int .u8)) (ce : P.cellsOf e = 1) (be : 0 < P.bytesOf e)
    (hval : Value.okWide P W r b0 t v) (hw : ∀ m ∈ d.weights P t, m ≤ reachBytes) (h : DataW.Trod enc P W 0 (fun _ => true) true t v d p) :
    ∃ (l : List Nat) (b : Option Addr) (c : Nat), v = .slice b l.length c ∧ (Sl W b (byts l) ∧ ∀ x ∈ l, x < 256) ∧ l.length ≤ reachBytes := by
  obtain ⟨fuel, hT⟩ := h
  have hv : v.cells.toList = [v] := by
    unfold Value.okWide at hval
    rw [ht] at hval
    simp only at hval
    unfold Cell.okWide Cell.ok at hval
    rw [ht] at hval
    cases v <;> simp_all [Value.cells]
  rcases open_ints ht he ce hT with ⟨hcs, _⟩ | ⟨a, len, cap, zs, hcs, _, hl, _, hz, hx, hcell, hwz⟩
  · rw [hv] at hcs
    exact ⟨[], none, 0, by simpa using hcs, ⟨Sl.nil _ _, fun x hx => by cases hx⟩, Nat.zero_le _⟩
  · rw [hv] at hcs
    simp only [if_true] at hz
    have hd : d = _ := congrArg Prod.fst hx
    rw [hd] at hw
    have hb := (slice_bound ht be hw).1
    have hln : (zs.take len).length = len := by rw [List.length_take]; omega
    have hwt : ∀ z ∈ zs, 0 ≤ z ∧ z < 256 := fun z hz => wfU8 (hwz z hz)
    refine ⟨(zs.take len).map Int.toNat, some a, cap, ?_, ⟨?_, ?_⟩, ?_⟩
    · rw [List.length_map, hln]; simpa using hcs
    · refine Sl.ofCells fun i hi => ?_
      have hi' : i < len := by rw [List.length_map, List.length_map, hln] at hi; exact hi
      have hiz : i < zs.length := by omega
      have hz0 := (hwt _ (List.getElem_mem hiz)).1
      rw [hcell i hiz]
      simp [hiz, Int.toNat_of_nonneg hz0]
    · intro x hx
      obtain ⟨z, hz', rfl⟩ := List.mem_map.1 hx
      have := hwt z (List.mem_of_mem_take hz')
      omega
    · rw [List.length_map, hln]
      have : (lits (H := H) .u8 (zs.take len)).length = len := by simp [lits]; omega
      omega
theorem lt63 {n : Nat} (h : n ≤ reachBytes) : n < 9223372036854775807 := Nat.lt_of_le_of_lt h (by decide)
end
end Go.Lx


namespace Go.Lx
open Go.RowKit Go.ChangeShapes Go.WideShapes Go.Deep
section
variable {H : Type} {enc : TypeId × Value → H} {P : Program}
theorem open_intl {t e : TypeId} {W : World} {r : Reach} {b0 : Nat} {v : Value} {d : DataW H} {p : List MemPlace} (ht : P.underlying t = some (.slice e)) (he : P.underlying e = some (.int .i64)) (ce : P.cellsOf e = 1) (be : 0 < P.bytesOf e)
    (hval : Value.okWide P W r b0 t v) (hw : ∀ m ∈ d.weights P t, m ≤ reachBytes) (h : DataW.Trod enc P W 0 (fun _ => true) true t v d p) :
    ∃ (l : List Int) (b : Option Addr) (c : Nat), v = .slice b l.length c ∧ Sl W b (ints l) ∧ l.length ≤ reachBytes ∧ l.length ≤ c := by
  obtain ⟨fuel, hT⟩ := h
  have hv : v.cells.toList = [v] := by
    unfold Value.okWide at hval
    rw [ht] at hval
    simp only at hval
    unfold Cell.okWide Cell.ok at hval
    rw [ht] at hval
    cases v <;> simp_all [Value.cells]
  rcases open_ints ht he ce hT with ⟨hcs, _⟩ | ⟨a, len, cap, zs, hcs, _, hl, _, hz, hx, hcell, hwz⟩
  · rw [hv] at hcs
    exact ⟨[], none, 0, by simpa using hcs, Sl.nil _ _, Nat.zero_le _, Nat.zero_le _⟩
  · rw [hv] at hcs
    simp only [if_true] at hz
    have hd : d = _ := congrArg Prod.fst hx
    rw [hd] at hw
    have hb := (slice_bound ht be hw).1
    have hln : (zs.take len).length = len := by rw [List.length_take]; omega
    refine ⟨zs.take len, some a, cap, ?_, ?_, ?_, by omega⟩
    · rw [hln]; simpa using hcs
    · refine Sl.ofCells fun i hi => ?_
      have hi' : i < len := by rw [List.length_map, hln] at hi; exact hi
      have hiz : i < zs.length := by omega
      rw [hcell i hiz]
      simp [hiz]
    · rw [hln]
      have : (lits (H := H) .i64 (zs.take len)).length = len := by simp [lits]; omega
      omega
theorem DfaIn.dk {W : World} {v : Value} {d : DFA} {nb fb : Option Addr} {nc fc : Nat} {vs : List Value} (h : DfaIn P W v d nb fb nc fc vs) : ∃ j : DK, v = .agg (dC d j).toArray ∧ At W d j ∧ Bd9 d ∧ CapD d j := by
  obtain ⟨qs, rfl, e⟩ := rows_rec h.at_.rows
  exact ⟨⟨nb, nc, fb, fc, qs⟩, h.val, h.at_, ⟨lt63 h.n, fun r hr => lt63 (h.r r hr), lt63 h.f⟩, ⟨h.fcap, h.rcap⟩⟩
end
end Go.Lx


namespace Go.Proofs.YtohkmggbfcnapaaGreatDoor
open Go.ChangeShapes Go.WideShapes Go.ChangeAt Go.RowKit Go.Lx _root_.Go.Proofs.Tryz
set_option maxRecDepth 100000
theorem own : ownKnob Tryz.prog.godebug = none := by kernel_rfl
theorem laidOut : laidOutB Tryz.prog = true := by kernel_rfl
theorem reads25 : Tryz.prog.readableRec 25 = true := by kernel_rfl
theorem lt25 : 25 < Tryz.prog.types.size := of_decide_eq_true (by kernel_rfl)
theorem reads42 : Tryz.prog.readableRec 46 = true := by kernel_rfl
theorem lt42 : 46 < Tryz.prog.types.size := of_decide_eq_true (by kernel_rfl)
theorem cells_u : Tryz.prog.cellsOf 5 = 1 := by kernel_rfl
theorem bytes_u : 0 < Tryz.prog.bytesOf 5 := of_decide_eq_true (by kernel_rfl)
theorem cells_a : Tryz.prog.cellsOf 25 = 4 := by kernel_rfl
theorem cells_b : Tryz.prog.cellsOf 3 = 1 := by kernel_rfl
theorem cells_c : Tryz.prog.cellsOf 22 = 1 := by kernel_rfl
theorem cells_d : Tryz.prog.cellsOf 37 = 1 := by kernel_rfl
theorem cells_e : Tryz.prog.cellsOf 23 = 1 := by kernel_rfl
theorem cells_f : Tryz.prog.cellsOf 4 = 1 := by kernel_rfl
theorem bytes_a : 0 < Tryz.prog.bytesOf 37 := of_decide_eq_true (by kernel_rfl)
theorem bytes_b : 0 < Tryz.prog.bytesOf 3 := of_decide_eq_true (by kernel_rfl)
theorem bytes_c : 0 < Tryz.prog.bytesOf 4 := of_decide_eq_true (by kernel_rfl)
theorem openD {H : Type} {enc : TypeId × Value → H} {W : World} {v : Value} {d : DataW H} {p : List MemPlace} (hw : ∀ m ∈ d.weights Tryz.prog 25, m ≤ reachBytes) (h : DataW.Trod enc Tryz.prog W 0 (fun _ => true) true 25 v d p) : ∃ D nb fb nc fc vs, DfaIn Tryz.prog W v D nb fb nc fc vs :=
  open_dfa underlying25 cells_a rfl rfl rfl rfl rfl rfl rfl rfl underlying3 underlying22 underlying37 underlying23 underlying4 cells_b cells_c cells_d cells_e cells_f bytes_a bytes_b bytes_c hw h
def fillO (cs : Array Value) : Obj → Obj
  | .cells _ t frozen => .cells cs t frozen
  | o => o
theorem openW {H : Type} {enc : TypeId × Value → H} {W : World} {r : Reach} {base : Nat} {v : Value} {d : DataW H} {p : List MemPlace} (hval : Value.okWide Tryz.prog W r base 46 v) (hw : ∀ m ∈ d.weights Tryz.prog 46, m ≤ reachBytes) (h : DataW.Trod enc Tryz.prog W 0 (fun _ => true) true 46 v d p) :
    ∃ (l : List Nat) (b : Option Addr) (c : Nat), v = .slice b l.length c ∧ (Sl W b (byts l) ∧ ∀ x ∈ l, x < 256) ∧ l.length ≤ reachBytes :=
  open_word underlying46 underlying5 cells_u bytes_u hval hw h
noncomputable def laidWorld (os : Os) : World :=
  { World.holding Tryz.prog os ⟨#[], #[], []⟩ with heap := ((((World.holding Tryz.prog os ⟨#[], #[], []⟩).heap.modify 0 (fillO #[.int .u8 0, .int .u8 1, .int .u8 56, .int .u8 2, .int .u8 57, .int .u8 49, .int .u8 28, .int .u8 3, .int .u8 61, .int .u8 58, .int .u8 42, .int .u8 50, .int .u8 38, .int .u8 29, .int .u8 17, .int .u8 4, .int .u8 62, .int .u8 47, .int .u8 59, .int .u8 36, .int .u8 45, .int .u8 43, .int .u8 51, .int .u8 22, .int .u8 53, .int .u8 39, .int .u8 33, .int .u8 30, .int .u8 24, .int .u8 18, .int .u8 12, .int .u8 5, .int .u8 63, .int .u8 55, .int .u8 48, .int .u8 27, .int .u8 60, .int .u8 41, .int .u8 37, .int .u8 16, .int .u8 46, .int .u8 35, .int .u8 44, .int .u8 21, .int .u8 52, .int .u8 32, .int .u8 23, .int .u8 11, .int .u8 54, .int .u8 26, .int .u8 40, .int .u8 15, .int .u8 34, .int .u8 20, .int .u8 31, .int .u8 10, .int .u8 25, .int .u8 14, .int .u8 19, .int .u8 9, .int .u8 13, .int .u8 8, .int .u8 7, .int .u8 6])).modify 1 (fillO #[.int .u64 1, .int .u64 10, .int .u64 100, .int .u64 1000, .int .u64 10000, .int .u64 100000, .int .u64 1000000, .int .u64 10000000, .int .u64 100000000, .int .u64 1000000000, .int .u64 10000000000, .int .u64 100000000000, .int .u64 1000000000000, .int .u64 10000000000000, .int .u64 100000000000000, .int .u64 1000000000000000, .int .u64 10000000000000000, .int .u64 100000000000000000, .int .u64 1000000000000000000, .int .u64 10000000000000000000])).modify 2 (fillO #[.int .u8 0, .int .u8 1, .int .u8 28, .int .u8 2, .int .u8 29, .int .u8 14, .int .u8 24, .int .u8 3, .int .u8 30, .int .u8 22, .int .u8 20, .int .u8 15, .int .u8 25, .int .u8 17, .int .u8 4, .int .u8 8, .int .u8 31, .int .u8 27, .int .u8 13, .int .u8 23, .int .u8 21, .int .u8 19, .int .u8 16, .int .u8 7, .int .u8 26, .int .u8 12, .int .u8 18, .int .u8 6, .int .u8 11, .int .u8 5, .int .u8 10, .int .u8 9])) }
theorem tabOf {W : World} (hL : laidMetH Tryz.prog [("math/bits.deBruijn32tab", Rows.laid_math_bits_deBruijn32tab), ("math/bits.deBruijn64tab", Rows.laid_math_bits_deBruijn64tab), ("internal/strconv.uint64pow10", Rows.laid_internal_strconv_uint64pow10)] W) : Tab Tryz.prog W := by
  have h : laidMet Tryz.prog [("math/bits.deBruijn32tab", Rows.laid_math_bits_deBruijn32tab), ("math/bits.deBruijn64tab", Rows.laid_math_bits_deBruijn64tab), ("internal/strconv.uint64pow10", Rows.laid_internal_strconv_uint64pow10)] W := hL
  obtain ⟨ps, h, _⟩ := h
  have hz := h
  obtain ⟨_, h⟩ := laidVars_tail h
  obtain ⟨_, h⟩ := laidVars_tail h
  obtain ⟨_, hz⟩ := laidVars_tail hz
  exact Tab.of (tabIs_of_vars (g := 1) (t := 179) (e := 107) (n := 20) (by kernel_rfl) (by kernel_rfl) (by kernel_rfl) underlying179 underlying107 (by kernel_rfl) (by kernel_rfl) h) (.inr (tabIs_of_vars (g := 0) (t := 163) (e := 5) (n := 64) (by kernel_rfl) (by kernel_rfl) (by kernel_rfl) underlying163 underlying5 (by kernel_rfl) (by kernel_rfl) hz))
theorem reads_l : Tryz.prog.readableRec 37 = true := by kernel_rfl
theorem lt_l : 37 < Tryz.prog.types.size := of_decide_eq_true (by kernel_rfl)
end Go.Proofs.YtohkmggbfcnapaaGreatDoor

