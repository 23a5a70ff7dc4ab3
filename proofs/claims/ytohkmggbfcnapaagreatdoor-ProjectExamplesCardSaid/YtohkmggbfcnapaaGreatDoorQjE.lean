/- Contracts of functions of the program (QjE): what each call answers and that it leaves memory as it was. Conditions: those each theorem names. -/
import Derived.Test.YtohkmggbfcnapaaGreatDoorCoreK
import Derived.Test.YtohkmggbfcnapaaGreatDoorWtK
import Derived.Test.YtohkmggbfcnapaaGreatDoorEnd
import Derived.Test.YtohkmggbfcnapaaGreatDoorPjX
set_option linter.unusedSectionVars false
set_option linter.unusedSimpArgs false
set_option linter.unusedVariables false
set_option linter.unnecessarySimpa false
set_option maxHeartbeats 8000000
set_option maxRecDepth 20000
namespace Go.Proofs.YtohkmggbfcnapaaGreatDoor
open Go.Lx Go.RowKit _root_.Go.Proofs.Tryz
theorem examplesC (w : World) [Tab Tryz.prog w] :
    PureT Tryz.prog 5 [] w fun r N => r = .bool true ∧ N = [] := by
  refine CallT.enter func5 rfl ntmps5 rfl ?_
  obtain ⟨X53, eX53⟩ : ∃ zz, xsV exJ (-1) 0 = zz := ⟨_, rfl⟩
  obtain ⟨X58, eX58⟩ : ∃ zz, xsV exX 2 0 = zz := ⟨_, rfl⟩
  obtain ⟨X63, eX63⟩ : ∃ zz, xsV exX (-1) 0 = zz := ⟨_, rfl⟩
  obtain ⟨X68, eX68⟩ : ∃ zz, xsV exX 0 0 = zz := ⟨_, rfl⟩
  obtain ⟨X73, eX73⟩ : ∃ zz, alV exX 1 4097 = zz := ⟨_, rfl⟩
  obtain ⟨X78, eX78⟩ : ∃ zz, xsV exX 0 2 = zz := ⟨_, rfl⟩
  obtain ⟨X83, eX83⟩ : ∃ zz, xsV exX 0 3 = zz := ⟨_, rfl⟩
  obtain ⟨X93, eX93⟩ : ∃ zz, drV exJ 9 = zz := ⟨_, rfl⟩
  obtain ⟨X98, eX98⟩ : ∃ zz, inV exX 3 = zz := ⟨_, rfl⟩
  obtain ⟨X103, eX103⟩ : ∃ zz, inV exX 2 = zz := ⟨_, rfl⟩
  obtain ⟨X112, eX112⟩ : ∃ zz, inV exW 6 = zz := ⟨_, rfl⟩
  obtain ⟨X118, eX118⟩ : ∃ zz, rnV exX [0] = zz := ⟨_, rfl⟩
  obtain ⟨X124, eX124⟩ : ∃ zz, rnV exX [0, 0] = zz := ⟨_, rfl⟩
  obtain ⟨X130, eX130⟩ : ∃ zz, rnV exX [1, 2] = zz := ⟨_, rfl⟩
  obtain ⟨X136, eX136⟩ : ∃ zz, rnV exJ [5, 5] = zz := ⟨_, rfl⟩
  obtain ⟨X144, eX144⟩ : ∃ zz, rnV exNo [] = zz := ⟨_, rfl⟩
  obtain ⟨X149, eX149⟩ : ∃ zz, drV exW 5 = zz := ⟨_, rfl⟩
  have bE := min_bounds hX
  have hm := ej_m
  rw [eX103] at hm
  have hs := ej_s2
  rw [eX144] at hs
  obtain ⟨ht1, ht2⟩ := ej_tn
  rw [eX149] at ht1 ht2
  refine T.s (T.rg ?_)
  refine TO.qa rfl ?_
  refine TO.nl (T.s (T.s (T.rg ?_)))
  have hk40 := fun (w1 : World) (hI : Inv w [] w1) => (haveI := tbz hI; awakeC w1)
  refine TO.l rfl (l_call ent11 (CallT.op hk40) rfl ?_)
  clear hk40
  rintro vr O' ⟨N, rfl, rfl, rfl⟩
  refine TO.q (q_not rfl) (TO.qm rfl (TO.q (q_pick0 rfl rfl) (TO.qm rfl ?_)))
  refine TO.q (q_pick0 rfl rfl) ?_
  refine TO.nl ?_
  refine T.cond0 rfl ?_
  refine T.skip (T.s (T.rg ?_))
  have hk46 := fun (w1 : World) (hI : Inv w [] w1) => (haveI := tbz hI; exactlyK w1)
  refine TO.l rfl (l_call ent30 (CallT.op hk46) rfl ?_)
  clear hk46
  rintro vr O' ⟨N, rfl, k0, rfl, rfl⟩
  refine TO.l rfl (l_buildSlice (m := 2) (parts := [(0, .const (.int .i64 0)), (1, .const (.int .i64 1))]) (cs := [.int .i64 0, .int .i64 1]) underlying37 inf3 (by decide) (by kernel_rfl) rfl (fun z1 => ?_))
  refine TO.l rfl (l_build1 (v := (.slice (some ⟨z1, 0, none⟩) 2 2)) underlying22 inf37 rfl rfl rfl (fun z2 => ?_))
  refine TO.l rfl (l_build1 (v := .bool true) underlying23 inf4 rfl rfl rfl (fun z3 => ?_))
  refine TO.q (q_build (cs := [.int .i64 1, (.int .i64 0), (.slice (some ⟨z2, 0, none⟩) 1 1), (.slice (some ⟨z3, 0, none⟩) 1 1)]) plan25 inf25 (by kernel_rfl)) ?_
  refine TO.l rfl (l_alloc inf25 rfl (fun z4 => ?_))
  refine TO.l rfl (l_alloc inf25 rfl (fun z5 => ?_))
  refine TO.l rfl (l_sb (v := (dV exX k0)) (vs := (dC exX k0)) 1 inf25 rfl rfl rfl rfl rfl rfl (by simp [putL]) ?_)
  refine TO.l rfl (l_sb (v := (.agg #[.int .i64 1, (.int .i64 0), (.slice (some ⟨z2, 0, none⟩) 1 1), (.slice (some ⟨z3, 0, none⟩) 1 1)])) (vs := [.int .i64 1, (.int .i64 0), (.slice (some ⟨z2, 0, none⟩) 1 1), (.slice (some ⟨z3, 0, none⟩) 1 1)]) 0 inf25 rfl rfl rfl rfl rfl rfl (by simp [putL]) ?_)
  refine TO.nl ?_
  refine T.sub (O' := [rowI (some ⟨z2, 0, none⟩) 1 37 1 [(.slice (some ⟨z1, 0, none⟩) 2 2)], rowI (some ⟨z3, 0, none⟩) 1 4 1 [.bool true], rowI (some ⟨z1, 0, none⟩) 2 3 1 [.int .i64 0, .int .i64 1], oI z5 25 [.int .i64 1, (.int .i64 0), (.slice (some ⟨z2, 0, none⟩) 1 1), (.slice (some ⟨z3, 0, none⟩) 1 1)], oI z4 25 (dC exX k0), dI 37 4 3 exX k0]) (by exact Sub.pull [oI z5 25 [.int .i64 1, (.int .i64 0), (.slice (some ⟨z2, 0, none⟩) 1 1), (.slice (some ⟨z3, 0, none⟩) 1 1)], oI z4 25 (dC exX k0), rowI (some ⟨z3, 0, none⟩) 1 4 1 [.bool true]] _ (.pull [oI z5 25 [.int .i64 1, (.int .i64 0), (.slice (some ⟨z2, 0, none⟩) 1 1), (.slice (some ⟨z3, 0, none⟩) 1 1)], oI z4 25 (dC exX k0)] _ (.pull [oI z5 25 [.int .i64 1, (.int .i64 0), (.slice (some ⟨z2, 0, none⟩) 1 1), (.slice (some ⟨z3, 0, none⟩) 1 1)], oI z4 25 (dC exX k0)] _ (.k (.k (.k .z)))))) ?_
  obtain ⟨kj, hkj⟩ : ∃ k : DK, k = ⟨some ⟨z2, 0, none⟩, 1, some ⟨z3, 0, none⟩, 1, [⟨some ⟨z1, 0, none⟩, 2, [0, 1]⟩]⟩ := ⟨_, rfl⟩
  refine T.sub (O' := (([rowI kj.nb kj.nc 37 1 (vals kj.qs), rowI kj.fb kj.fc 4 1 (bools exJ.final)] ++ itms 3 kj.qs) ++ [oI z5 25 [.int .i64 1, (.int .i64 0), (.slice (some ⟨z2, 0, none⟩) 1 1), (.slice (some ⟨z3, 0, none⟩) 1 1)], oI z4 25 (dC exX k0), dI 37 4 3 exX k0])) (by subst hkj; exact Sub.rf) ?_
  refine T.pack (φ := nums kj.qs = exJ.next) (by subst hkj; rfl) ?_
  refine T.sub (O' := [dI 37 4 3 exJ kj, oI z5 25 (dC exJ kj), oI z4 25 (dC exX k0), dI 37 4 3 exX k0]) (by subst hkj; exact Sub.rf) ?_
  refine T.s (T.rg ?_)
  refine TO.q (q_la 1 underlying25 rfl inf25 rfl rfl rfl) ?_
  have hk53 := fun (w1 : World) (hI : Inv w [dI 37 4 3 exJ kj, oI z5 25 (dC exJ kj), oI z4 25 (dC exX k0), dI 37 4 3 exX k0] w1) => (haveI := tbz hI; (show PureT _ _ _ _ _ from by
      have h9 := exC w1 exJ kj (hI.at (k := kj) (mG 0 rfl)) (-1) 0 bd_exJ.1 bd_exJ.2.1 bd_exJ.2.2 (fun _ => by decide)
      rw [eX53, ej_a] at h9
      exact h9))
  refine TO.l rfl (l_call ent16 (CallT.op hk53) rfl ?_)
  clear hk53
  rintro vr O' ⟨N, rfl, k53, rfl, rfl⟩
  refine TO.qm rfl (TO.q (q_extract (vs := _) rfl rfl) (TO.q (q_extract (vs := _) rfl rfl) ?_))
  refine TO.l rfl (l_alloc inf25 rfl (fun z6 => ?_))
  refine TO.l rfl (l_sb (v := (dV X53 k53)) (vs := (dC X53 k53)) 0 inf25 rfl rfl rfl rfl rfl rfl (by simp [putL]) ?_)
  refine TO.qa rfl ?_
  refine TO.sub (O' := [dI 37 4 3 exJ kj, oI z5 25 (dC exJ kj), oI z4 25 (dC exX k0), dI 37 4 3 exX k0]) (by exact Sub.d (.d (.k (.k (.k (.k .z)))))) ?_
  refine TO.nl ?_
  refine T.reset [dI 37 4 3 exJ kj, oI z5 25 (dC exJ kj), oI z4 25 (dC exX k0), dI 37 4 3 exX k0] [(0, .bool false), (1, (.pointer (some ⟨z4, 0, none⟩))), (2, (.pointer (some ⟨z5, 0, none⟩))), (3, (.pointer (some ⟨z6, 0, none⟩))), (4, .int .i64 8)] rfl ⟨rfl, rfl, rfl, rfl, rfl, trivial⟩ (fun ρ0 => ?_)
  refine T.s (T.rg ?_)
  refine TO.q (q_la 2 underlying25 rfl inf25 rfl rfl rfl) ?_
  have hk58 := fun (w1 : World) (hI : Inv w [dI 37 4 3 exJ kj, oI z5 25 (dC exJ kj), oI z4 25 (dC exX k0), dI 37 4 3 exX k0] w1) => (haveI := tbz hI; (show PureT _ _ _ _ _ from by
      have h9 := exC w1 exX k0 (hI.at (k := k0) (mG 3 rfl)) 2 0 bE.1 bE.2.1 bE.2.2 (fun _ => by decide)
      rw [eX58, ej_b] at h9
      exact h9))
  refine TO.l rfl (l_call ent16 (CallT.op hk58) rfl ?_)
  clear hk58
  rintro vr O' ⟨N, rfl, k58, rfl, rfl⟩
  refine TO.qm rfl (TO.q (q_extract (vs := _) rfl rfl) (TO.q (q_extract (vs := _) rfl rfl) ?_))
  refine TO.l rfl (l_alloc inf25 rfl (fun z7 => ?_))
  refine TO.l rfl (l_sb (v := (dV X58 k58)) (vs := (dC X58 k58)) 0 inf25 rfl rfl rfl rfl rfl rfl (by simp [putL]) ?_)
  refine TO.qa rfl ?_
  refine TO.sub (O' := [dI 37 4 3 exJ kj, oI z5 25 (dC exJ kj), oI z4 25 (dC exX k0), dI 37 4 3 exX k0]) (by exact Sub.d (.d (.k (.k (.k (.k .z)))))) ?_
  refine TO.nl (T.s (T.rg ?_))
  refine TO.q (q_la 2 underlying25 rfl inf25 rfl rfl rfl) ?_
  have hk63 := fun (w1 : World) (hI : Inv w [dI 37 4 3 exJ kj, oI z5 25 (dC exJ kj), oI z4 25 (dC exX k0), dI 37 4 3 exX k0] w1) => (haveI := tbz hI; (show PureT _ _ _ _ _ from by
      have h9 := exC w1 exX k0 (hI.at (k := k0) (mG 3 rfl)) (-1) 0 bE.1 bE.2.1 bE.2.2 (fun _ => by decide)
      rw [eX63, ej_c] at h9
      exact h9))
  refine TO.l rfl (l_call ent16 (CallT.op hk63) rfl ?_)
  clear hk63
  rintro vr O' ⟨N, rfl, k63, rfl, rfl⟩
  refine TO.qm rfl (TO.q (q_extract (vs := _) rfl rfl) (TO.q (q_extract (vs := _) rfl rfl) ?_))
  refine TO.l rfl (l_alloc inf25 rfl (fun z8 => ?_))
  refine TO.l rfl (l_sb (v := (dV X63 k63)) (vs := (dC X63 k63)) 0 inf25 rfl rfl rfl rfl rfl rfl (by simp [putL]) ?_)
  refine TO.qa rfl ?_
  refine TO.sub (O' := [dI 37 4 3 exJ kj, oI z5 25 (dC exJ kj), oI z4 25 (dC exX k0), dI 37 4 3 exX k0]) (by exact Sub.d (.d (.k (.k (.k (.k .z)))))) ?_
  refine TO.nl ?_
  refine T.reset [dI 37 4 3 exJ kj, oI z5 25 (dC exJ kj), oI z4 25 (dC exX k0), dI 37 4 3 exX k0] [(0, .bool false), (1, (.pointer (some ⟨z4, 0, none⟩))), (2, (.pointer (some ⟨z5, 0, none⟩))), (3, (.pointer (some ⟨z6, 0, none⟩))), (4, .int .i64 8), (5, (.pointer (some ⟨z7, 0, none⟩))), (6, .int .i64 7), (7, (.pointer (some ⟨z8, 0, none⟩))), (8, .int .i64 7)] rfl ⟨rfl, rfl, rfl, rfl, rfl, rfl, rfl, rfl, rfl, trivial⟩ (fun ρ0 => ?_)
  refine T.s (T.rg ?_)
  refine TO.q (q_la 2 underlying25 rfl inf25 rfl rfl rfl) ?_
  have hk68 := fun (w1 : World) (hI : Inv w [dI 37 4 3 exJ kj, oI z5 25 (dC exJ kj), oI z4 25 (dC exX k0), dI 37 4 3 exX k0] w1) => (haveI := tbz hI; (show PureT _ _ _ _ _ from by
      have h9 := exC w1 exX k0 (hI.at (k := k0) (mG 3 rfl)) 0 0 bE.1 bE.2.1 bE.2.2 (fun _ => by decide)
      rw [eX68, ej_e] at h9
      exact h9))
  refine TO.l rfl (l_call ent16 (CallT.op hk68) rfl ?_)
  clear hk68
  rintro vr O' ⟨N, rfl, k68, rfl, rfl⟩
  refine TO.qm rfl (TO.q (q_extract (vs := _) rfl rfl) (TO.q (q_extract (vs := _) rfl rfl) ?_))
  refine TO.l rfl (l_alloc inf25 rfl (fun z9 => ?_))
  refine TO.l rfl (l_sb (v := (dV X68 k68)) (vs := (dC X68 k68)) 0 inf25 rfl rfl rfl rfl rfl rfl (by simp [putL]) ?_)
  refine TO.qa rfl ?_
  refine TO.sub (O' := [dI 37 4 3 exJ kj, oI z5 25 (dC exJ kj), oI z4 25 (dC exX k0), dI 37 4 3 exX k0]) (by exact Sub.d (.d (.k (.k (.k (.k .z)))))) ?_
  refine TO.nl (T.s (T.rg ?_))
  refine TO.q (q_la 2 underlying25 rfl inf25 rfl rfl rfl) ?_
  have hk73 := fun (w1 : World) (hI : Inv w [dI 37 4 3 exJ kj, oI z5 25 (dC exJ kj), oI z4 25 (dC exX k0), dI 37 4 3 exX k0] w1) => (haveI := tbz hI; (show PureT _ _ _ _ _ from by
      have h9 := alC w1 exX k0 (hI.at (k := k0) (mG 3 rfl)) 1 4097 bE.1 bE.2.1 bE.2.2 (fun _ => by decide)
      rw [eX73, ej_f] at h9
      exact h9))
  refine TO.l rfl (l_call ent17 (CallT.op hk73) rfl ?_)
  clear hk73
  rintro vr O' ⟨N, rfl, k73, rfl, rfl⟩
  refine TO.qm rfl (TO.q (q_extract (vs := _) rfl rfl) (TO.q (q_extract (vs := _) rfl rfl) ?_))
  refine TO.l rfl (l_alloc inf25 rfl (fun z10 => ?_))
  refine TO.l rfl (l_sb (v := (dV X73 k73)) (vs := (dC X73 k73)) 0 inf25 rfl rfl rfl rfl rfl rfl (by simp [putL]) ?_)
  refine TO.qa rfl ?_
  refine TO.sub (O' := [dI 37 4 3 exJ kj, oI z5 25 (dC exJ kj), oI z4 25 (dC exX k0), dI 37 4 3 exX k0]) (by exact Sub.d (.d (.k (.k (.k (.k .z)))))) ?_
  refine TO.nl ?_
  refine T.reset [dI 37 4 3 exJ kj, oI z5 25 (dC exJ kj), oI z4 25 (dC exX k0), dI 37 4 3 exX k0] [(0, .bool false), (1, (.pointer (some ⟨z4, 0, none⟩))), (2, (.pointer (some ⟨z5, 0, none⟩))), (3, (.pointer (some ⟨z6, 0, none⟩))), (4, .int .i64 8), (5, (.pointer (some ⟨z7, 0, none⟩))), (6, .int .i64 7), (7, (.pointer (some ⟨z8, 0, none⟩))), (8, .int .i64 7), (9, (.pointer (some ⟨z9, 0, none⟩))), (10, .int .i64 1), (11, (.pointer (some ⟨z10, 0, none⟩))), (12, .int .i64 1)] rfl ⟨rfl, rfl, rfl, rfl, rfl, rfl, rfl, rfl, rfl, rfl, rfl, rfl, rfl, trivial⟩ (fun ρ0 => ?_)
  refine T.s (T.rg ?_)
  refine TO.q (q_la 2 underlying25 rfl inf25 rfl rfl rfl) ?_
  have hk78 := fun (w1 : World) (hI : Inv w [dI 37 4 3 exJ kj, oI z5 25 (dC exJ kj), oI z4 25 (dC exX k0), dI 37 4 3 exX k0] w1) => (haveI := tbz hI; (show PureT _ _ _ _ _ from by
      have h9 := exC w1 exX k0 (hI.at (k := k0) (mG 3 rfl)) 0 2 bE.1 bE.2.1 bE.2.2 (fun _ => by decide)
      rw [eX78, ej_g] at h9
      exact h9))
  refine TO.l rfl (l_call ent16 (CallT.op hk78) rfl ?_)
  clear hk78
  rintro vr O' ⟨N, rfl, k78, rfl, rfl⟩
  refine TO.qm rfl (TO.q (q_extract (vs := _) rfl rfl) (TO.q (q_extract (vs := _) rfl rfl) ?_))
  refine TO.l rfl (l_alloc inf25 rfl (fun z11 => ?_))
  refine TO.l rfl (l_sb (v := (dV X78 k78)) (vs := (dC X78 k78)) 0 inf25 rfl rfl rfl rfl rfl rfl (by simp [putL]) ?_)
  refine TO.qa rfl ?_
  refine TO.sub (O' := [dI 37 4 3 exJ kj, oI z5 25 (dC exJ kj), oI z4 25 (dC exX k0), dI 37 4 3 exX k0]) (by exact Sub.d (.d (.k (.k (.k (.k .z)))))) ?_
  refine TO.nl (T.s (T.rg ?_))
  refine TO.q (q_la 2 underlying25 rfl inf25 rfl rfl rfl) ?_
  have hk83 := fun (w1 : World) (hI : Inv w [dI 37 4 3 exJ kj, oI z5 25 (dC exJ kj), oI z4 25 (dC exX k0), dI 37 4 3 exX k0] w1) => (haveI := tbz hI; (show PureT _ _ _ _ _ from by
      have h9 := exC w1 exX k0 (hI.at (k := k0) (mG 3 rfl)) 0 3 bE.1 bE.2.1 bE.2.2 (fun _ => by decide)
      rw [eX83, ej_h] at h9
      exact h9))
  refine TO.l rfl (l_call ent16 (CallT.op hk83) rfl ?_)
  clear hk83
  rintro vr O' ⟨N, rfl, k83, rfl, rfl⟩
  refine TO.qm rfl (TO.q (q_extract (vs := _) rfl rfl) (TO.q (q_extract (vs := _) rfl rfl) ?_))
  refine TO.l rfl (l_alloc inf25 rfl (fun z12 => ?_))
  refine TO.l rfl (l_sb (v := (dV X83 k83)) (vs := (dC X83 k83)) 0 inf25 rfl rfl rfl rfl rfl rfl (by simp [putL]) ?_)
  refine TO.qa rfl ?_
  refine TO.sub (O' := [dI 37 4 3 exJ kj, oI z5 25 (dC exJ kj), oI z4 25 (dC exX k0), dI 37 4 3 exX k0]) (by exact Sub.d (.d (.k (.k (.k (.k .z)))))) ?_
  refine TO.nl ?_
  refine T.reset [dI 37 4 3 exJ kj, oI z5 25 (dC exJ kj), oI z4 25 (dC exX k0), dI 37 4 3 exX k0] [(0, .bool false), (1, (.pointer (some ⟨z4, 0, none⟩))), (2, (.pointer (some ⟨z5, 0, none⟩))), (3, (.pointer (some ⟨z6, 0, none⟩))), (4, .int .i64 8), (5, (.pointer (some ⟨z7, 0, none⟩))), (6, .int .i64 7), (7, (.pointer (some ⟨z8, 0, none⟩))), (8, .int .i64 7), (9, (.pointer (some ⟨z9, 0, none⟩))), (10, .int .i64 1), (11, (.pointer (some ⟨z10, 0, none⟩))), (12, .int .i64 1), (13, (.pointer (some ⟨z11, 0, none⟩))), (14, .int .i64 10), (15, (.pointer (some ⟨z12, 0, none⟩))), (16, .int .i64 0)] rfl ⟨rfl, rfl, rfl, rfl, rfl, rfl, rfl, rfl, rfl, rfl, rfl, rfl, rfl, rfl, rfl, rfl, rfl, trivial⟩ (fun ρ0 => ?_)
  refine T.s (T.rg ?_)
  refine TO.q (q_la 2 underlying25 rfl inf25 rfl rfl rfl) ?_
  have hk88 := fun (w1 : World) (hI : Inv w [dI 37 4 3 exJ kj, oI z5 25 (dC exJ kj), oI z4 25 (dC exX k0), dI 37 4 3 exX k0] w1) => (haveI := tbz hI; (show PureT _ _ _ _ _ from by
      have h9 := ignC w1 exX k0 (hI.at (k := k0) (mG 3 rfl)) bE.1 bE.2.1 bE.2.2 2
      rw [ej_i] at h9
      exact h9))
  refine TO.l rfl (l_call ent18 (CallT.op hk88) rfl ?_)
  clear hk88
  rintro vr O' ⟨N, rfl, rfl, rfl⟩
  refine TO.qm rfl (TO.q (q_extract (vs := _) rfl rfl) (TO.q (q_extract (vs := _) rfl rfl) (TO.qa rfl ?_)))
  refine TO.qa rfl ?_
  refine TO.nl (T.s (T.rg ?_))
  refine TO.q (q_la 1 underlying25 rfl inf25 rfl rfl rfl) ?_
  have hk93 := fun (w1 : World) (hI : Inv w [dI 37 4 3 exJ kj, oI z5 25 (dC exJ kj), oI z4 25 (dC exX k0), dI 37 4 3 exX k0] w1) => (haveI := tbz hI; (show PureT _ _ _ _ _ from by
      have h9 := drC w1 exJ kj (hI.at (k := kj) (mG 0 rfl)) bd_exJ.1 bd_exJ.2.1 bd_exJ.2.2 9 
      rw [eX93, ej_j] at h9
      exact h9))
  refine TO.l rfl (l_call ent26 (CallT.op hk93) rfl ?_)
  clear hk93
  rintro vr O' ⟨N, rfl, k93, rfl, rfl⟩
  refine TO.qm rfl (TO.q (q_extract (vs := _) rfl rfl) (TO.q (q_extract (vs := _) rfl rfl) ?_))
  refine TO.l rfl (l_alloc inf25 rfl (fun z13 => ?_))
  refine TO.l rfl (l_sb (v := (dV X93 k93)) (vs := (dC X93 k93)) 0 inf25 rfl rfl rfl rfl rfl rfl (by simp [putL]) ?_)
  refine TO.qa rfl ?_
  refine TO.sub (O' := [dI 37 4 3 exJ kj, oI z5 25 (dC exJ kj), oI z4 25 (dC exX k0), dI 37 4 3 exX k0]) (by exact Sub.d (.d (.k (.k (.k (.k .z)))))) ?_
  refine TO.nl ?_
  refine T.reset [dI 37 4 3 exJ kj, oI z5 25 (dC exJ kj), oI z4 25 (dC exX k0), dI 37 4 3 exX k0] [(0, .bool false), (1, (.pointer (some ⟨z4, 0, none⟩))), (2, (.pointer (some ⟨z5, 0, none⟩))), (3, (.pointer (some ⟨z6, 0, none⟩))), (4, .int .i64 8), (5, (.pointer (some ⟨z7, 0, none⟩))), (6, .int .i64 7), (7, (.pointer (some ⟨z8, 0, none⟩))), (8, .int .i64 7), (9, (.pointer (some ⟨z9, 0, none⟩))), (10, .int .i64 1), (11, (.pointer (some ⟨z10, 0, none⟩))), (12, .int .i64 1), (13, (.pointer (some ⟨z11, 0, none⟩))), (14, .int .i64 10), (15, (.pointer (some ⟨z12, 0, none⟩))), (16, .int .i64 0), (18, .int .i64 7), (19, (.pointer (some ⟨z13, 0, none⟩))), (20, .int .i64 8)] rfl ⟨rfl, rfl, rfl, rfl, rfl, rfl, rfl, rfl, rfl, rfl, rfl, rfl, rfl, rfl, rfl, rfl, rfl, rfl, rfl, rfl, trivial⟩ (fun ρ0 => ?_)
  refine T.s (T.rg ?_)
  refine TO.q (q_la 2 underlying25 rfl inf25 rfl rfl rfl) ?_
  have hk98 := fun (w1 : World) (hI : Inv w [dI 37 4 3 exJ kj, oI z5 25 (dC exJ kj), oI z4 25 (dC exX k0), dI 37 4 3 exX k0] w1) => (haveI := tbz hI; (show PureT _ _ _ _ _ from by
      have h9 := insC w1 exX k0 (hI.at (k := k0) (mG 3 rfl)) bE.1 bE.2.1 bE.2.2 3 
      rw [eX98, ej_k] at h9
      exact h9))
  refine TO.l rfl (l_call ent27 (CallT.op hk98) rfl ?_)
  clear hk98
  rintro vr O' ⟨N, rfl, k98, rfl, rfl⟩
  refine TO.qm rfl (TO.q (q_extract (vs := _) rfl rfl) (TO.q (q_extract (vs := _) rfl rfl) ?_))
  refine TO.l rfl (l_alloc inf25 rfl (fun z14 => ?_))
  refine TO.l rfl (l_sb (v := (dV X98 k98)) (vs := (dC X98 k98)) 0 inf25 rfl rfl rfl rfl rfl rfl (by simp [putL]) ?_)
  refine TO.qa rfl ?_
  refine TO.sub (O' := [dI 37 4 3 exJ kj, oI z5 25 (dC exJ kj), oI z4 25 (dC exX k0), dI 37 4 3 exX k0]) (by exact Sub.d (.d (.k (.k (.k (.k .z)))))) ?_
  refine TO.nl (T.s (T.rg ?_))
  refine TO.q (q_la 2 underlying25 rfl inf25 rfl rfl rfl) ?_
  have hk103 := fun (w1 : World) (hI : Inv w [dI 37 4 3 exJ kj, oI z5 25 (dC exJ kj), oI z4 25 (dC exX k0), dI 37 4 3 exX k0] w1) => (haveI := tbz hI; (show PureT _ _ _ _ _ from by
      have h9 := insC w1 exX k0 (hI.at (k := k0) (mG 3 rfl)) bE.1 bE.2.1 bE.2.2 2 
      rw [eX103, ej_l] at h9
      exact h9))
  refine TO.l rfl (l_call ent27 (CallT.op hk103) rfl ?_)
  clear hk103
  rintro vr O' ⟨N, rfl, k103, rfl, rfl⟩
  refine TO.qm rfl (TO.q (q_extract (vs := _) rfl rfl) (TO.q (q_extract (vs := _) rfl rfl) ?_))
  refine TO.l rfl (l_alloc inf25 rfl (fun z15 => ?_))
  refine TO.l rfl (l_sb (v := (dV X103 k103)) (vs := (dC X103 k103)) 0 inf25 rfl rfl rfl rfl rfl rfl (by simp [putL]) ?_)
  refine TO.qa rfl ?_
  refine TO.sub (O' := [oI z15 25 (dC X103 k103), dI 37 4 3 exJ kj, oI z5 25 (dC exJ kj), oI z4 25 (dC exX k0), dI 37 4 3 exX k0]) (by exact Sub.k (.d (.k (.k (.k (.k .z)))))) ?_
  refine TO.nl ?_
  refine T.reset [oI z15 25 (dC X103 k103), dI 37 4 3 exJ kj, oI z5 25 (dC exJ kj), oI z4 25 (dC exX k0), dI 37 4 3 exX k0] [(0, .bool false), (1, (.pointer (some ⟨z4, 0, none⟩))), (2, (.pointer (some ⟨z5, 0, none⟩))), (3, (.pointer (some ⟨z6, 0, none⟩))), (4, .int .i64 8), (5, (.pointer (some ⟨z7, 0, none⟩))), (6, .int .i64 7), (7, (.pointer (some ⟨z8, 0, none⟩))), (8, .int .i64 7), (9, (.pointer (some ⟨z9, 0, none⟩))), (10, .int .i64 1), (11, (.pointer (some ⟨z10, 0, none⟩))), (12, .int .i64 1), (13, (.pointer (some ⟨z11, 0, none⟩))), (14, .int .i64 10), (15, (.pointer (some ⟨z12, 0, none⟩))), (16, .int .i64 0), (18, .int .i64 7), (19, (.pointer (some ⟨z13, 0, none⟩))), (20, .int .i64 8), (21, (.pointer (some ⟨z14, 0, none⟩))), (22, .int .i64 7), (23, (.pointer (some ⟨z15, 0, none⟩))), (24, .int .i64 0)] rfl ⟨rfl, rfl, rfl, rfl, rfl, rfl, rfl, rfl, rfl, rfl, rfl, rfl, rfl, rfl, rfl, rfl, rfl, rfl, rfl, rfl, rfl, rfl, rfl, rfl, trivial⟩ (fun ρ0 => ?_)
  refine T.s (T.rg ?_)
  refine TO.l rfl (l_makeSlice (m := 64) underlying37 inf3 rfl rfl (by decide) (by decide) (fun z16 => ?_))
  refine TO.l rfl (l_build1 (v := (.slice (some ⟨z16, 0, none⟩) 64 64)) underlying22 inf37 rfl rfl rfl (fun z17 => ?_))
  refine TO.l rfl (l_build1 (v := .bool true) underlying23 inf4 rfl rfl rfl (fun z18 => ?_))
  refine TO.q (q_build (cs := [.int .i64 6, (.int .i64 0), (.slice (some ⟨z17, 0, none⟩) 1 1), (.slice (some ⟨z18, 0, none⟩) 1 1)]) plan25 inf25 (by kernel_rfl)) ?_
  refine TO.l rfl (l_alloc inf25 rfl (fun z19 => ?_))
  refine TO.l rfl (l_sb (v := (.agg #[.int .i64 6, (.int .i64 0), (.slice (some ⟨z17, 0, none⟩) 1 1), (.slice (some ⟨z18, 0, none⟩) 1 1)])) (vs := [.int .i64 6, (.int .i64 0), (.slice (some ⟨z17, 0, none⟩) 1 1), (.slice (some ⟨z18, 0, none⟩) 1 1)]) 0 inf25 rfl rfl rfl rfl rfl rfl (by simp [putL]) ?_)
  refine TO.nl ?_
  refine T.sub (O' := [rowI (some ⟨z17, 0, none⟩) 1 37 1 [(.slice (some ⟨z16, 0, none⟩) 64 64)], rowI (some ⟨z18, 0, none⟩) 1 4 1 [.bool true], rowI (some ⟨z16, 0, none⟩) 64 3 1 (List.replicate 64 (.int .i64 0)), oI z19 25 [.int .i64 6, (.int .i64 0), (.slice (some ⟨z17, 0, none⟩) 1 1), (.slice (some ⟨z18, 0, none⟩) 1 1)], oI z15 25 (dC X103 k103), dI 37 4 3 exJ kj, oI z5 25 (dC exJ kj), oI z4 25 (dC exX k0), dI 37 4 3 exX k0]) (by exact Sub.pull [oI z19 25 [.int .i64 6, (.int .i64 0), (.slice (some ⟨z17, 0, none⟩) 1 1), (.slice (some ⟨z18, 0, none⟩) 1 1)], rowI (some ⟨z18, 0, none⟩) 1 4 1 [.bool true]] _ (.pull [oI z19 25 [.int .i64 6, (.int .i64 0), (.slice (some ⟨z17, 0, none⟩) 1 1), (.slice (some ⟨z18, 0, none⟩) 1 1)]] _ (.pull [oI z19 25 [.int .i64 6, (.int .i64 0), (.slice (some ⟨z17, 0, none⟩) 1 1), (.slice (some ⟨z18, 0, none⟩) 1 1)]] _ (.k (.k (.k (.k (.k (.k .z))))))))) ?_
  obtain ⟨kw, hkw⟩ : ∃ k : DK, k = ⟨some ⟨z17, 0, none⟩, 1, some ⟨z18, 0, none⟩, 1, [⟨some ⟨z16, 0, none⟩, 64, List.replicate 64 0⟩]⟩ := ⟨_, rfl⟩
  refine T.sub (O' := (([rowI kw.nb kw.nc 37 1 (vals kw.qs), rowI kw.fb kw.fc 4 1 (bools exW.final)] ++ itms 3 kw.qs) ++ [oI z19 25 [.int .i64 6, (.int .i64 0), (.slice (some ⟨z17, 0, none⟩) 1 1), (.slice (some ⟨z18, 0, none⟩) 1 1)], oI z15 25 (dC X103 k103), dI 37 4 3 exJ kj, oI z5 25 (dC exJ kj), oI z4 25 (dC exX k0), dI 37 4 3 exX k0])) (by subst hkw; exact Sub.rf) ?_
  refine T.pack (φ := nums kw.qs = exW.next) (by subst hkw; rfl) ?_
  refine T.sub (O' := [dI 37 4 3 exW kw, oI z19 25 (dC exW kw), oI z15 25 (dC X103 k103), dI 37 4 3 exJ kj, oI z5 25 (dC exJ kj), oI z4 25 (dC exX k0), dI 37 4 3 exX k0]) (by subst hkw; exact Sub.rf) ?_
  refine T.s (T.rg ?_)
  refine TO.q (q_la 1 underlying25 rfl inf25 rfl rfl rfl) ?_
  have hk112 := fun (w1 : World) (hI : Inv w [dI 37 4 3 exW kw, oI z19 25 (dC exW kw), oI z15 25 (dC X103 k103), dI 37 4 3 exJ kj, oI z5 25 (dC exJ kj), oI z4 25 (dC exX k0), dI 37 4 3 exX k0] w1) => (haveI := tbz hI; (show PureT _ _ _ _ _ from by
      have h9 := insC w1 exW kw (hI.at (k := kw) (mG 0 rfl)) bd_exW.1 bd_exW.2.1 bd_exW.2.2 6 
      rw [eX112, ej_n] at h9
      exact h9))
  refine TO.l rfl (l_call ent27 (CallT.op hk112) rfl ?_)
  clear hk112
  rintro vr O' ⟨N, rfl, k112, rfl, rfl⟩
  refine TO.qm rfl (TO.q (q_extract (vs := _) rfl rfl) (TO.q (q_extract (vs := _) rfl rfl) ?_))
  refine TO.l rfl (l_alloc inf25 rfl (fun z20 => ?_))
  refine TO.l rfl (l_sb (v := (dV X112 k112)) (vs := (dC X112 k112)) 0 inf25 rfl rfl rfl rfl rfl rfl (by simp [putL]) ?_)
  refine TO.qa rfl ?_
  refine TO.sub (O' := [dI 37 4 3 exW kw, oI z19 25 (dC exW kw), oI z15 25 (dC X103 k103), dI 37 4 3 exJ kj, oI z5 25 (dC exJ kj), oI z4 25 (dC exX k0), dI 37 4 3 exX k0]) (by exact Sub.d (.d (.k (.k (.k (.k (.k (.k (.k .z))))))))) ?_
  refine TO.nl ?_
  refine T.reset [dI 37 4 3 exW kw, oI z19 25 (dC exW kw), oI z15 25 (dC X103 k103), dI 37 4 3 exJ kj, oI z5 25 (dC exJ kj), oI z4 25 (dC exX k0), dI 37 4 3 exX k0] [(0, .bool false), (1, (.pointer (some ⟨z4, 0, none⟩))), (2, (.pointer (some ⟨z5, 0, none⟩))), (3, (.pointer (some ⟨z6, 0, none⟩))), (4, .int .i64 8), (5, (.pointer (some ⟨z7, 0, none⟩))), (6, .int .i64 7), (7, (.pointer (some ⟨z8, 0, none⟩))), (8, .int .i64 7), (9, (.pointer (some ⟨z9, 0, none⟩))), (10, .int .i64 1), (11, (.pointer (some ⟨z10, 0, none⟩))), (12, .int .i64 1), (13, (.pointer (some ⟨z11, 0, none⟩))), (14, .int .i64 10), (15, (.pointer (some ⟨z12, 0, none⟩))), (16, .int .i64 0), (18, .int .i64 7), (19, (.pointer (some ⟨z13, 0, none⟩))), (20, .int .i64 8), (21, (.pointer (some ⟨z14, 0, none⟩))), (22, .int .i64 7), (23, (.pointer (some ⟨z15, 0, none⟩))), (24, .int .i64 0), (25, (.pointer (some ⟨z19, 0, none⟩))), (26, (.pointer (some ⟨z20, 0, none⟩))), (27, .int .i64 7)] rfl ⟨rfl, rfl, rfl, rfl, rfl, rfl, rfl, rfl, rfl, rfl, rfl, rfl, rfl, rfl, rfl, rfl, rfl, rfl, rfl, rfl, rfl, rfl, rfl, rfl, rfl, rfl, rfl, trivial⟩ (fun ρ0 => ?_)
  refine T.s (T.rg ?_)
  refine TO.q (q_la 5 underlying25 rfl inf25 rfl rfl rfl) ?_
  refine TO.l rfl (l_build1 (v := .int .i64 0) underlying37 inf3 rfl rfl rfl (fun z21 => ?_))
  have hk118 := fun (w1 : World) (hI : Inv w [rowI (some ⟨z21, 0, none⟩) 1 3 1 [.int .i64 0], dI 37 4 3 exW kw, oI z19 25 (dC exW kw), oI z15 25 (dC X103 k103), dI 37 4 3 exJ kj, oI z5 25 (dC exJ kj), oI z4 25 (dC exX k0), dI 37 4 3 exX k0] w1) => (haveI := tbz hI; (show PureT _ _ _ _ _ from by
      have h9 := rnC w1 exX k0 (hI.at (k := k0) (mG 7 rfl)) bE.1 bE.2.1 bE.2.2 (some ⟨z21, 0, none⟩) 1 [0] (hI.slOf (cs := ints [0]) (mG 0 rfl)) (by decide)
      rw [eX118, ej_o] at h9
      exact h9))
  refine TO.l rfl (l_call ent28 (CallT.op hk118) rfl ?_)
  clear hk118
  rintro vr O' ⟨N, rfl, k118, rfl, rfl⟩
  refine TO.qm rfl (TO.q (q_extract (vs := _) rfl rfl) (TO.q (q_extract (vs := _) rfl rfl) ?_))
  refine TO.l rfl (l_alloc inf25 rfl (fun z22 => ?_))
  refine TO.l rfl (l_sb (v := (dV X118 k118)) (vs := (dC X118 k118)) 0 inf25 rfl rfl rfl rfl rfl rfl (by simp [putL]) ?_)
  refine TO.qa rfl ?_
  refine TO.sub (O' := [dI 37 4 3 exW kw, oI z19 25 (dC exW kw), oI z15 25 (dC X103 k103), dI 37 4 3 exJ kj, oI z5 25 (dC exJ kj), oI z4 25 (dC exX k0), dI 37 4 3 exX k0]) (by exact Sub.d (.d (.d (.k (.k (.k (.k (.k (.k (.k .z)))))))))) ?_
  refine TO.nl (T.s (T.rg ?_))
  refine TO.q (q_la 5 underlying25 rfl inf25 rfl rfl rfl) ?_
  refine TO.l rfl (l_buildSlice (m := 2) (parts := [(0, .const (.int .i64 0)), (1, .const (.int .i64 0))]) (cs := [.int .i64 0, .int .i64 0]) underlying37 inf3 (by decide) (by kernel_rfl) rfl (fun z23 => ?_))
  have hk124 := fun (w1 : World) (hI : Inv w [rowI (some ⟨z23, 0, none⟩) 2 3 1 [.int .i64 0, .int .i64 0], dI 37 4 3 exW kw, oI z19 25 (dC exW kw), oI z15 25 (dC X103 k103), dI 37 4 3 exJ kj, oI z5 25 (dC exJ kj), oI z4 25 (dC exX k0), dI 37 4 3 exX k0] w1) => (haveI := tbz hI; (show PureT _ _ _ _ _ from by
      have h9 := rnC w1 exX k0 (hI.at (k := k0) (mG 7 rfl)) bE.1 bE.2.1 bE.2.2 (some ⟨z23, 0, none⟩) 2 [0, 0] (hI.slOf (cs := ints [0, 0]) (mG 0 rfl)) (by decide)
      rw [eX124, ej_p] at h9
      exact h9))
  refine TO.l rfl (l_call ent28 (CallT.op hk124) rfl ?_)
  clear hk124
  rintro vr O' ⟨N, rfl, k124, rfl, rfl⟩
  refine TO.qm rfl (TO.q (q_extract (vs := _) rfl rfl) (TO.q (q_extract (vs := _) rfl rfl) ?_))
  refine TO.l rfl (l_alloc inf25 rfl (fun z24 => ?_))
  refine TO.l rfl (l_sb (v := (dV X124 k124)) (vs := (dC X124 k124)) 0 inf25 rfl rfl rfl rfl rfl rfl (by simp [putL]) ?_)
  refine TO.qa rfl ?_
  refine TO.sub (O' := [dI 37 4 3 exW kw, oI z19 25 (dC exW kw), oI z15 25 (dC X103 k103), dI 37 4 3 exJ kj, oI z5 25 (dC exJ kj), oI z4 25 (dC exX k0), dI 37 4 3 exX k0]) (by exact Sub.d (.d (.d (.k (.k (.k (.k (.k (.k (.k .z)))))))))) ?_
  refine TO.nl ?_
  refine T.reset [dI 37 4 3 exW kw, oI z19 25 (dC exW kw), oI z15 25 (dC X103 k103), dI 37 4 3 exJ kj, oI z5 25 (dC exJ kj), oI z4 25 (dC exX k0), dI 37 4 3 exX k0] [(0, .bool false), (1, (.pointer (some ⟨z4, 0, none⟩))), (2, (.pointer (some ⟨z5, 0, none⟩))), (3, (.pointer (some ⟨z6, 0, none⟩))), (4, .int .i64 8), (5, (.pointer (some ⟨z7, 0, none⟩))), (6, .int .i64 7), (7, (.pointer (some ⟨z8, 0, none⟩))), (8, .int .i64 7), (9, (.pointer (some ⟨z9, 0, none⟩))), (10, .int .i64 1), (11, (.pointer (some ⟨z10, 0, none⟩))), (12, .int .i64 1), (13, (.pointer (some ⟨z11, 0, none⟩))), (14, .int .i64 10), (15, (.pointer (some ⟨z12, 0, none⟩))), (16, .int .i64 0), (18, .int .i64 7), (19, (.pointer (some ⟨z13, 0, none⟩))), (20, .int .i64 8), (21, (.pointer (some ⟨z14, 0, none⟩))), (22, .int .i64 7), (23, (.pointer (some ⟨z15, 0, none⟩))), (24, .int .i64 0), (25, (.pointer (some ⟨z19, 0, none⟩))), (26, (.pointer (some ⟨z20, 0, none⟩))), (27, .int .i64 7), (28, (.pointer (some ⟨z22, 0, none⟩))), (29, .int .i64 7), (30, (.pointer (some ⟨z24, 0, none⟩))), (31, .int .i64 7)] rfl ⟨rfl, rfl, rfl, rfl, rfl, rfl, rfl, rfl, rfl, rfl, rfl, rfl, rfl, rfl, rfl, rfl, rfl, rfl, rfl, rfl, rfl, rfl, rfl, rfl, rfl, rfl, rfl, rfl, rfl, rfl, rfl, trivial⟩ (fun ρ0 => ?_)
  refine T.s (T.rg ?_)
  refine TO.q (q_la 5 underlying25 rfl inf25 rfl rfl rfl) ?_
  refine TO.l rfl (l_buildSlice (m := 2) (parts := [(0, .const (.int .i64 1)), (1, .const (.int .i64 2))]) (cs := [.int .i64 1, .int .i64 2]) underlying37 inf3 (by decide) (by kernel_rfl) rfl (fun z25 => ?_))
  have hk130 := fun (w1 : World) (hI : Inv w [rowI (some ⟨z25, 0, none⟩) 2 3 1 [.int .i64 1, .int .i64 2], dI 37 4 3 exW kw, oI z19 25 (dC exW kw), oI z15 25 (dC X103 k103), dI 37 4 3 exJ kj, oI z5 25 (dC exJ kj), oI z4 25 (dC exX k0), dI 37 4 3 exX k0] w1) => (haveI := tbz hI; (show PureT _ _ _ _ _ from by
      have h9 := rnC w1 exX k0 (hI.at (k := k0) (mG 7 rfl)) bE.1 bE.2.1 bE.2.2 (some ⟨z25, 0, none⟩) 2 [1, 2] (hI.slOf (cs := ints [1, 2]) (mG 0 rfl)) (by decide)
      rw [eX130, ej_q] at h9
      exact h9))
  refine TO.l rfl (l_call ent28 (CallT.op hk130) rfl ?_)
  clear hk130
  rintro vr O' ⟨N, rfl, k130, rfl, rfl⟩
  refine TO.qm rfl (TO.q (q_extract (vs := _) rfl rfl) (TO.q (q_extract (vs := _) rfl rfl) ?_))
  refine TO.l rfl (l_alloc inf25 rfl (fun z26 => ?_))
  refine TO.l rfl (l_sb (v := (dV X130 k130)) (vs := (dC X130 k130)) 0 inf25 rfl rfl rfl rfl rfl rfl (by simp [putL]) ?_)
  refine TO.qa rfl ?_
  refine TO.sub (O' := [dI 37 4 3 exW kw, oI z19 25 (dC exW kw), oI z15 25 (dC X103 k103), dI 37 4 3 exJ kj, oI z5 25 (dC exJ kj), oI z4 25 (dC exX k0), dI 37 4 3 exX k0]) (by exact Sub.d (.d (.d (.k (.k (.k (.k (.k (.k (.k .z)))))))))) ?_
  refine TO.nl (T.s (T.rg ?_))
  refine TO.q (q_la 4 underlying25 rfl inf25 rfl rfl rfl) ?_
  refine TO.l rfl (l_buildSlice (m := 2) (parts := [(0, .const (.int .i64 5)), (1, .const (.int .i64 5))]) (cs := [.int .i64 5, .int .i64 5]) underlying37 inf3 (by decide) (by kernel_rfl) rfl (fun z27 => ?_))
  have hk136 := fun (w1 : World) (hI : Inv w [rowI (some ⟨z27, 0, none⟩) 2 3 1 [.int .i64 5, .int .i64 5], dI 37 4 3 exW kw, oI z19 25 (dC exW kw), oI z15 25 (dC X103 k103), dI 37 4 3 exJ kj, oI z5 25 (dC exJ kj), oI z4 25 (dC exX k0), dI 37 4 3 exX k0] w1) => (haveI := tbz hI; (show PureT _ _ _ _ _ from by
      have h9 := rnC w1 exJ kj (hI.at (k := kj) (mG 4 rfl)) bd_exJ.1 bd_exJ.2.1 bd_exJ.2.2 (some ⟨z27, 0, none⟩) 2 [5, 5] (hI.slOf (cs := ints [5, 5]) (mG 0 rfl)) (by decide)
      rw [eX136, ej_r] at h9
      exact h9))
  refine TO.l rfl (l_call ent28 (CallT.op hk136) rfl ?_)
  clear hk136
  rintro vr O' ⟨N, rfl, k136, rfl, rfl⟩
  refine TO.qm rfl (TO.q (q_extract (vs := _) rfl rfl) (TO.q (q_extract (vs := _) rfl rfl) ?_))
  refine TO.l rfl (l_alloc inf25 rfl (fun z28 => ?_))
  refine TO.l rfl (l_sb (v := (dV X136 k136)) (vs := (dC X136 k136)) 0 inf25 rfl rfl rfl rfl rfl rfl (by simp [putL]) ?_)
  refine TO.qa rfl ?_
  refine TO.sub (O' := [dI 37 4 3 exW kw, oI z19 25 (dC exW kw), oI z15 25 (dC X103 k103), dI 37 4 3 exJ kj, oI z5 25 (dC exJ kj), oI z4 25 (dC exX k0), dI 37 4 3 exX k0]) (by exact Sub.d (.d (.d (.k (.k (.k (.k (.k (.k (.k .z)))))))))) ?_
  refine TO.nl ?_
  refine T.reset [dI 37 4 3 exW kw, oI z19 25 (dC exW kw), oI z15 25 (dC X103 k103), dI 37 4 3 exJ kj, oI z5 25 (dC exJ kj), oI z4 25 (dC exX k0), dI 37 4 3 exX k0] [(0, .bool false), (1, (.pointer (some ⟨z4, 0, none⟩))), (2, (.pointer (some ⟨z5, 0, none⟩))), (3, (.pointer (some ⟨z6, 0, none⟩))), (4, .int .i64 8), (5, (.pointer (some ⟨z7, 0, none⟩))), (6, .int .i64 7), (7, (.pointer (some ⟨z8, 0, none⟩))), (8, .int .i64 7), (9, (.pointer (some ⟨z9, 0, none⟩))), (10, .int .i64 1), (11, (.pointer (some ⟨z10, 0, none⟩))), (12, .int .i64 1), (13, (.pointer (some ⟨z11, 0, none⟩))), (14, .int .i64 10), (15, (.pointer (some ⟨z12, 0, none⟩))), (16, .int .i64 0), (18, .int .i64 7), (19, (.pointer (some ⟨z13, 0, none⟩))), (20, .int .i64 8), (21, (.pointer (some ⟨z14, 0, none⟩))), (22, .int .i64 7), (23, (.pointer (some ⟨z15, 0, none⟩))), (24, .int .i64 0), (25, (.pointer (some ⟨z19, 0, none⟩))), (26, (.pointer (some ⟨z20, 0, none⟩))), (27, .int .i64 7), (28, (.pointer (some ⟨z22, 0, none⟩))), (29, .int .i64 7), (30, (.pointer (some ⟨z24, 0, none⟩))), (31, .int .i64 7), (32, (.pointer (some ⟨z26, 0, none⟩))), (33, .int .i64 7), (34, (.pointer (some ⟨z28, 0, none⟩))), (35, .int .i64 8)] rfl ⟨rfl, rfl, rfl, rfl, rfl, rfl, rfl, rfl, rfl, rfl, rfl, rfl, rfl, rfl, rfl, rfl, rfl, rfl, rfl, rfl, rfl, rfl, rfl, rfl, rfl, rfl, rfl, rfl, rfl, rfl, rfl, rfl, rfl, rfl, rfl, trivial⟩ (fun ρ0 => ?_)
  refine T.s (T.rg ?_)
  refine TO.l rfl (l_build1 (v := .int .i64 0) underlying37 inf3 rfl rfl rfl (fun z29 => ?_))
  refine TO.l rfl (l_build1 (v := (.slice (some ⟨z29, 0, none⟩) 1 1)) underlying22 inf37 rfl rfl rfl (fun z30 => ?_))
  refine TO.l rfl (l_build1 (v := .bool true) underlying23 inf4 rfl rfl rfl (fun z31 => ?_))
  refine TO.q (q_build (cs := [(.int .i64 0), (.int .i64 0), (.slice (some ⟨z30, 0, none⟩) 1 1), (.slice (some ⟨z31, 0, none⟩) 1 1)]) plan25 inf25 (by kernel_rfl)) ?_
  have hk144 := fun (w1 : World) (hI : Inv w [rowI (some ⟨z31, 0, none⟩) 1 4 1 [.bool true], rowI (some ⟨z30, 0, none⟩) 1 37 1 [(.slice (some ⟨z29, 0, none⟩) 1 1)], rowI (some ⟨z29, 0, none⟩) 1 3 1 [.int .i64 0], dI 37 4 3 exW kw, oI z19 25 (dC exW kw), oI z15 25 (dC X103 k103), dI 37 4 3 exJ kj, oI z5 25 (dC exJ kj), oI z4 25 (dC exX k0), dI 37 4 3 exX k0] w1) => (haveI := tbz hI; (show PureT _ _ _ _ _ from by
      have h9 := rnC w1 exNo ⟨some ⟨z30, 0, none⟩, 1, some ⟨z31, 0, none⟩, 1, [⟨some ⟨z29, 0, none⟩, 1, [0]⟩]⟩ (show At w1 exNo _ from ⟨(hI.slOf (mG 1 rfl)), RowsR.one (r := [0]) (hI.slOf (mG 2 rfl)), (hI.slOf (mG 0 rfl))⟩) bd_exNo.1 bd_exNo.2.1 bd_exNo.2.2 none 0 [] (Sl.nil _ none) (by decide)
      rw [eX144, ej_s] at h9
      exact h9))
  refine TO.l rfl (l_call ent28 (CallT.op hk144) rfl ?_)
  clear hk144
  rintro vr O' ⟨N, rfl, k144, rfl, rfl⟩
  refine TO.qm rfl (TO.q (q_extract (vs := _) rfl rfl) (TO.q (q_extract (vs := _) rfl rfl) ?_))
  refine TO.l rfl (l_alloc inf25 rfl (fun z32 => ?_))
  refine TO.l rfl (l_sb (v := (dV X144 k144)) (vs := (dC X144 k144)) 0 inf25 rfl rfl rfl rfl rfl rfl (by simp [putL]) ?_)
  refine TO.qa rfl ?_
  refine TO.sub (O' := [oI z32 25 (dC X144 k144), dI 37 4 3 exW kw, oI z19 25 (dC exW kw), oI z15 25 (dC X103 k103), dI 37 4 3 exJ kj, oI z5 25 (dC exJ kj), oI z4 25 (dC exX k0), dI 37 4 3 exX k0]) (by exact Sub.k (.d (.d (.d (.d (.k (.k (.k (.k (.k (.k (.k .z)))))))))))) ?_
  refine TO.nl ?_
  refine T.reset [oI z32 25 (dC X144 k144), dI 37 4 3 exW kw, oI z19 25 (dC exW kw), oI z15 25 (dC X103 k103), dI 37 4 3 exJ kj, oI z5 25 (dC exJ kj), oI z4 25 (dC exX k0), dI 37 4 3 exX k0] [(0, .bool false), (1, (.pointer (some ⟨z4, 0, none⟩))), (2, (.pointer (some ⟨z5, 0, none⟩))), (3, (.pointer (some ⟨z6, 0, none⟩))), (4, .int .i64 8), (5, (.pointer (some ⟨z7, 0, none⟩))), (6, .int .i64 7), (7, (.pointer (some ⟨z8, 0, none⟩))), (8, .int .i64 7), (9, (.pointer (some ⟨z9, 0, none⟩))), (10, .int .i64 1), (11, (.pointer (some ⟨z10, 0, none⟩))), (12, .int .i64 1), (13, (.pointer (some ⟨z11, 0, none⟩))), (14, .int .i64 10), (15, (.pointer (some ⟨z12, 0, none⟩))), (16, .int .i64 0), (18, .int .i64 7), (19, (.pointer (some ⟨z13, 0, none⟩))), (20, .int .i64 8), (21, (.pointer (some ⟨z14, 0, none⟩))), (22, .int .i64 7), (23, (.pointer (some ⟨z15, 0, none⟩))), (24, .int .i64 0), (25, (.pointer (some ⟨z19, 0, none⟩))), (26, (.pointer (some ⟨z20, 0, none⟩))), (27, .int .i64 7), (28, (.pointer (some ⟨z22, 0, none⟩))), (29, .int .i64 7), (30, (.pointer (some ⟨z24, 0, none⟩))), (31, .int .i64 7), (32, (.pointer (some ⟨z26, 0, none⟩))), (33, .int .i64 7), (34, (.pointer (some ⟨z28, 0, none⟩))), (35, .int .i64 8), (36, (.pointer (some ⟨z32, 0, none⟩))), (37, .int .i64 0)] rfl ⟨rfl, rfl, rfl, rfl, rfl, rfl, rfl, rfl, rfl, rfl, rfl, rfl, rfl, rfl, rfl, rfl, rfl, rfl, rfl, rfl, rfl, rfl, rfl, rfl, rfl, rfl, rfl, rfl, rfl, rfl, rfl, rfl, rfl, rfl, rfl, rfl, rfl, trivial⟩ (fun ρ0 => ?_)
  refine T.s (T.rg ?_)
  refine TO.q (q_la 2 underlying25 rfl inf25 rfl rfl rfl) ?_
  have hk149 := fun (w1 : World) (hI : Inv w [oI z32 25 (dC X144 k144), dI 37 4 3 exW kw, oI z19 25 (dC exW kw), oI z15 25 (dC X103 k103), dI 37 4 3 exJ kj, oI z5 25 (dC exJ kj), oI z4 25 (dC exX k0), dI 37 4 3 exX k0] w1) => (haveI := tbz hI; (show PureT _ _ _ _ _ from by
      have h9 := drC w1 exW kw (hI.at (k := kw) (mG 1 rfl)) bd_exW.1 bd_exW.2.1 bd_exW.2.2 5 
      rw [eX149, ej_t] at h9
      exact h9))
  refine TO.l rfl (l_call ent26 (CallT.op hk149) rfl ?_)
  clear hk149
  rintro vr O' ⟨N, rfl, k149, rfl, rfl⟩
  refine TO.qm rfl (TO.q (q_extract (vs := _) rfl rfl) (TO.q (q_extract (vs := _) rfl rfl) ?_))
  refine TO.l rfl (l_alloc inf25 rfl (fun z33 => ?_))
  refine TO.l rfl (l_sb (v := (dV X149 k149)) (vs := (dC X149 k149)) 0 inf25 rfl rfl rfl rfl rfl rfl (by simp [putL]) ?_)
  refine TO.qa rfl ?_
  refine TO.sub (O' := [oI z33 25 (dC X149 k149), oI z32 25 (dC X144 k144), dI 37 4 3 exW kw, oI z19 25 (dC exW kw), oI z15 25 (dC X103 k103), dI 37 4 3 exJ kj, oI z5 25 (dC exJ kj), oI z4 25 (dC exX k0), dI 37 4 3 exX k0]) (by exact Sub.k (.d (.k (.k (.k (.k (.k (.k (.k (.k .z)))))))))) ?_
  refine TO.nl (T.s (T.rg ?_))
  refine TO.qm rfl (TO.q (QT.toB (q_eql rfl rfl) (decide_eq_true rfl)) (TO.qm rfl ?_))
  refine TO.gd rfl rfl rfl (LT.oq rfl rfl (q_move rfl) ?_)
  refine TO.gd rfl rfl rfl (LT.oq rfl rfl (QT.toB (q_eql rfl rfl) (decide_eq_true rfl)) ?_)
  refine TO.q (q_pick1 rfl rfl) (TO.qm rfl ?_)
  refine TO.gd rfl rfl rfl (LT.oq rfl rfl (q_move rfl) ?_)
  refine TO.gd rfl rfl rfl (LT.oq rfl rfl (QT.toB (q_eql rfl rfl) (decide_eq_true rfl)) ?_)
  refine TO.q (q_pick1 rfl rfl) (TO.qm rfl ?_)
  refine TO.gd rfl rfl rfl (LT.oq rfl rfl (q_move rfl) ?_)
  refine TO.gd rfl rfl rfl (LT.oq rfl rfl (QT.toB (q_eql rfl rfl) (decide_eq_true rfl)) ?_)
  refine TO.q (q_pick1 rfl rfl) (TO.qm rfl ?_)
  refine TO.gd rfl rfl rfl (LT.oq rfl rfl (q_move rfl) ?_)
  refine TO.gd rfl rfl rfl (LT.oq rfl rfl (QT.toB (q_eql rfl rfl) (decide_eq_true rfl)) ?_)
  refine TO.q (q_pick1 rfl rfl) (TO.qm rfl ?_)
  refine TO.gd rfl rfl rfl (LT.oq rfl rfl (q_move rfl) ?_)
  refine TO.gd rfl rfl rfl (LT.oq rfl rfl (QT.toB (q_eql rfl rfl) (decide_eq_true rfl)) ?_)
  refine TO.q (q_pick1 rfl rfl) (TO.qm rfl ?_)
  refine TO.gd rfl rfl rfl (LT.oq rfl rfl (q_move rfl) ?_)
  refine TO.gd rfl rfl rfl (LT.oq rfl rfl (QT.toB (q_eql rfl rfl) (decide_eq_true rfl)) ?_)
  refine TO.q (q_pick1 rfl rfl) (TO.qm rfl ?_)
  refine TO.gd rfl rfl rfl (LT.oq rfl rfl (q_move rfl) ?_)
  refine TO.gd rfl rfl rfl (LT.oq rfl rfl (QT.toB (q_eql rfl rfl) (decide_eq_true rfl)) ?_)
  refine TO.q (q_pick1 rfl rfl) (TO.qm rfl ?_)
  refine TO.gd rfl rfl rfl (LT.oq rfl rfl (q_move rfl) ?_)
  refine TO.gd rfl rfl rfl (LT.oq rfl rfl (QT.toB (q_eql rfl rfl) (decide_eq_true rfl)) ?_)
  refine TO.q (q_pick1 rfl rfl) (TO.qm rfl ?_)
  refine TO.gd rfl rfl rfl (LT.oq rfl rfl (q_move rfl) ?_)
  refine TO.gd rfl rfl rfl (LT.oq rfl rfl (QT.toB (q_eql rfl rfl) (decide_eq_true rfl)) ?_)
  refine TO.q (q_pick1 rfl rfl) (TO.qm rfl ?_)
  refine TO.gd rfl rfl rfl (LT.oq rfl rfl (q_move rfl) ?_)
  refine TO.gd rfl rfl rfl (LT.oq rfl rfl (QT.toB (q_eql rfl rfl) (decide_eq_true rfl)) ?_)
  refine TO.q (q_pick1 rfl rfl) (TO.qm rfl ?_)
  refine TO.gd rfl rfl rfl (LT.oq rfl rfl (q_fa underlying25 rfl inf3 rfl rfl) ?_)
  refine TO.gd rfl rfl rfl (LT.oq rfl rfl (q_lb 4 underlying3 rfl rfl rfl rfl) ?_)
  refine TO.gd rfl rfl rfl (LT.oq rfl rfl (QT.toB (q_eql rfl rfl) (decide_eq_true hm)) ?_)
  refine TO.q (q_pick1 rfl rfl) (TO.qm rfl ?_)
  refine TO.gd rfl rfl rfl (LT.oq rfl rfl (q_move rfl) ?_)
  refine TO.gd rfl rfl rfl (LT.oq rfl rfl (QT.toB (q_eql rfl rfl) (decide_eq_true rfl)) ?_)
  refine TO.q (q_pick1 rfl rfl) (TO.qm rfl ?_)
  refine TO.gd rfl rfl rfl (LT.oq rfl rfl (q_move rfl) ?_)
  refine TO.gd rfl rfl rfl (LT.oq rfl rfl (QT.toB (q_eql rfl rfl) (decide_eq_true rfl)) ?_)
  refine TO.q (q_pick1 rfl rfl) (TO.qm rfl ?_)
  refine TO.gd rfl rfl rfl (LT.oq rfl rfl (q_move rfl) ?_)
  refine TO.gd rfl rfl rfl (LT.oq rfl rfl (QT.toB (q_eql rfl rfl) (decide_eq_true rfl)) ?_)
  refine TO.q (q_pick1 rfl rfl) (TO.qm rfl ?_)
  refine TO.gd rfl rfl rfl (LT.oq rfl rfl (q_move rfl) ?_)
  refine TO.gd rfl rfl rfl (LT.oq rfl rfl (QT.toB (q_eql rfl rfl) (decide_eq_true rfl)) ?_)
  refine TO.q (q_pick1 rfl rfl) (TO.qm rfl ?_)
  refine TO.gd rfl rfl rfl (LT.oq rfl rfl (q_move rfl) ?_)
  refine TO.gd rfl rfl rfl (LT.oq rfl rfl (QT.toB (q_eql rfl rfl) (decide_eq_true rfl)) ?_)
  refine TO.q (q_pick1 rfl rfl) (TO.qm rfl ?_)
  refine TO.gd rfl rfl rfl (LT.oq rfl rfl (q_move rfl) ?_)
  refine TO.gd rfl rfl rfl (LT.oq rfl rfl (QT.toB (q_eql rfl rfl) (decide_eq_true rfl)) ?_)
  refine TO.q (q_pick1 rfl rfl) (TO.qm rfl ?_)
  refine TO.gd rfl rfl rfl (LT.oq rfl rfl (q_fa underlying25 rfl inf3 rfl rfl) ?_)
  refine TO.gd rfl rfl rfl (LT.oq rfl rfl (q_lb 1 underlying3 rfl rfl rfl rfl) ?_)
  refine TO.gd rfl rfl rfl (LT.oq rfl rfl (QT.toB (q_eql rfl rfl) (decide_eq_true hs)) ?_)
  refine TO.q (q_pick1 rfl rfl) (TO.qm rfl ?_)
  refine TO.gd rfl rfl rfl (LT.oq rfl rfl (q_move rfl) ?_)
  refine TO.gd rfl rfl rfl (LT.oq rfl rfl (QT.toB (q_eql rfl rfl) (decide_eq_true rfl)) ?_)
  refine TO.q (q_pick1 rfl rfl) (TO.qm rfl ?_)
  refine TO.gd rfl rfl rfl (LT.oq rfl rfl (q_fa underlying25 rfl inf3 rfl rfl) ?_)
  refine TO.gd rfl rfl rfl (LT.oq rfl rfl (q_lb 0 underlying3 rfl rfl rfl rfl) ?_)
  refine TO.gd rfl rfl rfl (LT.oq rfl rfl (QT.toB (q_eql rfl rfl) (decide_eq_true ht1)) ?_)
  refine TO.q (q_pick1 rfl rfl) (TO.qm rfl ?_)
  refine TO.gd rfl rfl rfl (LT.oq rfl rfl (q_fa underlying25 rfl inf22 rfl rfl) ?_)
  refine TO.gd rfl rfl rfl (LT.oq rfl rfl (q_lb 0 underlying22 rfl rfl rfl rfl) ?_)
  refine TO.gd rfl rfl rfl (LT.oq rfl rfl (q_len underlying22 rfl) ?_)
  refine TO.gd rfl rfl rfl (LT.oq rfl rfl (QT.toB (q_eql rfl rfl) (decide_eq_true (by rw [ht2]; rfl))) ?_)
  refine TO.q (q_pick1 rfl rfl) (TO.qa rfl ?_)
  refine TO.nl (T.ret (Res.drop ?_))
  refine Res.one (.bool true) Tryz.results5 rfl ?_
  exact ⟨[], Sub.z, rfl, rfl⟩
end Go.Proofs.YtohkmggbfcnapaaGreatDoor

