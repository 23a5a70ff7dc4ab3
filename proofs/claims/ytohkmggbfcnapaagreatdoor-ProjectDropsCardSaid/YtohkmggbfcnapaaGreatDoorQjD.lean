/- Contracts of functions of the program (QjD): what each call answers and that it leaves memory as it was. Conditions: those each theorem names. -/
import Derived.Test.YtohkmggbfcnapaaGreatDoorCoreK
import Derived.Test.YtohkmggbfcnapaaGreatDoorWtK
import Derived.Test.YtohkmggbfcnapaaGreatDoorEnd
set_option linter.unusedSectionVars false
set_option linter.unusedSimpArgs false
set_option linter.unusedVariables false
set_option linter.unnecessarySimpa false
set_option maxHeartbeats 8000000
set_option maxRecDepth 20000
namespace Go.Proofs.YtohkmggbfcnapaaGreatDoor
open Go.Lx Go.RowKit _root_.Go.Proofs.Tryz
theorem dropsW (w : World) [Tab Tryz.prog w] (a : DFA) (k : DK) (ha : At w a k) (haa : a.next.length < 9223372036854775807) (haar : ∀ r ∈ a.next, r.length < 9223372036854775807) (haaf : a.final.length < 9223372036854775807) (v : Int) :
    PureT Tryz.prog 7 [dV a k, .int .i64 v] w fun r N => r = .bool true ∧ N = [] := by
  refine CallT.enter func7 rfl ntmps7 rfl ?_
  refine T.s (T.rg ?_)
  refine TO.l rfl (l_box (v := (dV a k)) (cs := (dC a k)) rfl rfl (fun z1 => ?_))
  refine TO.qa rfl ?_
  refine TO.nl ?_
  refine T.cut (fun ρ O => Sub [oI z1 25 (dC a k)] O ∧ (¬ longB [a] = true ∧ a.vars ≤ 4) ∧ Heads [(0, (dV a k)), (1, .int .i64 v), (2, (.pointer (some ⟨z1, 0, none⟩)))] ρ) ?_ ?_
  · refine T.s ?_
    refine T.rg ?_
    refine TO.q (q_la 0 underlying25 rfl inf25 rfl rfl rfl) ?_
    refine TO.l rfl (l_buildSlice (m := 1) (parts := [(0, _)]) (cs := (dC a k)) underlying56 inf25 (by decide) (by kernel_rfl) rfl (fun z2 => ?_))
    have hk23 := fun (w1 : World) (hI : Inv w [rowI (some ⟨z2, 0, none⟩) 1 25 4 (dC a k), oI z1 25 (dC a k)] w1) => (haveI := tbz hI; long1K w1 (some ⟨z2, 0, none⟩) a k (hI.slOf (mG 0 rfl)) (hI.atB ha) haa)
    refine TO.l rfl (l_call ent10 (CallT.op hk23) rfl ?_)
    clear hk23
    rintro vr O' ⟨N, rfl, rfl, rfl⟩
    by_cases hs24 : (longB [a]) = true
    · refine TO.q (QT.toB (q_move rfl) (hs24)) ?_
      refine TO.pd rfl rfl ?_
      refine TO.pd rfl rfl ?_
      refine TO.pd rfl rfl ?_
      refine TO.q (q_pick1 rfl rfl) (TO.qm rfl ?_)
      refine TO.pd rfl rfl ?_
      refine TO.pd rfl rfl ?_
      refine TO.q (q_pick1 rfl rfl) ?_
      refine TO.nl ?_
      refine T.cond1 rfl ?_
      refine T.s (T.rg ?_)
      have hk33 := fun (w1 : World) (hI : Inv w [rowI (some ⟨z2, 0, none⟩) 1 25 4 (dC a k), oI z1 25 (dC a k)] w1) => (haveI := tbz hI; awakeC w1)
      refine TO.l rfl (l_call ent11 (CallT.op hk33) rfl ?_)
      clear hk33
      rintro vr O' ⟨N, rfl, rfl, rfl⟩
      refine TO.qa rfl ?_
      refine TO.nl (T.ret (Res.drop ?_))
      refine Res.one (.bool true) Tryz.results7 rfl ?_
      exact ⟨[], Sub.z, rfl, rfl⟩
    refine TO.q (QT.toB (q_move rfl) (Bool.eq_false_iff.2 hs24)) ?_
    refine TO.gd rfl rfl rfl (LT.oq rfl rfl (q_fa underlying25 rfl inf3 rfl rfl) ?_)
    refine TO.gd rfl rfl rfl (LT.oq rfl rfl (q_lb 1 underlying3 rfl rfl rfl rfl) ?_)
    refine TO.gd rfl rfl rfl (LT.oq rfl rfl (q_gtr rfl rfl) ?_)
    refine TO.q (q_pick0 rfl rfl) ?_
    by_cases hs29 : a.vars > 4
    · refine TO.q (QT.toB (q_move rfl) (decide_eq_true hs29)) ?_
      refine TO.pd rfl rfl ?_
      refine TO.pd rfl rfl ?_
      refine TO.q (q_pick1 rfl rfl) ?_
      refine TO.nl ?_
      refine T.cond1 rfl ?_
      refine T.s (T.rg ?_)
      have hk33 := fun (w1 : World) (hI : Inv w [rowI (some ⟨z2, 0, none⟩) 1 25 4 (dC a k), oI z1 25 (dC a k)] w1) => (haveI := tbz hI; awakeC w1)
      refine TO.l rfl (l_call ent11 (CallT.op hk33) rfl ?_)
      clear hk33
      rintro vr O' ⟨N, rfl, rfl, rfl⟩
      refine TO.qa rfl ?_
      refine TO.nl (T.ret (Res.drop ?_))
      refine Res.one (.bool true) Tryz.results7 rfl ?_
      exact ⟨[], Sub.z, rfl, rfl⟩
    refine TO.q (QT.toB (q_move rfl) (decide_eq_false hs29)) ?_
    have hk30 := fun (w1 : World) (hI : Inv w [rowI (some ⟨z2, 0, none⟩) 1 25 4 (dC a k), oI z1 25 (dC a k)] w1) => (haveI := tbz hI; awakeC w1)
    refine TO.gd rfl rfl rfl (l_call ent11 (CallT.op hk30) rfl ?_)
    clear hk30
    rintro vr O' ⟨N, rfl, rfl, rfl⟩
    refine TO.gd rfl rfl rfl (LT.oq rfl rfl (q_not rfl) ?_)
    refine TO.q (q_pick0 rfl rfl) ?_
    refine TO.nl ?_
    refine T.cond0 rfl ?_
    refine T.skip ?_
    exact ⟨(by exact Sub.d (.k .z)), ⟨by simp_all, by omega⟩, ⟨rfl, rfl, rfl, trivial⟩⟩
  rintro ρ O ⟨hS, ⟨hnl, hv4⟩, hH⟩
  obtain ⟨ρ0, rfl⟩ := hH.elim
  clear hH
  refine T.sub hS ?_
  refine T.s ?_
  have sa : Sh a := longB_one hnl
  have ba : Bd9 a := ⟨haa, haar, haaf⟩
  have hn8 := sa.n8
  obtain ⟨M, eM⟩ : ∃ zz, minV a = zz := ⟨_, rfl⟩
  obtain ⟨x1, ex1⟩ : ∃ zz, checkD a = zz := ⟨_, rfl⟩
  obtain ⟨Y, eY⟩ : ∃ zz, inV a v = zz := ⟨_, rfl⟩
  obtain ⟨x2, ex2⟩ : ∃ zz, inE2 a v = zz := ⟨_, rfl⟩
  obtain ⟨bi, ebi⟩ : ∃ zz, igV a v = zz := ⟨_, rfl⟩
  obtain ⟨x3, ex3⟩ : ∃ zz, vE a v = zz := ⟨_, rfl⟩
  obtain ⟨X, eX⟩ : ∃ zz, xsV a v 4096 = zz := ⟨_, rfl⟩
  obtain ⟨x4, ex4⟩ : ∃ zz, xsE a v 4096 = zz := ⟨_, rfl⟩
  obtain ⟨Z, eZ⟩ : ∃ zz, drV a v = zz := ⟨_, rfl⟩
  obtain ⟨x5, ex5⟩ : ∃ zz, drE a v = zz := ⟨_, rfl⟩
  have bM : Bd9 M := eM ▸ bdM
  have bY : Bd9 Y := eY ▸ bdIn
  have bX : Bd9 X := eX ▸ bdX (fun _ => by omega)
  have bZ : Bd9 Z := eZ ▸ bdDr
  refine T.rg ?_
  refine TO.q (q_la 0 underlying25 rfl inf25 rfl rfl rfl) ?_
  have hk36 := fun (w1 : World) (hI : Inv w [oI z1 25 (dC a k)] w1) => (haveI := tbz hI; (show PureT _ _ _ _ _ from by
      have h9 := minK w1 a k (hI.atB ha) ba.1 ba.2.1 ba.2.2 (fun _ => by omega)
      rw [eM, ex1] at h9
      exact h9))
  refine TO.l rfl (l_call ent34 (CallT.op hk36) rfl ?_)
  clear hk36
  rintro vr O' ⟨N, rfl, kM, rfl, rfl⟩
  refine TO.qm rfl (TO.q (q_extract (vs := _) rfl rfl) (TO.q (q_extract (vs := _) rfl rfl) ?_))
  refine TO.l rfl (l_alloc inf25 rfl (fun z3 => ?_))
  refine TO.l rfl (l_sb (v := (dV M kM)) (vs := (dC M kM)) 0 inf25 rfl rfl rfl rfl rfl rfl (by simp [putL]) ?_)
  refine TO.qa rfl ?_
  refine TO.sub (O' := [oI z3 25 (dC M kM), dI 37 4 3 M kM, oI z1 25 (dC a k)]) (by exact Sub.rf) ?_
  refine TO.nl (T.s (T.s (T.rg ?_)))
  refine TO.qm rfl (TO.q (q_neq rfl rfl) ?_)
  refine TO.nl ?_
  refine T.condP rfl (fun hc => ?_) (fun hc => ?_)
  · have hlt40 : x1 ≠ 0 := by omega
    refine T.s (T.rg ?_)
    refine TO.q (q_la 2 underlying25 rfl inf25 rfl rfl rfl) ?_
    have hk42 := fun (w1 : World) (hI : Inv w [oI z3 25 (dC M kM), dI 37 4 3 M kM, oI z1 25 (dC a k)] w1) => (haveI := tbz hI; (show PureT _ _ _ _ _ from by
        have h9 := subsetCheck w1 a k.nb k.fb k.nc k.fc (vals k.qs) (hI.dfa ha) haa haar haaf
        rw [ex1] at h9
        exact h9))
    refine TO.l rfl (l_call ent35 (CallT.op hk42) rfl ?_)
    clear hk42
    rintro vr O' ⟨N, rfl, rfl, rfl⟩
    refine TO.qm rfl (TO.q (QT.toB (q_eql rfl rfl) (decide_eq_true rfl)) (TO.qa rfl ?_))
    refine TO.nl (T.ret (Res.drop ?_))
    refine Res.one (.bool true) Tryz.results7 rfl ?_
    exact ⟨[], Sub.z, rfl, rfl⟩
  have hge40 : ¬ x1 ≠ 0 := by omega
  refine T.skip (T.s ?_)
  have hv : Valid a := checkD_zero.1 (by omega)
  have eMD : minD a = M := by rw [← eM, minV_valid hv]
  have H := sa.h8 hv
  refine T.rg ?_
  refine TO.q (q_la 2 underlying25 rfl inf25 rfl rfl rfl) (TO.qm rfl ?_)
  have hk48 := fun (w1 : World) (hI : Inv w [oI z3 25 (dC M kM), dI 37 4 3 M kM, oI z1 25 (dC a k)] w1) => (haveI := tbz hI; (show PureT _ _ _ _ _ from by
      have h9 := insC w1 a k (hI.atB ha) ba.1 ba.2.1 ba.2.2 v 
      rw [eY, ex2] at h9
      exact h9))
  refine TO.l rfl (l_call ent27 (CallT.op hk48) rfl ?_)
  clear hk48
  rintro vr O' ⟨N, rfl, kY, rfl, rfl⟩
  refine TO.qm rfl (TO.q (q_extract (vs := _) rfl rfl) (TO.q (q_extract (vs := _) rfl rfl) ?_))
  refine TO.l rfl (l_alloc inf25 rfl (fun z4 => ?_))
  refine TO.l rfl (l_sb (v := (dV Y kY)) (vs := (dC Y kY)) 0 inf25 rfl rfl rfl rfl rfl rfl (by simp [putL]) ?_)
  refine TO.qa rfl ?_
  refine TO.sub (O' := [oI z4 25 (dC Y kY), dI 37 4 3 Y kY, oI z3 25 (dC M kM), dI 37 4 3 M kM, oI z1 25 (dC a k)]) (by exact Sub.rf) ?_
  refine TO.nl ?_
  refine T.reset [oI z4 25 (dC Y kY), dI 37 4 3 Y kY, oI z3 25 (dC M kM), dI 37 4 3 M kM, oI z1 25 (dC a k)] [(0, (dV a k)), (1, .int .i64 v), (2, (.pointer (some ⟨z1, 0, none⟩))), (5, (.pointer (some ⟨z3, 0, none⟩))), (6, .int .i64 (x1 : Int)), (7, (.pointer (some ⟨z4, 0, none⟩))), (8, .int .i64 (x2 : Int))] rfl ⟨rfl, rfl, rfl, rfl, rfl, rfl, rfl, trivial⟩ (fun ρ0 => ?_)
  refine T.cut (fun ρ O => Sub [oI z4 25 (dC Y kY), dI 37 4 3 Y kY, oI z3 25 (dC M kM), dI 37 4 3 M kM, oI z1 25 (dC a k)] O ∧ Heads [(0, (dV a k)), (1, .int .i64 v), (2, (.pointer (some ⟨z1, 0, none⟩))), (5, (.pointer (some ⟨z3, 0, none⟩))), (6, .int .i64 (x1 : Int)), (7, (.pointer (some ⟨z4, 0, none⟩))), (8, .int .i64 (x2 : Int))] ρ) ?_ ?_
  · refine T.s ?_
    refine T.rg ?_
    refine TO.qm rfl (TO.q (q_eql rfl rfl) ?_)
    refine TO.nl ?_
    refine T.condP rfl (fun hc => ?_) (fun hc => ?_)
    · have hlt52 : x2 = 0 := by omega
      refine T.s ?_
      have hx2 : inE2 a v = 0 := by omega
      obtain ⟨hd1, hd2, hd3, hd4⟩ := drop_in H hx2
      rw [eY] at hd1 hd2 hd3 hd4
      rw [eMD] at hd4
      refine T.rg ?_
      refine TO.q (q_la 0 underlying25 rfl inf25 rfl rfl rfl) (TO.qm rfl ?_)
      have hk56 := fun (w1 : World) (hI : Inv w [oI z4 25 (dC Y kY), dI 37 4 3 Y kY, oI z3 25 (dC M kM), dI 37 4 3 M kM, oI z1 25 (dC a k)] w1) => (haveI := tbz hI; (show PureT _ _ _ _ _ from by
          have h9 := ignC w1 Y kY (hI.at (k := kY) (mG 1 rfl)) bY.1 bY.2.1 bY.2.2 v
          rw [hd2, hd1] at h9
          exact h9))
      refine TO.l rfl (l_call ent18 (CallT.op hk56) rfl ?_)
      clear hk56
      rintro vr O' ⟨N, rfl, rfl, rfl⟩
      refine TO.qm rfl (TO.q (q_extract (vs := _) rfl rfl) (TO.q (q_extract (vs := _) rfl rfl) (TO.qa rfl ?_)))
      refine TO.qa rfl ?_
      refine TO.nl (T.s (T.rg ?_))
      refine TO.q (q_la 0 underlying25 rfl inf25 rfl rfl rfl) (TO.qm rfl ?_)
      have hk62 := fun (w1 : World) (hI : Inv w [oI z4 25 (dC Y kY), dI 37 4 3 Y kY, oI z3 25 (dC M kM), dI 37 4 3 M kM, oI z1 25 (dC a k)] w1) => (haveI := tbz hI; (show PureT _ _ _ _ _ from by
          have h9 := drC w1 Y kY (hI.at (k := kY) (mG 1 rfl)) bY.1 bY.2.1 bY.2.2 v 
          rw [hd4, hd3] at h9
          exact h9))
      refine TO.l rfl (l_call ent26 (CallT.op hk62) rfl ?_)
      clear hk62
      rintro vr O' ⟨N, rfl, kb, rfl, rfl⟩
      refine TO.qm rfl (TO.q (q_extract (vs := _) rfl rfl) (TO.q (q_extract (vs := _) rfl rfl) ?_))
      refine TO.l rfl (l_alloc inf25 rfl (fun z5 => ?_))
      refine TO.l rfl (l_sb (v := (dV M kb)) (vs := (dC M kb)) 0 inf25 rfl rfl rfl rfl rfl rfl (by simp [putL]) ?_)
      refine TO.qa rfl ?_
      refine TO.nl ?_
      refine T.reset [oI z5 25 (dC M kb), dI 37 4 3 M kb, oI z4 25 (dC Y kY), dI 37 4 3 Y kY, oI z3 25 (dC M kM), dI 37 4 3 M kM, oI z1 25 (dC a k)] [(0, (dV a k)), (1, .int .i64 v), (2, (.pointer (some ⟨z1, 0, none⟩))), (5, (.pointer (some ⟨z3, 0, none⟩))), (6, .int .i64 (x1 : Int)), (7, (.pointer (some ⟨z4, 0, none⟩))), (8, .int .i64 (x2 : Int)), (9, .bool true), (10, .int .i64 0), (11, (.pointer (some ⟨z5, 0, none⟩))), (12, .int .i64 0)] rfl ⟨rfl, rfl, rfl, rfl, rfl, rfl, rfl, rfl, rfl, rfl, rfl, trivial⟩ (fun ρ0 => ?_)
      refine T.s (T.rg ?_)
      refine TO.qm rfl (TO.q (QT.toB (q_neq rfl rfl) (decide_eq_false (fun h => h rfl))) (TO.qm rfl ?_))
      refine TO.gd rfl rfl rfl (LT.oq rfl rfl (q_move rfl) ?_)
      refine TO.gd rfl rfl rfl (LT.oq rfl rfl (q_not rfl) ?_)
      refine TO.q (q_pick0 rfl rfl) (TO.qm rfl ?_)
      refine TO.gd rfl rfl rfl (LT.oq rfl rfl (q_move rfl) ?_)
      refine TO.gd rfl rfl rfl (LT.oq rfl rfl (QT.toB (q_neq rfl rfl) (decide_eq_false (fun h => h rfl))) ?_)
      refine TO.q (q_pick0 rfl rfl) (TO.qm rfl ?_)
      refine TO.gd rfl rfl rfl (LT.oq rfl rfl (q_la 0 underlying25 rfl inf25 rfl rfl rfl) ?_)
      refine TO.gd rfl rfl rfl (LT.oq rfl rfl (q_la 4 underlying25 rfl inf25 rfl rfl rfl) ?_)
      have hk78 := fun (w1 : World) (hI : Inv w [oI z5 25 (dC M kb), dI 37 4 3 M kb, oI z4 25 (dC Y kY), dI 37 4 3 Y kY, oI z3 25 (dC M kM), dI 37 4 3 M kM, oI z1 25 (dC a k)] w1) => (haveI := tbz hI; equalK w1 M kb kM (hI.at (k := kb) (mG 1 rfl)) (hI.at (k := kM) (mG 5 rfl)) bM.1 bM.2.1 bM.2.2)
      refine TO.gd rfl rfl rfl (l_call ent19 (CallT.op hk78) rfl ?_)
      clear hk78
      rintro vr O' ⟨N, rfl, rfl, rfl⟩
      refine TO.gd rfl rfl rfl (LT.oq rfl rfl (q_not rfl) ?_)
      refine TO.q (q_pick0 rfl rfl) ?_
      refine TO.nl ?_
      refine T.cond0 rfl ?_
      refine T.skip ?_
      exact ⟨(by exact Sub.d (.d (.k (.k (.k (.k (.k .z))))))), ⟨rfl, rfl, rfl, rfl, rfl, rfl, rfl, trivial⟩⟩
    have hge52 : ¬ x2 = 0 := by omega
    refine T.skip ?_
    exact ⟨(by exact Sub.rf), ⟨rfl, rfl, rfl, rfl, rfl, rfl, rfl, trivial⟩⟩
  rintro ρ O ⟨hS, hH⟩
  obtain ⟨ρ0, rfl⟩ := hH.elim
  clear hH
  refine T.sub hS ?_
  refine T.s (T.rg ?_)
  refine TO.q (q_la 4 underlying25 rfl inf25 rfl rfl rfl) (TO.qm rfl ?_)
  have hk84 := fun (w1 : World) (hI : Inv w [oI z4 25 (dC Y kY), dI 37 4 3 Y kY, oI z3 25 (dC M kM), dI 37 4 3 M kM, oI z1 25 (dC a k)] w1) => (haveI := tbz hI; (show PureT _ _ _ _ _ from by
      have h9 := ignC w1 a k (hI.atB ha) ba.1 ba.2.1 ba.2.2 v
      rw [ebi, ex3] at h9
      exact h9))
  refine TO.l rfl (l_call ent18 (CallT.op hk84) rfl ?_)
  clear hk84
  rintro vr O' ⟨N, rfl, rfl, rfl⟩
  refine TO.qm rfl (TO.q (q_extract (vs := _) rfl rfl) (TO.q (q_extract (vs := _) rfl rfl) (TO.qa rfl ?_)))
  refine TO.qa rfl ?_
  refine TO.nl (T.s (T.rg ?_))
  refine TO.q (q_la 4 underlying25 rfl inf25 rfl rfl rfl) (TO.qm rfl ?_)
  have hk90 := fun (w1 : World) (hI : Inv w [oI z4 25 (dC Y kY), dI 37 4 3 Y kY, oI z3 25 (dC M kM), dI 37 4 3 M kM, oI z1 25 (dC a k)] w1) => (haveI := tbz hI; (show PureT _ _ _ _ _ from by
      have h9 := exC w1 a k (hI.atB ha) v 4096 ba.1 ba.2.1 ba.2.2 (fun _ => by omega)
      rw [eX, ex4] at h9
      exact h9))
  refine TO.l rfl (l_call ent16 (CallT.op hk90) rfl ?_)
  clear hk90
  rintro vr O' ⟨N, rfl, kX, rfl, rfl⟩
  refine TO.qm rfl (TO.q (q_extract (vs := _) rfl rfl) (TO.q (q_extract (vs := _) rfl rfl) ?_))
  refine TO.l rfl (l_alloc inf25 rfl (fun z6 => ?_))
  refine TO.l rfl (l_sb (v := (dV X kX)) (vs := (dC X kX)) 0 inf25 rfl rfl rfl rfl rfl rfl (by simp [putL]) ?_)
  refine TO.qa rfl ?_
  refine TO.sub (O' := [oI z6 25 (dC X kX), dI 37 4 3 X kX, oI z4 25 (dC Y kY), dI 37 4 3 Y kY, oI z3 25 (dC M kM), dI 37 4 3 M kM, oI z1 25 (dC a k)]) (by exact Sub.rf) ?_
  refine TO.nl ?_
  refine T.reset [oI z6 25 (dC X kX), dI 37 4 3 X kX, oI z4 25 (dC Y kY), dI 37 4 3 Y kY, oI z3 25 (dC M kM), dI 37 4 3 M kM, oI z1 25 (dC a k)] [(0, (dV a k)), (1, .int .i64 v), (2, (.pointer (some ⟨z1, 0, none⟩))), (5, (.pointer (some ⟨z3, 0, none⟩))), (6, .int .i64 (x1 : Int)), (7, (.pointer (some ⟨z4, 0, none⟩))), (8, .int .i64 (x2 : Int)), (13, .bool bi), (14, .int .i64 (x3 : Int)), (15, (.pointer (some ⟨z6, 0, none⟩))), (16, .int .i64 (x4 : Int))] rfl ⟨rfl, rfl, rfl, rfl, rfl, rfl, rfl, rfl, rfl, rfl, rfl, trivial⟩ (fun ρ0 => ?_)
  refine T.s (T.rg ?_)
  refine TO.q (q_la 6 underlying25 rfl inf25 rfl rfl rfl) (TO.qm rfl ?_)
  have hk96 := fun (w1 : World) (hI : Inv w [oI z6 25 (dC X kX), dI 37 4 3 X kX, oI z4 25 (dC Y kY), dI 37 4 3 Y kY, oI z3 25 (dC M kM), dI 37 4 3 M kM, oI z1 25 (dC a k)] w1) => (haveI := tbz hI; (show PureT _ _ _ _ _ from by
      have h9 := drC w1 a k (hI.atB ha) ba.1 ba.2.1 ba.2.2 v 
      rw [eZ, ex5] at h9
      exact h9))
  refine TO.l rfl (l_call ent26 (CallT.op hk96) rfl ?_)
  clear hk96
  rintro vr O' ⟨N, rfl, kZ, rfl, rfl⟩
  refine TO.qm rfl (TO.q (q_extract (vs := _) rfl rfl) (TO.q (q_extract (vs := _) rfl rfl) ?_))
  refine TO.l rfl (l_alloc inf25 rfl (fun z7 => ?_))
  refine TO.l rfl (l_sb (v := (dV Z kZ)) (vs := (dC Z kZ)) 0 inf25 rfl rfl rfl rfl rfl rfl (by simp [putL]) ?_)
  refine TO.qa rfl ?_
  refine TO.sub (O' := [oI z7 25 (dC Z kZ), dI 37 4 3 Z kZ, oI z6 25 (dC X kX), dI 37 4 3 X kX, oI z4 25 (dC Y kY), dI 37 4 3 Y kY, oI z3 25 (dC M kM), dI 37 4 3 M kM, oI z1 25 (dC a k)]) (by exact Sub.rf) ?_
  refine TO.nl (T.s (T.s (T.rg ?_)))
  refine TO.qm rfl (TO.q (q_neq rfl rfl) ?_)
  refine TO.nl ?_
  refine T.condP rfl (fun hc => ?_) (fun hc => ?_)
  · have hlt100 : x3 ≠ 0 := by omega
    refine T.s ?_
    have hne : vE a v ≠ 0 := by omega
    obtain ⟨hq1, hq2, hq3, hq4⟩ := drops_bad sa hv hne
    rw [ex3] at hq1
    rw [ex4, ex3] at hq2
    rw [ex5, ex3] at hq3
    rw [ebi] at hq4
    refine T.rg ?_
    refine TO.qm rfl (TO.q (QT.toB (q_eql rfl rfl) (decide_eq_true (by omega))) (TO.qm rfl ?_))
    refine TO.gd rfl rfl rfl (LT.oq rfl rfl (q_move rfl) ?_)
    refine TO.gd rfl rfl rfl (LT.oq rfl rfl (q_move rfl) ?_)
    refine TO.gd rfl rfl rfl (LT.oq rfl rfl (QT.toB (q_eql rfl rfl) (decide_eq_true (by omega))) ?_)
    refine TO.q (q_pick1 rfl rfl) (TO.qm rfl ?_)
    refine TO.gd rfl rfl rfl (LT.oq rfl rfl (q_move rfl) ?_)
    refine TO.gd rfl rfl rfl (LT.oq rfl rfl (q_move rfl) ?_)
    refine TO.gd rfl rfl rfl (LT.oq rfl rfl (QT.toB (q_eql rfl rfl) (decide_eq_true (by omega))) ?_)
    refine TO.q (q_pick1 rfl rfl) (TO.qm rfl ?_)
    refine TO.gd rfl rfl rfl (LT.oq rfl rfl (q_move rfl) ?_)
    refine TO.gd rfl rfl rfl (LT.oq rfl rfl (QT.cast (q_not rfl) (v' := .bool true) (by rw [hq4]; rfl)) ?_)
    refine TO.q (q_pick1 rfl rfl) (TO.qa rfl ?_)
    refine TO.nl (T.ret (Res.drop ?_))
    refine Res.one (.bool true) Tryz.results7 rfl ?_
    exact ⟨[], Sub.z, rfl, rfl⟩
  have hge100 : ¬ x3 ≠ 0 := by omega
  refine T.skip (T.s (T.s ?_))
  have hve : vE a v = 0 := by omega
  obtain ⟨hq1, hq2, hq3, hq4, hq5⟩ := drops_ok sa hv hve
  rw [ex4] at hq1
  rw [ebi, eX, eMD] at hq2
  rw [ebi, ex5] at hq3
  rw [ebi, ex5, eZ] at hq4
  rw [ebi, eZ, eMD] at hq5
  refine T.rg ?_
  refine TO.qm rfl (TO.q (QT.toB (q_neq rfl rfl) (decide_eq_false (by omega))) (TO.qm rfl ?_))
  refine TO.gd rfl rfl rfl (LT.oq rfl rfl (q_move rfl) ?_)
  refine TO.gd rfl rfl rfl (LT.oq rfl rfl (q_la 2 underlying25 rfl inf25 rfl rfl rfl) ?_)
  refine TO.gd rfl rfl rfl (LT.oq rfl rfl (q_la 6 underlying25 rfl inf25 rfl rfl rfl) ?_)
  have hk123 := fun (w1 : World) (hI : Inv w [oI z7 25 (dC Z kZ), dI 37 4 3 Z kZ, oI z6 25 (dC X kX), dI 37 4 3 X kX, oI z4 25 (dC Y kY), dI 37 4 3 Y kY, oI z3 25 (dC M kM), dI 37 4 3 M kM, oI z1 25 (dC a k)] w1) => (haveI := tbz hI; equalK2 w1 X M kX kM (hI.at (k := kX) (mG 3 rfl)) (hI.at (k := kM) (mG 7 rfl)) bX.1 bX.2.1 bX.2.2)
  refine TO.gd rfl rfl rfl (l_call ent19 (CallT.op hk123) rfl ?_)
  clear hk123
  rintro vr O' ⟨N, rfl, rfl, rfl⟩
  refine TO.gd rfl rfl rfl (LT.oq rfl rfl (QT.cast (q_bneq underlying4 rfl rfl) (v' := .bool false) (by rw [hq2]; simp)) ?_)
  refine TO.q (q_pick0 rfl rfl) (TO.qm rfl ?_)
  refine TO.gd rfl rfl rfl (LT.oq rfl rfl (q_move rfl) ?_)
  refine TO.gd rfl rfl rfl (LT.oq rfl rfl (q_move rfl) ?_)
  refine TO.gd rfl rfl rfl (LT.oq rfl rfl (QT.cast (q_eql rfl rfl) (v' := .bool (decide (x5 = 0))) (congrArg Value.bool (decide_eq_decide.2 (by omega)))) ?_)
  refine TO.gd rfl rfl rfl (LT.oq rfl rfl (QT.cast (q_bneq underlying4 rfl rfl) (v' := .bool false) (by rw [hq3]; simp)) ?_)
  refine TO.q (q_pick0 rfl rfl) ?_
  refine TO.nl ?_
  refine T.cond0 rfl ?_
  refine T.skip (T.s (T.s (T.rg ?_)))
  refine TO.qm rfl (TO.q (q_not rfl) ?_)
  refine TO.nl ?_
  refine T.cond rfl (fun hc => ?_) (fun hc => ?_)
  · refine T.s ?_
    obtain ⟨hw1, hw2⟩ := hq4 (by simpa using hc)
    refine T.rg ?_
    refine TO.qm rfl (TO.q (QT.toB (q_eql rfl rfl) (decide_eq_true (by omega))) (TO.qm rfl ?_))
    refine TO.gd rfl rfl rfl (LT.oq rfl rfl (q_fa underlying25 rfl inf22 rfl rfl) ?_)
    refine TO.gd rfl rfl rfl (LT.oq rfl rfl (q_lb 0 underlying22 rfl rfl rfl rfl) ?_)
    refine TO.gd rfl rfl rfl (LT.oq rfl rfl (q_len underlying22 rfl) ?_)
    refine TO.gd rfl rfl rfl (LT.oq rfl rfl (QT.toB (q_eql rfl rfl) (decide_eq_true (by omega))) ?_)
    refine TO.q (q_pick1 rfl rfl) (TO.qa rfl ?_)
    refine TO.nl (T.ret (Res.drop ?_))
    refine Res.one (.bool true) Tryz.results7 rfl ?_
    exact ⟨[], Sub.z, rfl, rfl⟩
  refine T.skip (T.s ?_)
  obtain ⟨hf1, hf2⟩ := hq5 (by simpa using hc)
  refine T.rg ?_
  refine TO.q (q_la 0 underlying25 rfl inf25 rfl rfl rfl) (TO.qm rfl ?_)
  have hk145 := fun (w1 : World) (hI : Inv w [oI z7 25 (dC Z kZ), dI 37 4 3 Z kZ, oI z6 25 (dC X kX), dI 37 4 3 X kX, oI z4 25 (dC Y kY), dI 37 4 3 Y kY, oI z3 25 (dC M kM), dI 37 4 3 M kM, oI z1 25 (dC a k)] w1) => (haveI := tbz hI; (show PureT _ _ _ _ _ from by
      have h9 := insC w1 Z kZ (hI.at (k := kZ) (mG 1 rfl)) bZ.1 bZ.2.1 bZ.2.2 v 
      rw [hf2, hf1] at h9
      exact h9))
  refine TO.l rfl (l_call ent27 (CallT.op hk145) rfl ?_)
  clear hk145
  rintro vr O' ⟨N, rfl, kf, rfl, rfl⟩
  refine TO.qm rfl (TO.q (q_extract (vs := _) rfl rfl) (TO.q (q_extract (vs := _) rfl rfl) ?_))
  refine TO.l rfl (l_alloc inf25 rfl (fun z8 => ?_))
  refine TO.l rfl (l_sb (v := (dV M kf)) (vs := (dC M kf)) 0 inf25 rfl rfl rfl rfl rfl rfl (by simp [putL]) ?_)
  refine TO.qa rfl ?_
  refine TO.nl ?_
  refine T.reset [oI z8 25 (dC M kf), dI 37 4 3 M kf, oI z7 25 (dC Z kZ), dI 37 4 3 Z kZ, oI z6 25 (dC X kX), dI 37 4 3 X kX, oI z4 25 (dC Y kY), dI 37 4 3 Y kY, oI z3 25 (dC M kM), dI 37 4 3 M kM, oI z1 25 (dC a k)] [(0, (dV a k)), (1, .int .i64 v), (2, (.pointer (some ⟨z1, 0, none⟩))), (5, (.pointer (some ⟨z3, 0, none⟩))), (6, .int .i64 (x1 : Int)), (7, (.pointer (some ⟨z4, 0, none⟩))), (8, .int .i64 (x2 : Int)), (13, .bool bi), (14, .int .i64 (x3 : Int)), (15, (.pointer (some ⟨z6, 0, none⟩))), (16, .int .i64 (x4 : Int)), (17, (.pointer (some ⟨z7, 0, none⟩))), (18, .int .i64 (x5 : Int)), (19, (.pointer (some ⟨z8, 0, none⟩))), (20, .int .i64 0)] rfl ⟨rfl, rfl, rfl, rfl, rfl, rfl, rfl, rfl, rfl, rfl, rfl, rfl, rfl, rfl, rfl, trivial⟩ (fun ρ0 => ?_)
  refine T.s (T.rg ?_)
  refine TO.qm rfl (TO.q (QT.toB (q_eql rfl rfl) (decide_eq_true rfl)) (TO.qm rfl ?_))
  refine TO.gd rfl rfl rfl (LT.oq rfl rfl (q_la 0 underlying25 rfl inf25 rfl rfl rfl) ?_)
  refine TO.gd rfl rfl rfl (LT.oq rfl rfl (q_la 8 underlying25 rfl inf25 rfl rfl rfl) ?_)
  have hk153 := fun (w1 : World) (hI : Inv w [oI z8 25 (dC M kf), dI 37 4 3 M kf, oI z7 25 (dC Z kZ), dI 37 4 3 Z kZ, oI z6 25 (dC X kX), dI 37 4 3 X kX, oI z4 25 (dC Y kY), dI 37 4 3 Y kY, oI z3 25 (dC M kM), dI 37 4 3 M kM, oI z1 25 (dC a k)] w1) => (haveI := tbz hI; equalK w1 M kf kM (hI.at (k := kf) (mG 1 rfl)) (hI.at (k := kM) (mG 9 rfl)) bM.1 bM.2.1 bM.2.2)
  refine TO.gd rfl rfl rfl (l_call ent19 (CallT.op hk153) rfl ?_)
  clear hk153
  rintro vr O' ⟨N, rfl, rfl, rfl⟩
  refine TO.q (q_pick1 rfl rfl) (TO.qa rfl ?_)
  refine TO.nl (T.ret (Res.drop ?_))
  refine Res.one (.bool true) Tryz.results7 rfl ?_
  exact ⟨[], Sub.z, rfl, rfl⟩
end Go.Proofs.YtohkmggbfcnapaaGreatDoor

