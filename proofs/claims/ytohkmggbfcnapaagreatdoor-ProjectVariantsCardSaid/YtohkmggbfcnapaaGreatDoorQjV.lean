/- Contracts of functions of the program (QjV): what each call answers and that it leaves memory as it was. Conditions: those each theorem names. -/
import Derived.Test.YtohkmggbfcnapaaGreatDoorCoreK
import Derived.Test.YtohkmggbfcnapaaGreatDoorWtK
import Derived.Test.YtohkmggbfcnapaaGreatDoorEnd
set_option linter.unusedSectionVars false
set_option linter.unusedSimpArgs false
set_option linter.unusedVariables false
set_option linter.unnecessarySimpa false
set_option maxHeartbeats 8000000
set_option maxRecDepth 20000
namespace Go.Proofs.YtohkmggbfcnapaaGreatDoor
open Go.Lx Go.RowKit _root_.Go.Proofs.Tryz
theorem variantsW (w : World) [Tab Tryz.prog w] (a : DFA) (k : DK) (ha : At w a k) (haa : a.next.length < 9223372036854775807) (haar : ∀ r ∈ a.next, r.length < 9223372036854775807) (haaf : a.final.length < 9223372036854775807) (v : Int) (wb : Option Addr) (wc : Nat) (o : List Nat) (hW : Sl w wb (byts o)) (hwb : o.length < 9223372036854775807) (hw8 : ∀ x ∈ o, x < 256) :
    PureT Tryz.prog 6 [dV a k, .int .i64 v, .slice wb o.length wc] w fun r N => r = .bool true ∧ N = [] := by
  refine CallT.enter func6 rfl ntmps6 rfl ?_
  refine T.s (T.rg ?_)
  refine TO.l rfl (l_box (v := (dV a k)) (cs := (dC a k)) rfl rfl (fun z1 => ?_))
  refine TO.qa rfl ?_
  refine TO.nl ?_
  refine T.cut (fun ρ O => Sub [oI z1 25 (dC a k)] O ∧ (¬ longB [a] = true ∧ o.length ≤ 6) ∧ Heads [(0, (dV a k)), (1, .int .i64 v), (2, (.slice wb o.length wc)), (3, (.pointer (some ⟨z1, 0, none⟩)))] ρ) ?_ ?_
  · refine T.s ?_
    refine T.rg ?_
    refine TO.q (q_la 0 underlying25 rfl inf25 rfl rfl rfl) ?_
    refine TO.l rfl (l_buildSlice (m := 1) (parts := [(0, _)]) (cs := (dC a k)) underlying56 inf25 (by decide) (by kernel_rfl) rfl (fun z2 => ?_))
    have hk19 := fun (w1 : World) (hI : Inv w [rowI (some ⟨z2, 0, none⟩) 1 25 4 (dC a k), oI z1 25 (dC a k)] w1) => (haveI := tbz hI; long1K w1 (some ⟨z2, 0, none⟩) a k (hI.slOf (mG 0 rfl)) (hI.atB ha) haa)
    refine TO.l rfl (l_call ent10 (CallT.op hk19) rfl ?_)
    clear hk19
    rintro vr O' ⟨N, rfl, rfl, rfl⟩
    by_cases hs20 : (longB [a]) = true
    · refine TO.q (QT.toB (q_move rfl) (hs20)) ?_
      refine TO.pd rfl rfl ?_
      refine TO.pd rfl rfl ?_
      refine TO.pd rfl rfl ?_
      refine TO.q (q_pick1 rfl rfl) (TO.qm rfl ?_)
      refine TO.pd rfl rfl ?_
      refine TO.pd rfl rfl ?_
      refine TO.q (q_pick1 rfl rfl) ?_
      refine TO.nl ?_
      refine T.cond1 rfl ?_
      refine T.s (T.rg ?_)
      have hk29 := fun (w1 : World) (hI : Inv w [rowI (some ⟨z2, 0, none⟩) 1 25 4 (dC a k), oI z1 25 (dC a k)] w1) => (haveI := tbz hI; awakeC w1)
      refine TO.l rfl (l_call ent11 (CallT.op hk29) rfl ?_)
      clear hk29
      rintro vr O' ⟨N, rfl, rfl, rfl⟩
      refine TO.qa rfl ?_
      refine TO.nl (T.ret (Res.drop ?_))
      refine Res.one (.bool true) Tryz.results6 rfl ?_
      exact ⟨[], Sub.z, rfl, rfl⟩
    refine TO.q (QT.toB (q_move rfl) (Bool.eq_false_iff.2 hs20)) ?_
    refine TO.gd rfl rfl rfl (LT.oq rfl rfl (q_move rfl) ?_)
    refine TO.gd rfl rfl rfl (LT.oq rfl rfl (q_len underlying46 rfl) ?_)
    refine TO.gd rfl rfl rfl (LT.oq rfl rfl (q_gtr rfl rfl) ?_)
    refine TO.q (q_pick0 rfl rfl) ?_
    by_cases hs25 : (o.length : Int) > 6
    · refine TO.q (QT.toB (q_move rfl) (decide_eq_true hs25)) ?_
      refine TO.pd rfl rfl ?_
      refine TO.pd rfl rfl ?_
      refine TO.q (q_pick1 rfl rfl) ?_
      refine TO.nl ?_
      refine T.cond1 rfl ?_
      refine T.s (T.rg ?_)
      have hk29 := fun (w1 : World) (hI : Inv w [rowI (some ⟨z2, 0, none⟩) 1 25 4 (dC a k), oI z1 25 (dC a k)] w1) => (haveI := tbz hI; awakeC w1)
      refine TO.l rfl (l_call ent11 (CallT.op hk29) rfl ?_)
      clear hk29
      rintro vr O' ⟨N, rfl, rfl, rfl⟩
      refine TO.qa rfl ?_
      refine TO.nl (T.ret (Res.drop ?_))
      refine Res.one (.bool true) Tryz.results6 rfl ?_
      exact ⟨[], Sub.z, rfl, rfl⟩
    refine TO.q (QT.toB (q_move rfl) (decide_eq_false hs25)) ?_
    have hk26 := fun (w1 : World) (hI : Inv w [rowI (some ⟨z2, 0, none⟩) 1 25 4 (dC a k), oI z1 25 (dC a k)] w1) => (haveI := tbz hI; awakeC w1)
    refine TO.gd rfl rfl rfl (l_call ent11 (CallT.op hk26) rfl ?_)
    clear hk26
    rintro vr O' ⟨N, rfl, rfl, rfl⟩
    refine TO.gd rfl rfl rfl (LT.oq rfl rfl (q_not rfl) ?_)
    refine TO.q (q_pick0 rfl rfl) ?_
    refine TO.nl ?_
    refine T.cond0 rfl ?_
    refine T.skip ?_
    exact ⟨(by exact Sub.d (.k .z)), ⟨by simp_all, by omega⟩, ⟨rfl, rfl, rfl, rfl, trivial⟩⟩
  rintro ρ O ⟨hS, ⟨hnl, hl6⟩, hH⟩
  obtain ⟨ρ0, rfl⟩ := hH.elim
  clear hH
  refine T.sub hS ?_
  refine T.s ?_
  have sa : Sh a := longB_one hnl
  have ba : Bd9 a := ⟨haa, haar, haaf⟩
  have hn8 := sa.n8
  obtain ⟨X, eX⟩ : ∃ zz, xsV a v 4096 = zz := ⟨_, rfl⟩
  obtain ⟨x1, ex1⟩ : ∃ zz, xsE a v 4096 = zz := ⟨_, rfl⟩
  obtain ⟨Y, eY⟩ : ∃ zz, alV a v 4096 = zz := ⟨_, rfl⟩
  obtain ⟨x2, ex2⟩ : ∃ zz, alE a v 4096 = zz := ⟨_, rfl⟩
  obtain ⟨Z, eZ⟩ : ∃ zz, minV (flipD a) = zz := ⟨_, rfl⟩
  obtain ⟨x3, ex3⟩ : ∃ zz, checkD a = zz := ⟨_, rfl⟩
  have bX : Bd9 X := eX ▸ bdX (fun _ => by omega)
  have bY : Bd9 Y := eY ▸ bdAl (fun _ => by omega)
  have bZ : Bd9 Z := eZ ▸ bdN
  refine T.rg ?_
  refine TO.q (q_la 0 underlying25 rfl inf25 rfl rfl rfl) (TO.qm rfl ?_)
  have hk33 := fun (w1 : World) (hI : Inv w [oI z1 25 (dC a k)] w1) => (haveI := tbz hI; (show PureT _ _ _ _ _ from by
      have h9 := exC w1 a k (hI.atB ha) v 4096 ba.1 ba.2.1 ba.2.2 (fun _ => by omega)
      rw [eX, ex1] at h9
      exact h9))
  refine TO.l rfl (l_call ent16 (CallT.op hk33) rfl ?_)
  clear hk33
  rintro vr O' ⟨N, rfl, kX, rfl, rfl⟩
  refine TO.qm rfl (TO.q (q_extract (vs := _) rfl rfl) (TO.q (q_extract (vs := _) rfl rfl) ?_))
  refine TO.l rfl (l_alloc inf25 rfl (fun z3 => ?_))
  refine TO.l rfl (l_sb (v := (dV X kX)) (vs := (dC X kX)) 0 inf25 rfl rfl rfl rfl rfl rfl (by simp [putL]) ?_)
  refine TO.qa rfl ?_
  refine TO.sub (O' := [oI z3 25 (dC X kX), dI 37 4 3 X kX, oI z1 25 (dC a k)]) (by exact Sub.rf) ?_
  refine TO.nl ?_
  refine T.reset [oI z3 25 (dC X kX), dI 37 4 3 X kX, oI z1 25 (dC a k)] [(0, (dV a k)), (1, .int .i64 v), (2, (.slice wb o.length wc)), (3, (.pointer (some ⟨z1, 0, none⟩))), (7, (.pointer (some ⟨z3, 0, none⟩))), (8, .int .i64 (x1 : Int))] rfl ⟨rfl, rfl, rfl, rfl, rfl, rfl, trivial⟩ (fun ρ0 => ?_)
  refine T.s (T.rg ?_)
  refine TO.q (q_la 2 underlying25 rfl inf25 rfl rfl rfl) (TO.qm rfl ?_)
  have hk39 := fun (w1 : World) (hI : Inv w [oI z3 25 (dC X kX), dI 37 4 3 X kX, oI z1 25 (dC a k)] w1) => (haveI := tbz hI; (show PureT _ _ _ _ _ from by
      have h9 := alC w1 a k (hI.atB ha) v 4096 ba.1 ba.2.1 ba.2.2 (fun _ => by omega)
      rw [eY, ex2] at h9
      exact h9))
  refine TO.l rfl (l_call ent17 (CallT.op hk39) rfl ?_)
  clear hk39
  rintro vr O' ⟨N, rfl, kY, rfl, rfl⟩
  refine TO.qm rfl (TO.q (q_extract (vs := _) rfl rfl) (TO.q (q_extract (vs := _) rfl rfl) ?_))
  refine TO.l rfl (l_alloc inf25 rfl (fun z4 => ?_))
  refine TO.l rfl (l_sb (v := (dV Y kY)) (vs := (dC Y kY)) 0 inf25 rfl rfl rfl rfl rfl rfl (by simp [putL]) ?_)
  refine TO.qa rfl ?_
  refine TO.sub (O' := [oI z4 25 (dC Y kY), dI 37 4 3 Y kY, oI z3 25 (dC X kX), dI 37 4 3 X kX, oI z1 25 (dC a k)]) (by exact Sub.rf) ?_
  refine TO.nl (T.s (T.rg ?_))
  refine TO.q (q_la 4 underlying25 rfl inf25 rfl rfl rfl) ?_
  have hk44 := fun (w1 : World) (hI : Inv w [oI z4 25 (dC Y kY), dI 37 4 3 Y kY, oI z3 25 (dC X kX), dI 37 4 3 X kX, oI z1 25 (dC a k)] w1) => (haveI := tbz hI; (show PureT _ _ _ _ _ from by
      have h9 := notM w1 a k (hI.atB ha) ba.1 ba.2.1 ba.2.2 
      rw [eZ, ex3] at h9
      exact h9))
  refine TO.l rfl (l_call ent31 (CallT.op hk44) rfl ?_)
  clear hk44
  rintro vr O' ⟨N, rfl, kZ, rfl, rfl⟩
  refine TO.qm rfl (TO.q (q_extract (vs := _) rfl rfl) (TO.q (q_extract (vs := _) rfl rfl) ?_))
  refine TO.l rfl (l_alloc inf25 rfl (fun z5 => ?_))
  refine TO.l rfl (l_sb (v := (dV Z kZ)) (vs := (dC Z kZ)) 0 inf25 rfl rfl rfl rfl rfl rfl (by simp [putL]) ?_)
  refine TO.qa rfl ?_
  refine TO.sub (O' := [oI z5 25 (dC Z kZ), dI 37 4 3 Z kZ, oI z4 25 (dC Y kY), dI 37 4 3 Y kY, oI z3 25 (dC X kX), dI 37 4 3 X kX, oI z1 25 (dC a k)]) (by exact Sub.rf) ?_
  refine TO.nl ?_
  refine T.reset [oI z5 25 (dC Z kZ), dI 37 4 3 Z kZ, oI z4 25 (dC Y kY), dI 37 4 3 Y kY, oI z3 25 (dC X kX), dI 37 4 3 X kX, oI z1 25 (dC a k)] [(0, (dV a k)), (1, .int .i64 v), (2, (.slice wb o.length wc)), (3, (.pointer (some ⟨z1, 0, none⟩))), (7, (.pointer (some ⟨z3, 0, none⟩))), (8, .int .i64 (x1 : Int)), (9, (.pointer (some ⟨z4, 0, none⟩))), (10, .int .i64 (x2 : Int)), (11, (.pointer (some ⟨z5, 0, none⟩))), (12, .int .i64 (x3 : Int))] rfl ⟨rfl, rfl, rfl, rfl, rfl, rfl, rfl, rfl, rfl, rfl, trivial⟩ (fun ρ0 => ?_)
  refine T.s (T.s (T.rg ?_))
  refine TO.qm rfl (TO.q (q_neq rfl rfl) ?_)
  refine TO.nl ?_
  refine T.condP rfl (fun hc => ?_) (fun hc => ?_)
  · have hlt48 : x1 ≠ 0 := by omega
    refine T.s ?_
    have hne : x1 ≠ 0 := by omega
    obtain ⟨hb1, hb2, hb3⟩ := var_bad (v := v) sa (by rw [ex1]; exact hne)
    rw [ex2, ex1] at hb1
    rw [eX] at hb2
    rw [eY] at hb3
    refine T.rg ?_
    refine TO.qm rfl (TO.qm rfl (TO.q (QT.toB (q_eql rfl rfl) (decide_eq_true (by omega))) (TO.qm rfl ?_)))
    refine TO.gd rfl rfl rfl (LT.oq rfl rfl (q_fa underlying25 rfl inf22 rfl rfl) ?_)
    refine TO.gd rfl rfl rfl (LT.oq rfl rfl (q_lb 4 underlying22 rfl rfl rfl rfl) ?_)
    refine TO.gd rfl rfl rfl (LT.oq rfl rfl (q_len underlying22 rfl) ?_)
    refine TO.gd rfl rfl rfl (LT.oq rfl rfl (q_fa underlying25 rfl inf22 rfl rfl) ?_)
    refine TO.gd rfl rfl rfl (LT.oq rfl rfl (q_lb 2 underlying22 rfl rfl rfl rfl) ?_)
    refine TO.gd rfl rfl rfl (LT.oq rfl rfl (q_len underlying22 rfl) ?_)
    refine TO.gd rfl rfl rfl (LT.oq rfl rfl (q_addN (a := X.next.length) (b := Y.next.length) rfl rfl (by omega)) ?_)
    refine TO.gd rfl rfl rfl (LT.oq rfl rfl (QT.toB (q_eql rfl rfl) (decide_eq_true (by omega))) ?_)
    refine TO.q (q_pick1 rfl rfl) (TO.qa rfl ?_)
    refine TO.nl (T.ret (Res.drop ?_))
    refine Res.one (.bool true) Tryz.results6 rfl ?_
    exact ⟨[], Sub.z, rfl, rfl⟩
  have hge48 : ¬ x1 ≠ 0 := by omega
  refine T.skip (T.s ?_)
  have hx1 : x1 = 0 := by omega
  obtain ⟨n, hvn, hn6, hx2, hx3, hall⟩ := var_ok (v := v) sa (by rw [ex1]; exact hx1)
  rw [ex2] at hx2
  rw [ex3] at hx3
  rw [eX, eY, eZ] at hall
  obtain ⟨hrX, hrY, hsm⟩ := hall o
  refine T.rg ?_
  refine TO.q (q_la 4 underlying25 rfl inf25 rfl rfl rfl) (TO.qm rfl ?_)
  have hk65 := fun (w1 : World) (hI : Inv w [oI z5 25 (dC Z kZ), dI 37 4 3 Z kZ, oI z4 25 (dC Y kY), dI 37 4 3 Y kY, oI z3 25 (dC X kX), dI 37 4 3 X kX, oI z1 25 (dC a k)] w1) => (haveI := tbz hI; (show PureT _ _ _ _ _ from by
      have h9 := acceptsA w1 X kX.nb kX.fb kX.nc kX.fc (vals kX.qs) (hI.at (k := kX) (mG 5 rfl)) bX.1 bX.2.1 bX.2.2 wb wc o (hI.sl hW) (by omega) hw8
      rw [hrX] at h9
      exact h9))
  refine TO.l rfl (l_call ent32 (CallT.op hk65) rfl ?_)
  clear hk65
  rintro vr O' ⟨N, rfl, rfl, rfl⟩
  refine TO.qm rfl (TO.q (q_extract (vs := _) rfl rfl) (TO.q (q_extract (vs := _) rfl rfl) (TO.qa rfl ?_)))
  refine TO.qa rfl ?_
  refine TO.nl (T.s (T.rg ?_))
  refine TO.q (q_la 2 underlying25 rfl inf25 rfl rfl rfl) (TO.qm rfl ?_)
  have hk71 := fun (w1 : World) (hI : Inv w [oI z5 25 (dC Z kZ), dI 37 4 3 Z kZ, oI z4 25 (dC Y kY), dI 37 4 3 Y kY, oI z3 25 (dC X kX), dI 37 4 3 X kX, oI z1 25 (dC a k)] w1) => (haveI := tbz hI; (show PureT _ _ _ _ _ from by
      have h9 := acceptsA w1 Y kY.nb kY.fb kY.nc kY.fc (vals kY.qs) (hI.at (k := kY) (mG 3 rfl)) bY.1 bY.2.1 bY.2.2 wb wc o (hI.sl hW) (by omega) hw8
      rw [hrY] at h9
      exact h9))
  refine TO.l rfl (l_call ent32 (CallT.op hk71) rfl ?_)
  clear hk71
  rintro vr O' ⟨N, rfl, rfl, rfl⟩
  refine TO.qm rfl (TO.q (q_extract (vs := _) rfl rfl) (TO.q (q_extract (vs := _) rfl rfl) (TO.qa rfl ?_)))
  refine TO.qa rfl ?_
  refine TO.nl ?_
  refine T.reset [oI z5 25 (dC Z kZ), dI 37 4 3 Z kZ, oI z4 25 (dC Y kY), dI 37 4 3 Y kY, oI z3 25 (dC X kX), dI 37 4 3 X kX, oI z1 25 (dC a k)] [(0, (dV a k)), (1, .int .i64 v), (2, (.slice wb o.length wc)), (3, (.pointer (some ⟨z1, 0, none⟩))), (7, (.pointer (some ⟨z3, 0, none⟩))), (8, .int .i64 (x1 : Int)), (9, (.pointer (some ⟨z4, 0, none⟩))), (10, .int .i64 (x2 : Int)), (11, (.pointer (some ⟨z5, 0, none⟩))), (12, .int .i64 (x3 : Int)), (13, .bool (accV X o)), (14, .int .i64 (runE a o : Int)), (15, .bool (accV Y o)), (16, .int .i64 (runE a o : Int))] rfl ⟨rfl, rfl, rfl, rfl, rfl, rfl, rfl, rfl, rfl, rfl, rfl, rfl, rfl, rfl, trivial⟩ (fun ρ0 => ?_)
  refine T.s (T.s (T.rg ?_))
  refine TO.qm rfl (TO.q (QT.toB (q_neq rfl rfl) (decide_eq_false (by omega))) (TO.qm rfl ?_))
  refine TO.gd rfl rfl rfl (LT.oq rfl rfl (q_move rfl) ?_)
  refine TO.gd rfl rfl rfl (LT.oq rfl rfl (QT.toB (q_neq rfl rfl) (decide_eq_false (by omega))) ?_)
  refine TO.q (q_pick0 rfl rfl) (TO.qm rfl ?_)
  refine TO.gd rfl rfl rfl (LT.oq rfl rfl (q_move rfl) ?_)
  refine TO.gd rfl rfl rfl (LT.oq rfl rfl (q_move rfl) ?_)
  refine TO.gd rfl rfl rfl (LT.oq rfl rfl (QT.toB (q_neq rfl rfl) (decide_eq_false (fun h => h rfl))) ?_)
  refine TO.q (q_pick0 rfl rfl) ?_
  refine TO.nl ?_
  refine T.cond0 rfl ?_
  refine T.skip (T.s (T.s (T.rg ?_)))
  refine TO.qm rfl (TO.q (q_neq rfl rfl) ?_)
  refine TO.nl ?_
  refine T.condP rfl (fun hc => ?_) (fun hc => ?_)
  · have hlt86 : runE a o ≠ 0 := by omega
    refine T.s (T.rg ?_)
    refine TO.qa rfl ?_
    refine TO.nl (T.ret (Res.drop ?_))
    refine Res.one (.bool true) Tryz.results6 rfl ?_
    exact ⟨[], Sub.z, rfl, rfl⟩
  have hge86 : ¬ runE a o ≠ 0 := by omega
  refine T.skip (T.s ?_)
  have hr0 : runE a o = 0 := by omega
  obtain ⟨hs1, hs2⟩ := hsm hr0
  refine T.rg ?_
  refine TO.qm rfl (TO.q (q_la 6 underlying25 rfl inf25 rfl rfl rfl) (TO.qm rfl (TO.qm rfl ?_)))
  have hk91 := fun (w1 : World) (hI : Inv w [oI z5 25 (dC Z kZ), dI 37 4 3 Z kZ, oI z4 25 (dC Y kY), dI 37 4 3 Y kY, oI z3 25 (dC X kX), dI 37 4 3 X kX, oI z1 25 (dC a k)] w1) => (haveI := tbz hI; (show PureT _ _ _ _ _ from by
      have h9 := someC n hn6 a k ba.1 ba.2.1 ba.2.2 o.length w1 (hI.atB ha) wb wc o (hI.sl hW) (by omega) hw8 0 (by omega)
      rw [← hvn] at h9
      exact h9))
  refine TO.l rfl (l_call ent33 (CallT.op hk91) rfl ?_)
  clear hk91
  rintro vr O' ⟨N, rfl, rfl, rfl⟩
  refine TO.q (QT.cast (q_beql underlying4 rfl rfl) (v' := .bool true) (by rw [hs1]; simp)) (TO.qm rfl ?_)
  refine TO.gd rfl rfl rfl (LT.oq rfl rfl (q_move rfl) ?_)
  refine TO.gd rfl rfl rfl (LT.oq rfl rfl (q_la 0 underlying25 rfl inf25 rfl rfl rfl) ?_)
  refine TO.gd rfl rfl rfl (LT.oq rfl rfl (q_move rfl) ?_)
  refine TO.gd rfl rfl rfl (LT.oq rfl rfl (q_move rfl) ?_)
  have hk98 := fun (w1 : World) (hI : Inv w [oI z5 25 (dC Z kZ), dI 37 4 3 Z kZ, oI z4 25 (dC Y kY), dI 37 4 3 Y kY, oI z3 25 (dC X kX), dI 37 4 3 X kX, oI z1 25 (dC a k)] w1) => (haveI := tbz hI; (show PureT _ _ _ _ _ from by
      have h9 := someC n hn6 Z kZ bZ.1 bZ.2.1 bZ.2.2 o.length w1 (hI.at (k := kZ) (mG 1 rfl)) wb wc o (hI.sl hW) (by omega) hw8 0 (by omega)
      rw [← hvn] at h9
      exact h9))
  refine TO.gd rfl rfl rfl (l_call ent33 (CallT.op hk98) rfl ?_)
  clear hk98
  rintro vr O' ⟨N, rfl, rfl, rfl⟩
  refine TO.gd rfl rfl rfl (LT.oq rfl rfl (q_not rfl) ?_)
  refine TO.gd rfl rfl rfl (LT.oq rfl rfl (QT.cast (q_beql underlying4 rfl rfl) (v' := .bool true) (by rw [hs2]; simp)) ?_)
  refine TO.q (q_pick1 rfl rfl) (TO.qa rfl ?_)
  refine TO.nl (T.ret (Res.drop ?_))
  refine Res.one (.bool true) Tryz.results6 rfl ?_
  exact ⟨[], Sub.z, rfl, rfl⟩
end Go.Proofs.YtohkmggbfcnapaaGreatDoor

