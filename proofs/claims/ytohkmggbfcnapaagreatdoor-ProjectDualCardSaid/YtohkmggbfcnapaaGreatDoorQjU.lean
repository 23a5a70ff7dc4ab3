/- Contracts of functions of the program (QjU): what each call answers and that it leaves memory as it was. Conditions: those each theorem names. -/
import Derived.Test.YtohkmggbfcnapaaGreatDoorCoreK
import Derived.Test.YtohkmggbfcnapaaGreatDoorBol7
import Derived.Test.YtohkmggbfcnapaaGreatDoorEnd
import Derived.Test.YtohkmggbfcnapaaGreatDoorShelfS
set_option linter.unusedSectionVars false
set_option linter.unusedSimpArgs false
set_option linter.unusedVariables false
set_option linter.unnecessarySimpa false
set_option maxHeartbeats 8000000
set_option maxRecDepth 20000
namespace Go.Proofs.YtohkmggbfcnapaaGreatDoor
open Go.Lx Go.RowKit _root_.Go.Proofs.Tryz
theorem dualW (w : World) [Tab Tryz.prog w] (a : DFA) (k : DK) (ha : At w a k) (haa : a.next.length < 9223372036854775807) (haar : ∀ r ∈ a.next, r.length < 9223372036854775807) (haaf : a.final.length < 9223372036854775807) (v u : Int) :
    PureT Tryz.prog 9 [dV a k, .int .i64 v, .int .i64 u] w fun r N => r = .bool true ∧ N = [] := by
  refine CallT.enter func9 rfl ntmps9 rfl ?_
  refine T.s (T.rg ?_)
  refine TO.l rfl (l_box (v := (dV a k)) (cs := (dC a k)) rfl rfl (fun z1 => ?_))
  refine TO.qa rfl ?_
  refine TO.nl ?_
  refine T.cut (fun ρ O => Sub [oI z1 25 (dC a k)] O ∧ (¬ longB [a] = true ∧ a.next.length ≤ 6) ∧ Heads [(0, (dV a k)), (1, .int .i64 v), (2, .int .i64 u), (3, (.pointer (some ⟨z1, 0, none⟩)))] ρ) ?_ ?_
  · refine T.s ?_
    refine T.rg ?_
    refine TO.q (q_la 0 underlying25 rfl inf25 rfl rfl rfl) ?_
    refine TO.l rfl (l_buildSlice (m := 1) (parts := [(0, _)]) (cs := (dC a k)) underlying56 inf25 (by decide) (by kernel_rfl) rfl (fun z2 => ?_))
    have hk37 := fun (w1 : World) (hI : Inv w [rowI (some ⟨z2, 0, none⟩) 1 25 4 (dC a k), oI z1 25 (dC a k)] w1) => (haveI := tbz hI; long1K w1 (some ⟨z2, 0, none⟩) a k (hI.slOf (mG 0 rfl)) (hI.atB ha) haa)
    refine TO.l rfl (l_call ent10 (CallT.op hk37) rfl ?_)
    clear hk37
    rintro vr O' ⟨N, rfl, rfl, rfl⟩
    by_cases hs38 : (longB [a]) = true
    · refine TO.q (QT.toB (q_move rfl) (hs38)) ?_
      refine TO.pd rfl rfl ?_
      refine TO.pd rfl rfl ?_
      refine TO.pd rfl rfl ?_
      refine TO.pd rfl rfl ?_
      refine TO.q (q_pick1 rfl rfl) (TO.qm rfl ?_)
      refine TO.pd rfl rfl ?_
      refine TO.pd rfl rfl ?_
      refine TO.q (q_pick1 rfl rfl) ?_
      refine TO.nl ?_
      refine T.cond1 rfl ?_
      refine T.s (T.rg ?_)
      have hk48 := fun (w1 : World) (hI : Inv w [rowI (some ⟨z2, 0, none⟩) 1 25 4 (dC a k), oI z1 25 (dC a k)] w1) => (haveI := tbz hI; awakeC w1)
      refine TO.l rfl (l_call ent11 (CallT.op hk48) rfl ?_)
      clear hk48
      rintro vr O' ⟨N, rfl, rfl, rfl⟩
      refine TO.qa rfl ?_
      refine TO.nl (T.ret (Res.drop ?_))
      refine Res.one (.bool true) Tryz.results9 rfl ?_
      exact ⟨[], Sub.z, rfl, rfl⟩
    refine TO.q (QT.toB (q_move rfl) (Bool.eq_false_iff.2 hs38)) ?_
    refine TO.gd rfl rfl rfl (LT.oq rfl rfl (q_fa underlying25 rfl inf22 rfl rfl) ?_)
    refine TO.gd rfl rfl rfl (LT.oq rfl rfl (q_lb 1 underlying22 rfl rfl rfl rfl) ?_)
    refine TO.gd rfl rfl rfl (LT.oq rfl rfl (q_len underlying22 rfl) ?_)
    refine TO.gd rfl rfl rfl (LT.oq rfl rfl (q_gtr rfl rfl) ?_)
    refine TO.q (q_pick0 rfl rfl) ?_
    by_cases hs44 : (a.next.length : Int) > 6
    · refine TO.q (QT.toB (q_move rfl) (decide_eq_true hs44)) ?_
      refine TO.pd rfl rfl ?_
      refine TO.pd rfl rfl ?_
      refine TO.q (q_pick1 rfl rfl) ?_
      refine TO.nl ?_
      refine T.cond1 rfl ?_
      refine T.s (T.rg ?_)
      have hk48 := fun (w1 : World) (hI : Inv w [rowI (some ⟨z2, 0, none⟩) 1 25 4 (dC a k), oI z1 25 (dC a k)] w1) => (haveI := tbz hI; awakeC w1)
      refine TO.l rfl (l_call ent11 (CallT.op hk48) rfl ?_)
      clear hk48
      rintro vr O' ⟨N, rfl, rfl, rfl⟩
      refine TO.qa rfl ?_
      refine TO.nl (T.ret (Res.drop ?_))
      refine Res.one (.bool true) Tryz.results9 rfl ?_
      exact ⟨[], Sub.z, rfl, rfl⟩
    refine TO.q (QT.toB (q_move rfl) (decide_eq_false hs44)) ?_
    have hk45 := fun (w1 : World) (hI : Inv w [rowI (some ⟨z2, 0, none⟩) 1 25 4 (dC a k), oI z1 25 (dC a k)] w1) => (haveI := tbz hI; awakeC w1)
    refine TO.gd rfl rfl rfl (l_call ent11 (CallT.op hk45) rfl ?_)
    clear hk45
    rintro vr O' ⟨N, rfl, rfl, rfl⟩
    refine TO.gd rfl rfl rfl (LT.oq rfl rfl (q_not rfl) ?_)
    refine TO.q (q_pick0 rfl rfl) ?_
    refine TO.nl ?_
    refine T.cond0 rfl ?_
    refine T.skip ?_
    exact ⟨(by exact Sub.d (.k .z)), ⟨by simp_all, by omega⟩, ⟨rfl, rfl, rfl, rfl, trivial⟩⟩
  rintro ρ O ⟨hS, ⟨hnl, hn6⟩, hH⟩
  obtain ⟨ρ0, rfl⟩ := hH.elim
  clear hH
  refine T.sub hS ?_
  refine T.s ?_
  have sa : Sh a := longB_one hnl
  have ba : Bd9 a := ⟨haa, haar, haaf⟩
  have hn8 := sa.n8
  obtain ⟨A, eA⟩ : ∃ zz, xsV a v 4096 = zz := ⟨_, rfl⟩
  obtain ⟨x1, ex1⟩ : ∃ zz, xsE a v 4096 = zz := ⟨_, rfl⟩
  obtain ⟨B, eB⟩ : ∃ zz, alV a v 4096 = zz := ⟨_, rfl⟩
  obtain ⟨x2, ex2⟩ : ∃ zz, alE a v 4096 = zz := ⟨_, rfl⟩
  obtain ⟨C, eC⟩ : ∃ zz, xsV a u 4096 = zz := ⟨_, rfl⟩
  obtain ⟨x3, ex3⟩ : ∃ zz, xsE a u 4096 = zz := ⟨_, rfl⟩
  have bA : Bd9 A := eA ▸ bdX (fun _ => by omega)
  have bB : Bd9 B := eB ▸ bdAl (fun _ => by omega)
  have bC : Bd9 C := eC ▸ bdX (fun _ => by omega)
  refine T.rg ?_
  refine TO.q (q_la 0 underlying25 rfl inf25 rfl rfl rfl) (TO.qm rfl ?_)
  have hk52 := fun (w1 : World) (hI : Inv w [oI z1 25 (dC a k)] w1) => (haveI := tbz hI; (show PureT _ _ _ _ _ from by
      have h9 := exC w1 a k (hI.atB ha) v 4096 ba.1 ba.2.1 ba.2.2 (fun _ => by omega)
      rw [eA, ex1] at h9
      exact h9))
  refine TO.l rfl (l_call ent16 (CallT.op hk52) rfl ?_)
  clear hk52
  rintro vr O' ⟨N, rfl, kA, rfl, rfl⟩
  refine TO.qm rfl (TO.q (q_extract (vs := _) rfl rfl) (TO.q (q_extract (vs := _) rfl rfl) ?_))
  refine TO.l rfl (l_alloc inf25 rfl (fun z3 => ?_))
  refine TO.l rfl (l_sb (v := (dV A kA)) (vs := (dC A kA)) 0 inf25 rfl rfl rfl rfl rfl rfl (by simp [putL]) ?_)
  refine TO.qa rfl ?_
  refine TO.sub (O' := [oI z3 25 (dC A kA), dI 37 4 3 A kA, oI z1 25 (dC a k)]) (by exact Sub.rf) ?_
  refine TO.nl ?_
  refine T.reset [oI z3 25 (dC A kA), dI 37 4 3 A kA, oI z1 25 (dC a k)] [(0, (dV a k)), (1, .int .i64 v), (2, .int .i64 u), (3, (.pointer (some ⟨z1, 0, none⟩))), (7, (.pointer (some ⟨z3, 0, none⟩))), (8, .int .i64 (x1 : Int))] rfl ⟨rfl, rfl, rfl, rfl, rfl, rfl, trivial⟩ (fun ρ0 => ?_)
  refine T.s (T.rg ?_)
  refine TO.q (q_la 2 underlying25 rfl inf25 rfl rfl rfl) (TO.qm rfl ?_)
  have hk58 := fun (w1 : World) (hI : Inv w [oI z3 25 (dC A kA), dI 37 4 3 A kA, oI z1 25 (dC a k)] w1) => (haveI := tbz hI; (show PureT _ _ _ _ _ from by
      have h9 := alC w1 a k (hI.atB ha) v 4096 ba.1 ba.2.1 ba.2.2 (fun _ => by omega)
      rw [eB, ex2] at h9
      exact h9))
  refine TO.l rfl (l_call ent17 (CallT.op hk58) rfl ?_)
  clear hk58
  rintro vr O' ⟨N, rfl, kB, rfl, rfl⟩
  refine TO.qm rfl (TO.q (q_extract (vs := _) rfl rfl) (TO.q (q_extract (vs := _) rfl rfl) ?_))
  refine TO.l rfl (l_alloc inf25 rfl (fun z4 => ?_))
  refine TO.l rfl (l_sb (v := (dV B kB)) (vs := (dC B kB)) 0 inf25 rfl rfl rfl rfl rfl rfl (by simp [putL]) ?_)
  refine TO.qa rfl ?_
  refine TO.sub (O' := [oI z4 25 (dC B kB), dI 37 4 3 B kB, oI z3 25 (dC A kA), dI 37 4 3 A kA, oI z1 25 (dC a k)]) (by exact Sub.rf) ?_
  refine TO.nl (T.s (T.s (T.rg ?_)))
  refine TO.qm rfl (TO.q (q_neq rfl rfl) ?_)
  refine TO.nl ?_
  refine T.condP rfl (fun hc => ?_) (fun hc => ?_)
  · have hlt62 : x1 ≠ 0 := by omega
    refine T.s ?_
    have hxx := dual_bad (v := v) sa (by omega)
    rw [ex1, ex2] at hxx
    refine T.rg ?_
    refine TO.qm rfl (TO.qm rfl (TO.q (QT.toB (q_eql rfl rfl) (decide_eq_true (by omega))) (TO.qa rfl ?_)))
    refine TO.nl (T.ret (Res.drop ?_))
    refine Res.one (.bool true) Tryz.results9 rfl ?_
    exact ⟨[], Sub.z, rfl, rfl⟩
  have hge62 : ¬ x1 ≠ 0 := by omega
  refine T.skip (T.s ?_)
  obtain ⟨N9, eN9⟩ : ∃ zz, minD (flipD a) = zz := ⟨_, rfl⟩
  have eN := eN9
  have hD := dual_ok (u := u) hn6 (show xsE a v 4096 = 0 by omega)
  rw [eA, eB, eN9] at hD
  obtain ⟨M, eM⟩ : ∃ m, xsV N9 v 4096 = m := ⟨_, rfl⟩
  rw [eM] at hD
  have hx2 := hD.eB
  rw [ex2] at hx2
  have bN : Bd9 N9 := bdVal hD.vN
  obtain ⟨P, eP⟩ : ∃ m, xsV C v 4096 = m := ⟨_, rfl⟩
  obtain ⟨x4, ex4⟩ : ∃ m, xsE C v 4096 = m := ⟨_, rfl⟩
  obtain ⟨Q, eQ⟩ : ∃ m, xsV A u 4096 = m := ⟨_, rfl⟩
  obtain ⟨x5, ex5⟩ : ∃ m, xsE A u 4096 = m := ⟨_, rfl⟩
  refine T.rg ?_
  refine TO.q (q_la 4 underlying25 rfl inf25 rfl rfl rfl) ?_
  have hk68 := fun (w1 : World) (hI : Inv w [oI z4 25 (dC B kB), dI 37 4 3 B kB, oI z3 25 (dC A kA), dI 37 4 3 A kA, oI z1 25 (dC a k)] w1) => (haveI := tbz hI; notMK w1 a k (hI.atB ha) hD.va eN)
  refine TO.l rfl (l_call ent31 (CallT.op hk68) rfl ?_)
  clear hk68
  rintro vr O' ⟨N, rfl, kN, rfl, rfl⟩
  refine TO.qm rfl (TO.q (q_extract (vs := _) rfl rfl) (TO.q (q_extract (vs := _) rfl rfl) ?_))
  refine TO.l rfl (l_alloc inf25 rfl (fun z5 => ?_))
  refine TO.l rfl (l_sb (v := (dV N9 kN)) (vs := (dC N9 kN)) 0 inf25 rfl rfl rfl rfl rfl rfl (by simp [putL]) ?_)
  refine TO.qa rfl ?_
  refine TO.sub (O' := [oI z5 25 (dC N9 kN), dI 37 4 3 N9 kN, oI z4 25 (dC B kB), dI 37 4 3 B kB, oI z3 25 (dC A kA), dI 37 4 3 A kA, oI z1 25 (dC a k)]) (by exact Sub.rf) ?_
  refine TO.nl ?_
  refine T.reset [oI z5 25 (dC N9 kN), dI 37 4 3 N9 kN, oI z4 25 (dC B kB), dI 37 4 3 B kB, oI z3 25 (dC A kA), dI 37 4 3 A kA, oI z1 25 (dC a k)] [(0, (dV a k)), (1, .int .i64 v), (2, .int .i64 u), (3, (.pointer (some ⟨z1, 0, none⟩))), (7, (.pointer (some ⟨z3, 0, none⟩))), (8, .int .i64 (x1 : Int)), (9, (.pointer (some ⟨z4, 0, none⟩))), (10, .int .i64 (x2 : Int)), (11, (.pointer (some ⟨z5, 0, none⟩))), (12, .int .i64 0)] rfl ⟨rfl, rfl, rfl, rfl, rfl, rfl, rfl, rfl, rfl, rfl, trivial⟩ (fun ρ0 => ?_)
  refine T.s (T.rg ?_)
  refine TO.q (q_la 0 underlying25 rfl inf25 rfl rfl rfl) (TO.qm rfl ?_)
  have hk74 := fun (w1 : World) (hI : Inv w [oI z5 25 (dC N9 kN), dI 37 4 3 N9 kN, oI z4 25 (dC B kB), dI 37 4 3 B kB, oI z3 25 (dC A kA), dI 37 4 3 A kA, oI z1 25 (dC a k)] w1) => (haveI := tbz hI; (show PureT _ _ _ _ _ from by
      have h9 := exC w1 N9 kN (hI.at (k := kN) (mG 1 rfl)) v 4096 bN.1 bN.2.1 bN.2.2 (fun _ => hD.lN)
      rw [eM, hD.eM] at h9
      exact h9))
  refine TO.l rfl (l_call ent16 (CallT.op hk74) rfl ?_)
  clear hk74
  rintro vr O' ⟨N, rfl, kM, rfl, rfl⟩
  refine TO.qm rfl (TO.q (q_extract (vs := _) rfl rfl) (TO.q (q_extract (vs := _) rfl rfl) ?_))
  refine TO.l rfl (l_alloc inf25 rfl (fun z6 => ?_))
  refine TO.l rfl (l_sb (v := (dV M kM)) (vs := (dC M kM)) 0 inf25 rfl rfl rfl rfl rfl rfl (by simp [putL]) ?_)
  refine TO.qa rfl ?_
  refine TO.sub (O' := [oI z6 25 (dC M kM), dI 37 4 3 M kM, oI z5 25 (dC N9 kN), dI 37 4 3 N9 kN, oI z4 25 (dC B kB), dI 37 4 3 B kB, oI z3 25 (dC A kA), dI 37 4 3 A kA, oI z1 25 (dC a k)]) (by exact Sub.rf) ?_
  refine TO.nl (T.s (T.rg ?_))
  refine TO.q (q_la 0 underlying25 rfl inf25 rfl rfl rfl) ?_
  have hk79 := fun (w1 : World) (hI : Inv w [oI z6 25 (dC M kM), dI 37 4 3 M kM, oI z5 25 (dC N9 kN), dI 37 4 3 N9 kN, oI z4 25 (dC B kB), dI 37 4 3 B kB, oI z3 25 (dC A kA), dI 37 4 3 A kA, oI z1 25 (dC a k)] w1) => (haveI := tbz hI; notMK w1 M kM (hI.at (k := kM) (mG 1 rfl)) hD.vM hD.nM)
  refine TO.l rfl (l_call ent31 (CallT.op hk79) rfl ?_)
  clear hk79
  rintro vr O' ⟨N, rfl, kb, rfl, rfl⟩
  refine TO.qm rfl (TO.q (q_extract (vs := _) rfl rfl) (TO.q (q_extract (vs := _) rfl rfl) ?_))
  refine TO.l rfl (l_alloc inf25 rfl (fun z7 => ?_))
  refine TO.l rfl (l_sb (v := (dV B kb)) (vs := (dC B kb)) 0 inf25 rfl rfl rfl rfl rfl rfl (by simp [putL]) ?_)
  refine TO.qa rfl ?_
  refine TO.sub (O' := [oI z7 25 (dC B kb), dI 37 4 3 B kb, oI z6 25 (dC M kM), dI 37 4 3 M kM, oI z5 25 (dC N9 kN), dI 37 4 3 N9 kN, oI z4 25 (dC B kB), dI 37 4 3 B kB, oI z3 25 (dC A kA), dI 37 4 3 A kA, oI z1 25 (dC a k)]) (by exact Sub.rf) ?_
  refine TO.nl ?_
  refine T.reset [oI z7 25 (dC B kb), dI 37 4 3 B kb, oI z6 25 (dC M kM), dI 37 4 3 M kM, oI z5 25 (dC N9 kN), dI 37 4 3 N9 kN, oI z4 25 (dC B kB), dI 37 4 3 B kB, oI z3 25 (dC A kA), dI 37 4 3 A kA, oI z1 25 (dC a k)] [(0, (dV a k)), (1, .int .i64 v), (2, .int .i64 u), (3, (.pointer (some ⟨z1, 0, none⟩))), (7, (.pointer (some ⟨z3, 0, none⟩))), (8, .int .i64 (x1 : Int)), (9, (.pointer (some ⟨z4, 0, none⟩))), (10, .int .i64 (x2 : Int)), (11, (.pointer (some ⟨z5, 0, none⟩))), (12, .int .i64 0), (13, (.pointer (some ⟨z6, 0, none⟩))), (14, .int .i64 0), (15, (.pointer (some ⟨z7, 0, none⟩))), (16, .int .i64 0)] rfl ⟨rfl, rfl, rfl, rfl, rfl, rfl, rfl, rfl, rfl, rfl, rfl, rfl, rfl, rfl, trivial⟩ (fun ρ0 => ?_)
  refine T.s (T.rg ?_)
  refine TO.q (q_la 8 underlying25 rfl inf25 rfl rfl rfl) (TO.qm rfl ?_)
  have hk85 := fun (w1 : World) (hI : Inv w [oI z7 25 (dC B kb), dI 37 4 3 B kb, oI z6 25 (dC M kM), dI 37 4 3 M kM, oI z5 25 (dC N9 kN), dI 37 4 3 N9 kN, oI z4 25 (dC B kB), dI 37 4 3 B kB, oI z3 25 (dC A kA), dI 37 4 3 A kA, oI z1 25 (dC a k)] w1) => (haveI := tbz hI; (show PureT _ _ _ _ _ from by
      have h9 := exC w1 A kA (hI.at (k := kA) (mG 9 rfl)) v 4096 bA.1 bA.2.1 bA.2.2 (fun _ => hD.lA)
      rw [hD.tw, hD.eT] at h9
      exact h9))
  refine TO.l rfl (l_call ent16 (CallT.op hk85) rfl ?_)
  clear hk85
  rintro vr O' ⟨N, rfl, kt, rfl, rfl⟩
  refine TO.qm rfl (TO.q (q_extract (vs := _) rfl rfl) (TO.q (q_extract (vs := _) rfl rfl) ?_))
  refine TO.l rfl (l_alloc inf25 rfl (fun z8 => ?_))
  refine TO.l rfl (l_sb (v := (dV A kt)) (vs := (dC A kt)) 0 inf25 rfl rfl rfl rfl rfl rfl (by simp [putL]) ?_)
  refine TO.qa rfl ?_
  refine TO.sub (O' := [oI z8 25 (dC A kt), dI 37 4 3 A kt, oI z7 25 (dC B kb), dI 37 4 3 B kb, oI z6 25 (dC M kM), dI 37 4 3 M kM, oI z5 25 (dC N9 kN), dI 37 4 3 N9 kN, oI z4 25 (dC B kB), dI 37 4 3 B kB, oI z3 25 (dC A kA), dI 37 4 3 A kA, oI z1 25 (dC a k)]) (by exact Sub.rf) ?_
  refine TO.nl (T.s (T.rg ?_))
  refine TO.q (q_la 10 underlying25 rfl inf25 rfl rfl rfl) (TO.qm rfl ?_)
  have hk91 := fun (w1 : World) (hI : Inv w [oI z8 25 (dC A kt), dI 37 4 3 A kt, oI z7 25 (dC B kb), dI 37 4 3 B kb, oI z6 25 (dC M kM), dI 37 4 3 M kM, oI z5 25 (dC N9 kN), dI 37 4 3 N9 kN, oI z4 25 (dC B kB), dI 37 4 3 B kB, oI z3 25 (dC A kA), dI 37 4 3 A kA, oI z1 25 (dC a k)] w1) => (haveI := tbz hI; (show PureT _ _ _ _ _ from by
      have h9 := ignC w1 A kA (hI.at (k := kA) (mG 11 rfl)) bA.1 bA.2.1 bA.2.2 v
      rw [hD.iA, hD.gA] at h9
      exact h9))
  refine TO.l rfl (l_call ent18 (CallT.op hk91) rfl ?_)
  clear hk91
  rintro vr O' ⟨N, rfl, rfl, rfl⟩
  refine TO.qm rfl (TO.q (q_extract (vs := _) rfl rfl) (TO.q (q_extract (vs := _) rfl rfl) (TO.qa rfl ?_)))
  refine TO.qa rfl ?_
  refine TO.nl ?_
  refine T.reset [oI z8 25 (dC A kt), dI 37 4 3 A kt, oI z7 25 (dC B kb), dI 37 4 3 B kb, oI z6 25 (dC M kM), dI 37 4 3 M kM, oI z5 25 (dC N9 kN), dI 37 4 3 N9 kN, oI z4 25 (dC B kB), dI 37 4 3 B kB, oI z3 25 (dC A kA), dI 37 4 3 A kA, oI z1 25 (dC a k)] [(0, (dV a k)), (1, .int .i64 v), (2, .int .i64 u), (3, (.pointer (some ⟨z1, 0, none⟩))), (7, (.pointer (some ⟨z3, 0, none⟩))), (8, .int .i64 (x1 : Int)), (9, (.pointer (some ⟨z4, 0, none⟩))), (10, .int .i64 (x2 : Int)), (11, (.pointer (some ⟨z5, 0, none⟩))), (12, .int .i64 0), (13, (.pointer (some ⟨z6, 0, none⟩))), (14, .int .i64 0), (15, (.pointer (some ⟨z7, 0, none⟩))), (16, .int .i64 0), (17, (.pointer (some ⟨z8, 0, none⟩))), (18, .int .i64 0), (19, .bool true), (20, .int .i64 0)] rfl ⟨rfl, rfl, rfl, rfl, rfl, rfl, rfl, rfl, rfl, rfl, rfl, rfl, rfl, rfl, rfl, rfl, rfl, rfl, trivial⟩ (fun ρ0 => ?_)
  refine T.s (T.rg ?_)
  refine TO.q (q_la 8 underlying25 rfl inf25 rfl rfl rfl) (TO.qm rfl ?_)
  have hk97 := fun (w1 : World) (hI : Inv w [oI z8 25 (dC A kt), dI 37 4 3 A kt, oI z7 25 (dC B kb), dI 37 4 3 B kb, oI z6 25 (dC M kM), dI 37 4 3 M kM, oI z5 25 (dC N9 kN), dI 37 4 3 N9 kN, oI z4 25 (dC B kB), dI 37 4 3 B kB, oI z3 25 (dC A kA), dI 37 4 3 A kA, oI z1 25 (dC a k)] w1) => (haveI := tbz hI; (show PureT _ _ _ _ _ from by
      have h9 := ignC w1 B kB (hI.at (k := kB) (mG 9 rfl)) bB.1 bB.2.1 bB.2.2 v
      rw [hD.iB, hD.gB] at h9
      exact h9))
  refine TO.l rfl (l_call ent18 (CallT.op hk97) rfl ?_)
  clear hk97
  rintro vr O' ⟨N, rfl, rfl, rfl⟩
  refine TO.qm rfl (TO.q (q_extract (vs := _) rfl rfl) (TO.q (q_extract (vs := _) rfl rfl) (TO.qa rfl ?_)))
  refine TO.qa rfl ?_
  refine TO.nl (T.s (T.rg ?_))
  refine TO.q (q_la 12 underlying25 rfl inf25 rfl rfl rfl) (TO.q (q_la 10 underlying25 rfl inf25 rfl rfl rfl) ?_)
  have hk103 := fun (w1 : World) (hI : Inv w [oI z8 25 (dC A kt), dI 37 4 3 A kt, oI z7 25 (dC B kb), dI 37 4 3 B kb, oI z6 25 (dC M kM), dI 37 4 3 M kM, oI z5 25 (dC N9 kN), dI 37 4 3 N9 kN, oI z4 25 (dC B kB), dI 37 4 3 B kB, oI z3 25 (dC A kA), dI 37 4 3 A kA, oI z1 25 (dC a k)] w1) => (haveI := tbz hI; inclOk w1 a A k kA (hI.atB ha) (hI.at (k := kA) (mG 11 rfl)) ba.1 ba.2.1 ba.2.2 bA.1 bA.2.1 bA.2.2 hD.up.1 hD.up.2.1 hD.up.2.2.1 hD.up.2.2.2.1)
  refine TO.l rfl (l_call ent36 (CallT.op hk103) rfl ?_)
  clear hk103
  rintro vr O' ⟨N, rfl, res1, wb1, wc1, hi1, rfl, rfl⟩
  obtain rfl := hD.up.2.2.2.2 res1 ((InclA.ok hD.up.1).1 hi1)
  refine TO.qm rfl (TO.q (q_extract (vs := _) rfl rfl) (TO.q (q_extract (vs := _) rfl rfl) (TO.q (q_extract (vs := _) rfl rfl) ?_)))
  refine TO.qa rfl (TO.qa rfl (TO.qa rfl ?_))
  refine TO.sub (O' := [oI z8 25 (dC A kt), dI 37 4 3 A kt, oI z7 25 (dC B kb), dI 37 4 3 B kb, dI 37 4 3 M kM, dI 37 4 3 N9 kN, oI z4 25 (dC B kB), dI 37 4 3 B kB, oI z3 25 (dC A kA), dI 37 4 3 A kA, oI z1 25 (dC a k)]) (by exact Sub.d (.k (.k (.k (.k (.d (.k (.d (.k (.k (.k (.k (.k (.k .z)))))))))))))) ?_
  refine TO.nl ?_
  refine T.reset [oI z8 25 (dC A kt), dI 37 4 3 A kt, oI z7 25 (dC B kb), dI 37 4 3 B kb, dI 37 4 3 M kM, dI 37 4 3 N9 kN, oI z4 25 (dC B kB), dI 37 4 3 B kB, oI z3 25 (dC A kA), dI 37 4 3 A kA, oI z1 25 (dC a k)] [(0, (dV a k)), (1, .int .i64 v), (2, .int .i64 u), (3, (.pointer (some ⟨z1, 0, none⟩))), (7, (.pointer (some ⟨z3, 0, none⟩))), (8, .int .i64 (x1 : Int)), (9, (.pointer (some ⟨z4, 0, none⟩))), (10, .int .i64 (x2 : Int)), (11, (.pointer (some ⟨z5, 0, none⟩))), (12, .int .i64 0), (13, (.pointer (some ⟨z6, 0, none⟩))), (14, .int .i64 0), (15, (.pointer (some ⟨z7, 0, none⟩))), (16, .int .i64 0), (17, (.pointer (some ⟨z8, 0, none⟩))), (18, .int .i64 0), (19, .bool true), (20, .int .i64 0), (21, .bool true), (22, .int .i64 0), (24, .bool true), (25, .int .i64 0)] rfl ⟨rfl, rfl, rfl, rfl, rfl, rfl, rfl, rfl, rfl, rfl, rfl, rfl, rfl, rfl, rfl, rfl, rfl, rfl, rfl, rfl, rfl, rfl, trivial⟩ (fun ρ0 => ?_)
  refine T.s (T.rg ?_)
  refine TO.q (q_la 6 underlying25 rfl inf25 rfl rfl rfl) (TO.q (q_la 10 underlying25 rfl inf25 rfl rfl rfl) ?_)
  have hk110 := fun (w1 : World) (hI : Inv w [oI z8 25 (dC A kt), dI 37 4 3 A kt, oI z7 25 (dC B kb), dI 37 4 3 B kb, dI 37 4 3 M kM, dI 37 4 3 N9 kN, oI z4 25 (dC B kB), dI 37 4 3 B kB, oI z3 25 (dC A kA), dI 37 4 3 A kA, oI z1 25 (dC a k)] w1) => (haveI := tbz hI; inclOk w1 B a kB k (hI.at (k := kB) (mG 7 rfl)) (hI.atB ha) bB.1 bB.2.1 bB.2.2 ba.1 ba.2.1 ba.2.2 hD.dn.1 hD.dn.2.1 hD.dn.2.2.1 hD.dn.2.2.2.1)
  refine TO.l rfl (l_call ent36 (CallT.op hk110) rfl ?_)
  clear hk110
  rintro vr O' ⟨N, rfl, res2, wb2, wc2, hi2, rfl, rfl⟩
  obtain rfl := hD.dn.2.2.2.2 res2 ((InclA.ok hD.dn.1).1 hi2)
  refine TO.qm rfl (TO.q (q_extract (vs := _) rfl rfl) (TO.q (q_extract (vs := _) rfl rfl) (TO.q (q_extract (vs := _) rfl rfl) ?_)))
  refine TO.qa rfl (TO.qa rfl (TO.qa rfl ?_))
  refine TO.sub (O' := [oI z8 25 (dC A kt), dI 37 4 3 A kt, oI z7 25 (dC B kb), dI 37 4 3 B kb, dI 37 4 3 M kM, dI 37 4 3 N9 kN, oI z4 25 (dC B kB), dI 37 4 3 B kB, oI z3 25 (dC A kA), dI 37 4 3 A kA, oI z1 25 (dC a k)]) (by exact Sub.d (.k (.k (.k (.k (.k (.k (.k (.k (.k (.k (.k .z)))))))))))) ?_
  refine TO.nl (T.s (T.s (T.rg ?_)))
  refine TO.qm rfl (TO.q (QT.toB (q_neq rfl rfl) (decide_eq_false (by omega))) (TO.qm rfl ?_))
  refine TO.gd rfl rfl rfl (LT.oq rfl rfl (q_move rfl) ?_)
  refine TO.gd rfl rfl rfl (LT.oq rfl rfl (QT.toB (q_neq rfl rfl) (decide_eq_false (fun h => h rfl))) ?_)
  refine TO.q (q_pick0 rfl rfl) (TO.qm rfl ?_)
  refine TO.gd rfl rfl rfl (LT.oq rfl rfl (q_move rfl) ?_)
  refine TO.gd rfl rfl rfl (LT.oq rfl rfl (QT.toB (q_neq rfl rfl) (decide_eq_false (fun h => h rfl))) ?_)
  refine TO.q (q_pick0 rfl rfl) (TO.qm rfl ?_)
  refine TO.gd rfl rfl rfl (LT.oq rfl rfl (q_move rfl) ?_)
  refine TO.gd rfl rfl rfl (LT.oq rfl rfl (QT.toB (q_neq rfl rfl) (decide_eq_false (fun h => h rfl))) ?_)
  refine TO.q (q_pick0 rfl rfl) (TO.qm rfl ?_)
  refine TO.gd rfl rfl rfl (LT.oq rfl rfl (q_move rfl) ?_)
  refine TO.gd rfl rfl rfl (LT.oq rfl rfl (QT.toB (q_neq rfl rfl) (decide_eq_false (fun h => h rfl))) ?_)
  refine TO.q (q_pick0 rfl rfl) (TO.qm rfl ?_)
  refine TO.gd rfl rfl rfl (LT.oq rfl rfl (q_move rfl) ?_)
  refine TO.gd rfl rfl rfl (LT.oq rfl rfl (QT.toB (q_neq rfl rfl) (decide_eq_false (fun h => h rfl))) ?_)
  refine TO.q (q_pick0 rfl rfl) (TO.qm rfl ?_)
  refine TO.gd rfl rfl rfl (LT.oq rfl rfl (q_move rfl) ?_)
  refine TO.gd rfl rfl rfl (LT.oq rfl rfl (QT.toB (q_neq rfl rfl) (decide_eq_false (fun h => h rfl))) ?_)
  refine TO.q (q_pick0 rfl rfl) (TO.qm rfl ?_)
  refine TO.gd rfl rfl rfl (LT.oq rfl rfl (q_move rfl) ?_)
  refine TO.gd rfl rfl rfl (LT.oq rfl rfl (QT.toB (q_neq rfl rfl) (decide_eq_false (fun h => h rfl))) ?_)
  refine TO.q (q_pick0 rfl rfl) (TO.qm rfl ?_)
  refine TO.gd rfl rfl rfl (LT.oq rfl rfl (q_move rfl) ?_)
  refine TO.gd rfl rfl rfl (LT.oq rfl rfl (QT.toB (q_neq rfl rfl) (decide_eq_false (fun h => h rfl))) ?_)
  refine TO.q (q_pick0 rfl rfl) (TO.qm rfl ?_)
  refine TO.gd rfl rfl rfl (LT.oq rfl rfl (q_la 2 underlying25 rfl inf25 rfl rfl rfl) ?_)
  refine TO.gd rfl rfl rfl (LT.oq rfl rfl (q_la 6 underlying25 rfl inf25 rfl rfl rfl) ?_)
  have hk151 := fun (w1 : World) (hI : Inv w [oI z8 25 (dC A kt), dI 37 4 3 A kt, oI z7 25 (dC B kb), dI 37 4 3 B kb, dI 37 4 3 M kM, dI 37 4 3 N9 kN, oI z4 25 (dC B kB), dI 37 4 3 B kB, oI z3 25 (dC A kA), dI 37 4 3 A kA, oI z1 25 (dC a k)] w1) => (haveI := tbz hI; equalK w1 B kb kB (hI.at (k := kb) (mG 3 rfl)) (hI.at (k := kB) (mG 7 rfl)) bB.1 bB.2.1 bB.2.2)
  refine TO.gd rfl rfl rfl (l_call ent19 (CallT.op hk151) rfl ?_)
  clear hk151
  rintro vr O' ⟨N, rfl, rfl, rfl⟩
  refine TO.gd rfl rfl rfl (LT.oq rfl rfl (q_not rfl) ?_)
  refine TO.q (q_pick0 rfl rfl) (TO.qm rfl ?_)
  refine TO.gd rfl rfl rfl (LT.oq rfl rfl (q_la 0 underlying25 rfl inf25 rfl rfl rfl) ?_)
  refine TO.gd rfl rfl rfl (LT.oq rfl rfl (q_la 8 underlying25 rfl inf25 rfl rfl rfl) ?_)
  have hk157 := fun (w1 : World) (hI : Inv w [oI z8 25 (dC A kt), dI 37 4 3 A kt, oI z7 25 (dC B kb), dI 37 4 3 B kb, dI 37 4 3 M kM, dI 37 4 3 N9 kN, oI z4 25 (dC B kB), dI 37 4 3 B kB, oI z3 25 (dC A kA), dI 37 4 3 A kA, oI z1 25 (dC a k)] w1) => (haveI := tbz hI; equalK w1 A kt kA (hI.at (k := kt) (mG 1 rfl)) (hI.at (k := kA) (mG 9 rfl)) bA.1 bA.2.1 bA.2.2)
  refine TO.gd rfl rfl rfl (l_call ent19 (CallT.op hk157) rfl ?_)
  clear hk157
  rintro vr O' ⟨N, rfl, rfl, rfl⟩
  refine TO.gd rfl rfl rfl (LT.oq rfl rfl (q_not rfl) ?_)
  refine TO.q (q_pick0 rfl rfl) (TO.qm rfl ?_)
  refine TO.gd rfl rfl rfl (LT.oq rfl rfl (q_move rfl) ?_)
  refine TO.gd rfl rfl rfl (LT.oq rfl rfl (q_not rfl) ?_)
  refine TO.q (q_pick0 rfl rfl) (TO.qm rfl ?_)
  refine TO.gd rfl rfl rfl (LT.oq rfl rfl (q_move rfl) ?_)
  refine TO.gd rfl rfl rfl (LT.oq rfl rfl (q_not rfl) ?_)
  refine TO.q (q_pick0 rfl rfl) (TO.qm rfl ?_)
  refine TO.gd rfl rfl rfl (LT.oq rfl rfl (q_move rfl) ?_)
  refine TO.gd rfl rfl rfl (LT.oq rfl rfl (q_not rfl) ?_)
  refine TO.q (q_pick0 rfl rfl) (TO.qm rfl ?_)
  refine TO.gd rfl rfl rfl (LT.oq rfl rfl (q_move rfl) ?_)
  refine TO.gd rfl rfl rfl (LT.oq rfl rfl (q_not rfl) ?_)
  refine TO.q (q_pick0 rfl rfl) ?_
  refine TO.nl ?_
  refine T.cond0 rfl ?_
  refine T.skip (T.s (T.rg ?_))
  refine TO.q (q_la 10 underlying25 rfl inf25 rfl rfl rfl) (TO.qm rfl ?_)
  have hk179 := fun (w1 : World) (hI : Inv w [oI z8 25 (dC A kt), dI 37 4 3 A kt, oI z7 25 (dC B kb), dI 37 4 3 B kb, dI 37 4 3 M kM, dI 37 4 3 N9 kN, oI z4 25 (dC B kB), dI 37 4 3 B kB, oI z3 25 (dC A kA), dI 37 4 3 A kA, oI z1 25 (dC a k)] w1) => (haveI := tbz hI; (show PureT _ _ _ _ _ from by
      have h9 := exC w1 a k (hI.atB ha) u 4096 ba.1 ba.2.1 ba.2.2 (fun _ => by omega)
      rw [eC, ex3] at h9
      exact h9))
  refine TO.l rfl (l_call ent16 (CallT.op hk179) rfl ?_)
  clear hk179
  rintro vr O' ⟨N, rfl, kC, rfl, rfl⟩
  refine TO.qm rfl (TO.q (q_extract (vs := _) rfl rfl) (TO.q (q_extract (vs := _) rfl rfl) ?_))
  refine TO.l rfl (l_alloc inf25 rfl (fun z9 => ?_))
  refine TO.l rfl (l_sb (v := (dV C kC)) (vs := (dC C kC)) 0 inf25 rfl rfl rfl rfl rfl rfl (by simp [putL]) ?_)
  refine TO.qa rfl ?_
  refine TO.sub (O' := [oI z9 25 (dC C kC), dI 37 4 3 C kC, dI 37 4 3 A kt, dI 37 4 3 B kb, dI 37 4 3 M kM, dI 37 4 3 N9 kN, dI 37 4 3 B kB, oI z3 25 (dC A kA), dI 37 4 3 A kA, oI z1 25 (dC a k)]) (by exact Sub.k (.k (.d (.k (.d (.k (.k (.k (.d (.k (.k (.k (.k .z))))))))))))) ?_
  refine TO.nl ?_
  refine T.reset [oI z9 25 (dC C kC), dI 37 4 3 C kC, dI 37 4 3 A kt, dI 37 4 3 B kb, dI 37 4 3 M kM, dI 37 4 3 N9 kN, dI 37 4 3 B kB, oI z3 25 (dC A kA), dI 37 4 3 A kA, oI z1 25 (dC a k)] [(0, (dV a k)), (1, .int .i64 v), (2, .int .i64 u), (3, (.pointer (some ⟨z1, 0, none⟩))), (7, (.pointer (some ⟨z3, 0, none⟩))), (8, .int .i64 (x1 : Int)), (9, (.pointer (some ⟨z4, 0, none⟩))), (10, .int .i64 (x2 : Int)), (11, (.pointer (some ⟨z5, 0, none⟩))), (12, .int .i64 0), (13, (.pointer (some ⟨z6, 0, none⟩))), (14, .int .i64 0), (15, (.pointer (some ⟨z7, 0, none⟩))), (16, .int .i64 0), (17, (.pointer (some ⟨z8, 0, none⟩))), (18, .int .i64 0), (19, .bool true), (20, .int .i64 0), (21, .bool true), (22, .int .i64 0), (24, .bool true), (25, .int .i64 0), (27, .bool true), (28, .int .i64 0), (29, (.pointer (some ⟨z9, 0, none⟩))), (30, .int .i64 (x3 : Int))] rfl ⟨rfl, rfl, rfl, rfl, rfl, rfl, rfl, rfl, rfl, rfl, rfl, rfl, rfl, rfl, rfl, rfl, rfl, rfl, rfl, rfl, rfl, rfl, rfl, rfl, rfl, rfl, trivial⟩ (fun ρ0 => ?_)
  refine T.s (T.s (T.rg ?_))
  refine TO.qm rfl (TO.q (q_neq rfl rfl) ?_)
  refine TO.nl ?_
  refine T.condP rfl (fun hc => ?_) (fun hc => ?_)
  · have hlt183 : x3 ≠ 0 := by omega
    refine T.s ?_
    have hx7 := hD.cu (by omega)
    rw [ex3] at hx7
    refine T.rg ?_
    refine TO.qm rfl (TO.q (QT.toB (q_eql rfl rfl) (decide_eq_true (by omega))) (TO.qa rfl ?_))
    refine TO.nl (T.ret (Res.drop ?_))
    refine Res.one (.bool true) Tryz.results9 rfl ?_
    exact ⟨[], Sub.z, rfl, rfl⟩
  have hge183 : ¬ x3 ≠ 0 := by omega
  refine T.skip (T.s ?_)
  have hx3 : xsE a u 4096 = 0 := by omega
  have hcl := hD.cl hx3
  obtain ⟨hc4, hc5⟩ := hD.cs hx3
  have hce := hD.ce hx3
  rw [eC] at hcl hc4 hce
  rw [ex4] at hc4 hce
  rw [ex5] at hc5 hce
  rw [eP, eQ] at hce
  have bP : Bd9 P := eP ▸ bdX (fun _ => hcl)
  refine T.rg ?_
  refine TO.q (q_la 0 underlying25 rfl inf25 rfl rfl rfl) (TO.qm rfl ?_)
  have hk189 := fun (w1 : World) (hI : Inv w [oI z9 25 (dC C kC), dI 37 4 3 C kC, dI 37 4 3 A kt, dI 37 4 3 B kb, dI 37 4 3 M kM, dI 37 4 3 N9 kN, dI 37 4 3 B kB, oI z3 25 (dC A kA), dI 37 4 3 A kA, oI z1 25 (dC a k)] w1) => (haveI := tbz hI; (show PureT _ _ _ _ _ from by
      have h9 := exC w1 C kC (hI.at (k := kC) (mG 1 rfl)) v 4096 bC.1 bC.2.1 bC.2.2 (fun _ => hcl)
      rw [eP, ex4] at h9
      exact h9))
  refine TO.l rfl (l_call ent16 (CallT.op hk189) rfl ?_)
  clear hk189
  rintro vr O' ⟨N, rfl, kP, rfl, rfl⟩
  refine TO.qm rfl (TO.q (q_extract (vs := _) rfl rfl) (TO.q (q_extract (vs := _) rfl rfl) ?_))
  refine TO.l rfl (l_alloc inf25 rfl (fun z10 => ?_))
  refine TO.l rfl (l_sb (v := (dV P kP)) (vs := (dC P kP)) 0 inf25 rfl rfl rfl rfl rfl rfl (by simp [putL]) ?_)
  refine TO.qa rfl ?_
  refine TO.sub (O' := [oI z10 25 (dC P kP), dI 37 4 3 P kP, oI z9 25 (dC C kC), dI 37 4 3 C kC, dI 37 4 3 A kt, dI 37 4 3 B kb, dI 37 4 3 M kM, dI 37 4 3 N9 kN, dI 37 4 3 B kB, oI z3 25 (dC A kA), dI 37 4 3 A kA, oI z1 25 (dC a k)]) (by exact Sub.rf) ?_
  refine TO.nl (T.s (T.rg ?_))
  refine TO.q (q_la 9 underlying25 rfl inf25 rfl rfl rfl) (TO.qm rfl ?_)
  have hk195 := fun (w1 : World) (hI : Inv w [oI z10 25 (dC P kP), dI 37 4 3 P kP, oI z9 25 (dC C kC), dI 37 4 3 C kC, dI 37 4 3 A kt, dI 37 4 3 B kb, dI 37 4 3 M kM, dI 37 4 3 N9 kN, dI 37 4 3 B kB, oI z3 25 (dC A kA), dI 37 4 3 A kA, oI z1 25 (dC a k)] w1) => (haveI := tbz hI; (show PureT _ _ _ _ _ from by
      have h9 := exC w1 A kA (hI.at (k := kA) (mG 10 rfl)) u 4096 bA.1 bA.2.1 bA.2.2 (fun _ => hD.lA)
      rw [eQ, ex5] at h9
      exact h9))
  refine TO.l rfl (l_call ent16 (CallT.op hk195) rfl ?_)
  clear hk195
  rintro vr O' ⟨N, rfl, kQ, rfl, rfl⟩
  refine TO.qm rfl (TO.q (q_extract (vs := _) rfl rfl) (TO.q (q_extract (vs := _) rfl rfl) ?_))
  refine TO.l rfl (l_alloc inf25 rfl (fun z11 => ?_))
  refine TO.l rfl (l_sb (v := (dV Q kQ)) (vs := (dC Q kQ)) 0 inf25 rfl rfl rfl rfl rfl rfl (by simp [putL]) ?_)
  refine TO.qa rfl ?_
  refine TO.sub (O' := [oI z11 25 (dC Q kQ), dI 37 4 3 Q kQ, oI z10 25 (dC P kP), dI 37 4 3 P kP, dI 37 4 3 C kC, dI 37 4 3 A kt, dI 37 4 3 B kb, dI 37 4 3 M kM, dI 37 4 3 N9 kN, dI 37 4 3 B kB, dI 37 4 3 A kA]) (by exact Sub.k (.k (.k (.k (.d (.k (.k (.k (.k (.k (.k (.d (.k .z))))))))))))) ?_
  refine TO.nl ?_
  refine T.reset [oI z11 25 (dC Q kQ), dI 37 4 3 Q kQ, oI z10 25 (dC P kP), dI 37 4 3 P kP, dI 37 4 3 C kC, dI 37 4 3 A kt, dI 37 4 3 B kb, dI 37 4 3 M kM, dI 37 4 3 N9 kN, dI 37 4 3 B kB, dI 37 4 3 A kA] [(0, (dV a k)), (1, .int .i64 v), (2, .int .i64 u), (3, (.pointer (some ⟨z1, 0, none⟩))), (7, (.pointer (some ⟨z3, 0, none⟩))), (8, .int .i64 (x1 : Int)), (9, (.pointer (some ⟨z4, 0, none⟩))), (10, .int .i64 (x2 : Int)), (11, (.pointer (some ⟨z5, 0, none⟩))), (12, .int .i64 0), (13, (.pointer (some ⟨z6, 0, none⟩))), (14, .int .i64 0), (15, (.pointer (some ⟨z7, 0, none⟩))), (16, .int .i64 0), (17, (.pointer (some ⟨z8, 0, none⟩))), (18, .int .i64 0), (19, .bool true), (20, .int .i64 0), (21, .bool true), (22, .int .i64 0), (24, .bool true), (25, .int .i64 0), (27, .bool true), (28, .int .i64 0), (29, (.pointer (some ⟨z9, 0, none⟩))), (30, .int .i64 (x3 : Int)), (31, (.pointer (some ⟨z10, 0, none⟩))), (32, .int .i64 (x4 : Int)), (33, (.pointer (some ⟨z11, 0, none⟩))), (34, .int .i64 (x5 : Int))] rfl ⟨rfl, rfl, rfl, rfl, rfl, rfl, rfl, rfl, rfl, rfl, rfl, rfl, rfl, rfl, rfl, rfl, rfl, rfl, rfl, rfl, rfl, rfl, rfl, rfl, rfl, rfl, rfl, rfl, rfl, rfl, trivial⟩ (fun ρ0 => ?_)
  refine T.s (T.s (T.rg ?_))
  refine TO.qm rfl (TO.q (q_eql rfl rfl) ?_)
  by_cases hs200 : (x4 : Int) = 10
  · refine TO.q (QT.toB (q_move rfl) (decide_eq_true hs200)) ?_
    refine TO.pd rfl rfl ?_
    refine TO.pd rfl rfl ?_
    refine TO.q (q_pick1 rfl rfl) ?_
    refine TO.nl ?_
    refine T.cond1 rfl ?_
    refine T.s (T.rg ?_)
    refine TO.qa rfl ?_
    refine TO.nl (T.ret (Res.drop ?_))
    refine Res.one (.bool true) Tryz.results9 rfl ?_
    exact ⟨[], Sub.z, rfl, rfl⟩
  refine TO.q (QT.toB (q_move rfl) (decide_eq_false hs200)) ?_
  refine TO.gd rfl rfl rfl (LT.oq rfl rfl (q_move rfl) ?_)
  refine TO.gd rfl rfl rfl (LT.oq rfl rfl (q_eql rfl rfl) ?_)
  refine TO.q (q_pick0 rfl rfl) ?_
  refine TO.nl ?_
  refine T.condP rfl (fun hc => ?_) (fun hc => ?_)
  · have hlt203 : x5 = 10 := by omega
    refine T.s (T.rg ?_)
    refine TO.qa rfl ?_
    refine TO.nl (T.ret (Res.drop ?_))
    refine Res.one (.bool true) Tryz.results9 rfl ?_
    exact ⟨[], Sub.z, rfl, rfl⟩
  have hge203 : ¬ x5 = 10 := by omega
  refine T.skip (T.s ?_)
  have hx4 : x4 = 0 := by omega
  have hx5 : x5 = 0 := by omega
  have hPQ := hce hx4 hx5
  refine T.rg ?_
  refine TO.qm rfl (TO.q (QT.toB (q_eql rfl rfl) (decide_eq_true (by omega))) (TO.qm rfl ?_))
  refine TO.gd rfl rfl rfl (LT.oq rfl rfl (q_move rfl) ?_)
  refine TO.gd rfl rfl rfl (LT.oq rfl rfl (QT.toB (q_eql rfl rfl) (decide_eq_true (by omega))) ?_)
  refine TO.q (q_pick1 rfl rfl) (TO.qm rfl ?_)
  refine TO.gd rfl rfl rfl (LT.oq rfl rfl (q_la 2 underlying25 rfl inf25 rfl rfl rfl) ?_)
  refine TO.gd rfl rfl rfl (LT.oq rfl rfl (q_la 0 underlying25 rfl inf25 rfl rfl rfl) ?_)
  have hk213 := fun (w1 : World) (hI : Inv w [oI z11 25 (dC Q kQ), dI 37 4 3 Q kQ, oI z10 25 (dC P kP), dI 37 4 3 P kP, dI 37 4 3 C kC, dI 37 4 3 A kt, dI 37 4 3 B kb, dI 37 4 3 M kM, dI 37 4 3 N9 kN, dI 37 4 3 B kB, dI 37 4 3 A kA] w1) => (haveI := tbz hI; (show PureT _ _ _ _ _ from by
      have h9 := equalK2 w1 P Q kP kQ (hI.at (k := kP) (mG 3 rfl)) (hI.at (k := kQ) (mG 1 rfl)) bP.1 bP.2.1 bP.2.2
      rw [decide_eq_true hPQ] at h9
      exact h9))
  refine TO.gd rfl rfl rfl (l_call ent19 (CallT.op hk213) rfl ?_)
  clear hk213
  rintro vr O' ⟨N, rfl, rfl, rfl⟩
  refine TO.q (q_pick1 rfl rfl) (TO.qa rfl ?_)
  refine TO.nl (T.ret (Res.drop ?_))
  refine Res.one (.bool true) Tryz.results9 rfl ?_
  exact ⟨[], Sub.z, rfl, rfl⟩
end Go.Proofs.YtohkmggbfcnapaaGreatDoor

