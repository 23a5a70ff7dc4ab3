/- Contracts of functions of the program (QjR): what each call answers and that it leaves memory as it was. Conditions: those each theorem names. -/
import Derived.Test.YtohkmggbfcnapaaGreatDoorCoreK
import Derived.Test.YtohkmggbfcnapaaGreatDoorWtK
import Derived.Test.YtohkmggbfcnapaaGreatDoorEnd
set_option linter.unusedSectionVars false
set_option linter.unusedSimpArgs false
set_option linter.unusedVariables false
set_option linter.unnecessarySimpa false
set_option maxHeartbeats 8000000
set_option maxRecDepth 20000
namespace Go.Proofs.YtohkmggbfcnapaaGreatDoor
open Go.Lx Go.RowKit _root_.Go.Proofs.Tryz
theorem renamesW (w : World) [Tab Tryz.prog w] (a : DFA) (k : DK) (ha : At w a k) (haa : a.next.length < 9223372036854775807) (haar : ∀ r ∈ a.next, r.length < 9223372036854775807) (haaf : a.final.length < 9223372036854775807) (b1 b2 : Option Addr) (c1 c2 : Nat) (l m : List Int) (hl : Sl w b1 (ints l)) (hm : Sl w b2 (ints m)) (wb : Option Addr) (wc : Nat) (o : List Nat) (hW : Sl w wb (byts o)) (hwb : o.length < 9223372036854775807) (hw8 : ∀ x ∈ o, x < 256) :
    PureT Tryz.prog 8 [dV a k, .slice b1 l.length c1, .slice b2 m.length c2, .slice wb o.length wc] w fun r N => r = .bool true ∧ N = [] := by
  refine CallT.enter func8 rfl ntmps8 rfl ?_
  refine T.s (T.rg ?_)
  refine TO.l rfl (l_box (v := (dV a k)) (cs := (dC a k)) rfl rfl (fun z1 => ?_))
  refine TO.qa rfl ?_
  refine TO.nl ?_
  refine T.cut (fun ρ O => Sub [oI z1 25 (dC a k)] O ∧ (¬ longB [a] = true ∧ l.length ≤ 10 ∧ m.length ≤ 10 ∧ o.length ≤ 60) ∧ Heads [(0, (dV a k)), (1, (.slice b1 l.length c1)), (2, (.slice b2 m.length c2)), (3, (.slice wb o.length wc)), (4, (.pointer (some ⟨z1, 0, none⟩)))] ρ) ?_ ?_
  · refine T.s ?_
    refine T.rg ?_
    refine TO.q (q_la 0 underlying25 rfl inf25 rfl rfl rfl) ?_
    refine TO.l rfl (l_buildSlice (m := 1) (parts := [(0, _)]) (cs := (dC a k)) underlying56 inf25 (by decide) (by kernel_rfl) rfl (fun z2 => ?_))
    have hk27 := fun (w1 : World) (hI : Inv w [rowI (some ⟨z2, 0, none⟩) 1 25 4 (dC a k), oI z1 25 (dC a k)] w1) => (haveI := tbz hI; long1K w1 (some ⟨z2, 0, none⟩) a k (hI.slOf (mG 0 rfl)) (hI.atB ha) haa)
    refine TO.l rfl (l_call ent10 (CallT.op hk27) rfl ?_)
    clear hk27
    rintro vr O' ⟨N, rfl, rfl, rfl⟩
    by_cases hs28 : (longB [a]) = true
    · refine TO.q (QT.toB (q_move rfl) (hs28)) ?_
      refine TO.pd rfl rfl ?_
      refine TO.pd rfl rfl ?_
      refine TO.pd rfl rfl ?_
      refine TO.q (q_pick1 rfl rfl) (TO.qm rfl ?_)
      refine TO.pd rfl rfl ?_
      refine TO.pd rfl rfl ?_
      refine TO.pd rfl rfl ?_
      refine TO.q (q_pick1 rfl rfl) (TO.qm rfl ?_)
      refine TO.pd rfl rfl ?_
      refine TO.pd rfl rfl ?_
      refine TO.pd rfl rfl ?_
      refine TO.q (q_pick1 rfl rfl) (TO.qm rfl ?_)
      refine TO.pd rfl rfl ?_
      refine TO.pd rfl rfl ?_
      refine TO.q (q_pick1 rfl rfl) ?_
      refine TO.nl ?_
      refine T.cond1 rfl ?_
      refine T.s (T.rg ?_)
      have hk47 := fun (w1 : World) (hI : Inv w [rowI (some ⟨z2, 0, none⟩) 1 25 4 (dC a k), oI z1 25 (dC a k)] w1) => (haveI := tbz hI; awakeC w1)
      refine TO.l rfl (l_call ent11 (CallT.op hk47) rfl ?_)
      clear hk47
      rintro vr O' ⟨N, rfl, rfl, rfl⟩
      refine TO.qa rfl ?_
      refine TO.nl (T.ret (Res.drop ?_))
      refine Res.one (.bool true) Tryz.results8 rfl ?_
      exact ⟨[], Sub.z, rfl, rfl⟩
    refine TO.q (QT.toB (q_move rfl) (Bool.eq_false_iff.2 hs28)) ?_
    refine TO.gd rfl rfl rfl (LT.oq rfl rfl (q_move rfl) ?_)
    refine TO.gd rfl rfl rfl (LT.oq rfl rfl (q_len underlying37 rfl) ?_)
    refine TO.gd rfl rfl rfl (LT.oq rfl rfl (q_gtr rfl rfl) ?_)
    refine TO.q (q_pick0 rfl rfl) ?_
    by_cases hs33 : (l.length : Int) > 10
    · refine TO.q (QT.toB (q_move rfl) (decide_eq_true hs33)) ?_
      refine TO.pd rfl rfl ?_
      refine TO.pd rfl rfl ?_
      refine TO.pd rfl rfl ?_
      refine TO.q (q_pick1 rfl rfl) (TO.qm rfl ?_)
      refine TO.pd rfl rfl ?_
      refine TO.pd rfl rfl ?_
      refine TO.pd rfl rfl ?_
      refine TO.q (q_pick1 rfl rfl) (TO.qm rfl ?_)
      refine TO.pd rfl rfl ?_
      refine TO.pd rfl rfl ?_
      refine TO.q (q_pick1 rfl rfl) ?_
      refine TO.nl ?_
      refine T.cond1 rfl ?_
      refine T.s (T.rg ?_)
      have hk47 := fun (w1 : World) (hI : Inv w [rowI (some ⟨z2, 0, none⟩) 1 25 4 (dC a k), oI z1 25 (dC a k)] w1) => (haveI := tbz hI; awakeC w1)
      refine TO.l rfl (l_call ent11 (CallT.op hk47) rfl ?_)
      clear hk47
      rintro vr O' ⟨N, rfl, rfl, rfl⟩
      refine TO.qa rfl ?_
      refine TO.nl (T.ret (Res.drop ?_))
      refine Res.one (.bool true) Tryz.results8 rfl ?_
      exact ⟨[], Sub.z, rfl, rfl⟩
    refine TO.q (QT.toB (q_move rfl) (decide_eq_false hs33)) ?_
    refine TO.gd rfl rfl rfl (LT.oq rfl rfl (q_move rfl) ?_)
    refine TO.gd rfl rfl rfl (LT.oq rfl rfl (q_len underlying37 rfl) ?_)
    refine TO.gd rfl rfl rfl (LT.oq rfl rfl (q_gtr rfl rfl) ?_)
    refine TO.q (q_pick0 rfl rfl) ?_
    by_cases hs38 : (m.length : Int) > 10
    · refine TO.q (QT.toB (q_move rfl) (decide_eq_true hs38)) ?_
      refine TO.pd rfl rfl ?_
      refine TO.pd rfl rfl ?_
      refine TO.pd rfl rfl ?_
      refine TO.q (q_pick1 rfl rfl) (TO.qm rfl ?_)
      refine TO.pd rfl rfl ?_
      refine TO.pd rfl rfl ?_
      refine TO.q (q_pick1 rfl rfl) ?_
      refine TO.nl ?_
      refine T.cond1 rfl ?_
      refine T.s (T.rg ?_)
      have hk47 := fun (w1 : World) (hI : Inv w [rowI (some ⟨z2, 0, none⟩) 1 25 4 (dC a k), oI z1 25 (dC a k)] w1) => (haveI := tbz hI; awakeC w1)
      refine TO.l rfl (l_call ent11 (CallT.op hk47) rfl ?_)
      clear hk47
      rintro vr O' ⟨N, rfl, rfl, rfl⟩
      refine TO.qa rfl ?_
      refine TO.nl (T.ret (Res.drop ?_))
      refine Res.one (.bool true) Tryz.results8 rfl ?_
      exact ⟨[], Sub.z, rfl, rfl⟩
    refine TO.q (QT.toB (q_move rfl) (decide_eq_false hs38)) ?_
    refine TO.gd rfl rfl rfl (LT.oq rfl rfl (q_move rfl) ?_)
    refine TO.gd rfl rfl rfl (LT.oq rfl rfl (q_len underlying46 rfl) ?_)
    refine TO.gd rfl rfl rfl (LT.oq rfl rfl (q_gtr rfl rfl) ?_)
    refine TO.q (q_pick0 rfl rfl) ?_
    by_cases hs43 : (o.length : Int) > 60
    · refine TO.q (QT.toB (q_move rfl) (decide_eq_true hs43)) ?_
      refine TO.pd rfl rfl ?_
      refine TO.pd rfl rfl ?_
      refine TO.q (q_pick1 rfl rfl) ?_
      refine TO.nl ?_
      refine T.cond1 rfl ?_
      refine T.s (T.rg ?_)
      have hk47 := fun (w1 : World) (hI : Inv w [rowI (some ⟨z2, 0, none⟩) 1 25 4 (dC a k), oI z1 25 (dC a k)] w1) => (haveI := tbz hI; awakeC w1)
      refine TO.l rfl (l_call ent11 (CallT.op hk47) rfl ?_)
      clear hk47
      rintro vr O' ⟨N, rfl, rfl, rfl⟩
      refine TO.qa rfl ?_
      refine TO.nl (T.ret (Res.drop ?_))
      refine Res.one (.bool true) Tryz.results8 rfl ?_
      exact ⟨[], Sub.z, rfl, rfl⟩
    refine TO.q (QT.toB (q_move rfl) (decide_eq_false hs43)) ?_
    have hk44 := fun (w1 : World) (hI : Inv w [rowI (some ⟨z2, 0, none⟩) 1 25 4 (dC a k), oI z1 25 (dC a k)] w1) => (haveI := tbz hI; awakeC w1)
    refine TO.gd rfl rfl rfl (l_call ent11 (CallT.op hk44) rfl ?_)
    clear hk44
    rintro vr O' ⟨N, rfl, rfl, rfl⟩
    refine TO.gd rfl rfl rfl (LT.oq rfl rfl (q_not rfl) ?_)
    refine TO.q (q_pick0 rfl rfl) ?_
    refine TO.nl ?_
    refine T.cond0 rfl ?_
    refine T.skip ?_
    exact ⟨(by exact Sub.d (.k .z)), ⟨by simp_all, by omega, by omega, by omega⟩, ⟨rfl, rfl, rfl, rfl, rfl, trivial⟩⟩
  rintro ρ O ⟨hS, ⟨hnl, hl10, hm10, ho60⟩, hH⟩
  obtain ⟨ρ0, rfl⟩ := hH.elim
  clear hH
  refine T.sub hS ?_
  have sa : Sh a := longB_one hnl
  have ba : Bd9 a := ⟨haa, haar, haaf⟩
  have hn8 := sa.n8
  obtain ⟨X, eX⟩ : ∃ zz, rnV a l = zz := ⟨_, rfl⟩
  obtain ⟨x1, ex1⟩ : ∃ zz, rnE a l = zz := ⟨_, rfl⟩
  obtain ⟨Y, eY⟩ : ∃ zz, rnV X m = zz := ⟨_, rfl⟩
  obtain ⟨x2, ex2⟩ : ∃ zz, rnE X m = zz := ⟨_, rfl⟩
  have bX : Bd9 X := eX ▸ bdRn
  have bY : Bd9 Y := eY ▸ bdRn
  refine T.cut (fun ρ O => ∃ (b9 : Nat) (kX : DK), O = [oI b9 25 (dC X kX), dI 37 4 3 X kX, oI z1 25 (dC a k)] ∧ Heads [(0, (dV a k)), (1, (.slice b1 l.length c1)), (2, (.slice b2 m.length c2)), (3, (.slice wb o.length wc)), (4, (.pointer (some ⟨z1, 0, none⟩))), (9, (.pointer (some ⟨b9, 0, none⟩))), (10, .int .i64 (x1 : Int))] ρ) ?_ ?_
  · refine T.tree [oI z1 25 (dC a k)] 10 mixed rfl (by exact Sub.rf) (fun _ _ _ h => h) ?_
    refine RO.quietT 0 rfl (by kernel_rfl) (q_la 0 underlying25 rfl inf25 rfl rfl rfl) ?_
    refine RO.quietT 1 rfl (by kernel_rfl) (q_move rfl) ?_
    have hk51 := fun (w1 : World) (hI : Inv w [oI z1 25 (dC a k)] w1) => (haveI := tbz hI; copyInts w1 b1 c1 l (hI.sl hl) (by omega))
    refine RO.fork [2, 7] (by kernel_rfl) rfl ⟨⟨_, rfl, rfl, l_call ent22 (CallT.op hk51) rfl ?_⟩, ⟨_, rfl, rfl, l_alloc inf25 rfl (fun b9 => ⟨by exact Sub.d (.k .z), ?_⟩)⟩, trivial⟩
    · clear hk51
      rintro vr O' ⟨N, rfl, pn, pnc, rfl, rfl⟩
      refine ⟨by exact Sub.d (.k .z), ?_⟩
      have hk52 := fun (w1 : World) (hI : Inv w [rowI pn pnc 3 1 (ints l), oI z1 25 (dC a k)] w1) => (haveI := tbz hI; (show PureT _ _ _ _ _ from by
          have h9 := rnC w1 a k (hI.atB ha) ba.1 ba.2.1 ba.2.2 pn pnc l (hI.slOf (mG 0 rfl)) (by omega)
          rw [eX, ex1] at h9
          exact h9))
      refine RO.fork [3, 7] (by kernel_rfl) rfl ⟨⟨_, rfl, rfl, l_call ent28 (CallT.op hk52) rfl ?_⟩, ⟨_, rfl, rfl, l_alloc inf25 rfl (fun b9 => ⟨by exact Sub.d (.d (.k .z)), ?_⟩)⟩, trivial⟩
      · clear hk52
        rintro vr O' ⟨N, rfl, kX, rfl, rfl⟩
        refine ⟨by exact Sub.d (.d (.k .z)), ?_⟩
        refine RO.quietT 4 rfl (by kernel_rfl) (q_move rfl) ?_
        refine RO.quietT 5 rfl (by kernel_rfl) (q_extract (vs := _) rfl rfl) ?_
        refine RO.quietT 6 rfl (by kernel_rfl) (q_extract (vs := _) rfl rfl) ?_
        refine RO.fork [7] (by kernel_rfl) rfl ⟨⟨_, rfl, rfl, l_alloc inf25 rfl (fun b9 => ⟨by exact Sub.d (.d (.d (.k .z))), ?_⟩)⟩, trivial⟩
        refine RO.fork [8] (by kernel_rfl) rfl ⟨⟨_, rfl, rfl, l_sb (v := (dV X kX)) (vs := (dC X kX)) 0 inf25 rfl rfl rfl rfl rfl rfl (by simp [putL]) ⟨by exact Sub.d (.d (.d (.k .z))), ?_⟩⟩, trivial⟩
        refine RO.quietT 9 rfl (by kernel_rfl) (q_assign rfl) ?_
        exact RO.fin (by kernel_rfl) ⟨b9, kX, rfl, ⟨rfl, rfl, rfl, rfl, rfl, rfl, rfl, trivial⟩⟩ (by exact Sub.k (.k (.d (.k .z))))
      have hk52 := fun (w1 : World) (hI : Inv w [oI b9 25 [(.int .i64 0), (.int .i64 0), (.slice none 0 0), (.slice none 0 0)], rowI pn pnc 3 1 (ints l), oI z1 25 (dC a k)] w1) => (haveI := tbz hI; (show PureT _ _ _ _ _ from by
          have h9 := rnC w1 a k (hI.atB ha) ba.1 ba.2.1 ba.2.2 pn pnc l (hI.slOf (mG 1 rfl)) (by omega)
          rw [eX, ex1] at h9
          exact h9))
      refine RO.fork [3] (by kernel_rfl) rfl ⟨⟨_, rfl, rfl, l_call ent28 (CallT.op hk52) rfl ?_⟩, trivial⟩
      clear hk52
      rintro vr O' ⟨N, rfl, kX, rfl, rfl⟩
      refine ⟨by exact Sub.d (.d (.d (.k .z))), ?_⟩
      refine RO.quietT 4 rfl (by kernel_rfl) (q_move rfl) ?_
      refine RO.quietT 5 rfl (by kernel_rfl) (q_extract (vs := _) rfl rfl) ?_
      refine RO.quietT 6 rfl (by kernel_rfl) (q_extract (vs := _) rfl rfl) ?_
      refine RO.fork [8] (by kernel_rfl) rfl ⟨⟨_, rfl, rfl, l_sb (v := (dV X kX)) (vs := (dC X kX)) 1 inf25 rfl rfl rfl rfl rfl rfl (by simp [putL]) ⟨by exact Sub.d (.d (.d (.k .z))), ?_⟩⟩, trivial⟩
      refine RO.quietT 9 rfl (by kernel_rfl) (q_assign rfl) ?_
      exact RO.fin (by kernel_rfl) ⟨b9, kX, rfl, ⟨rfl, rfl, rfl, rfl, rfl, rfl, rfl, trivial⟩⟩ (by exact Sub.pull [dI 37 4 3 X kX] _ (.k (.d (.k .z))))
    have hk51 := fun (w1 : World) (hI : Inv w [oI b9 25 [(.int .i64 0), (.int .i64 0), (.slice none 0 0), (.slice none 0 0)], oI z1 25 (dC a k)] w1) => (haveI := tbz hI; copyInts w1 b1 c1 l (hI.sl hl) (by omega))
    refine RO.fork [2] (by kernel_rfl) rfl ⟨⟨_, rfl, rfl, l_call ent22 (CallT.op hk51) rfl ?_⟩, trivial⟩
    clear hk51
    rintro vr O' ⟨N, rfl, pn, pnc, rfl, rfl⟩
    refine ⟨by exact Sub.d (.d (.k .z)), ?_⟩
    have hk52 := fun (w1 : World) (hI : Inv w [rowI pn pnc 3 1 (ints l), oI b9 25 [(.int .i64 0), (.int .i64 0), (.slice none 0 0), (.slice none 0 0)], oI z1 25 (dC a k)] w1) => (haveI := tbz hI; (show PureT _ _ _ _ _ from by
        have h9 := rnC w1 a k (hI.atB ha) ba.1 ba.2.1 ba.2.2 pn pnc l (hI.slOf (mG 0 rfl)) (by omega)
        rw [eX, ex1] at h9
        exact h9))
    refine RO.fork [3] (by kernel_rfl) rfl ⟨⟨_, rfl, rfl, l_call ent28 (CallT.op hk52) rfl ?_⟩, trivial⟩
    clear hk52
    rintro vr O' ⟨N, rfl, kX, rfl, rfl⟩
    refine ⟨by exact Sub.d (.d (.d (.k .z))), ?_⟩
    refine RO.quietT 4 rfl (by kernel_rfl) (q_move rfl) ?_
    refine RO.quietT 5 rfl (by kernel_rfl) (q_extract (vs := _) rfl rfl) ?_
    refine RO.quietT 6 rfl (by kernel_rfl) (q_extract (vs := _) rfl rfl) ?_
    refine RO.fork [8] (by kernel_rfl) rfl ⟨⟨_, rfl, rfl, l_sb (v := (dV X kX)) (vs := (dC X kX)) 2 inf25 rfl rfl rfl rfl rfl rfl (by simp [putL]) ⟨by exact Sub.d (.d (.d (.k .z))), ?_⟩⟩, trivial⟩
    refine RO.quietT 9 rfl (by kernel_rfl) (q_assign rfl) ?_
    exact RO.fin (by kernel_rfl) ⟨b9, kX, rfl, ⟨rfl, rfl, rfl, rfl, rfl, rfl, rfl, trivial⟩⟩ (by exact Sub.pull [dI 37 4 3 X kX, rowI pn pnc 3 1 (ints l)] _ (.k (.d (.k .z))))
  rintro ρ O ⟨b9, kX, rfl, hH⟩
  obtain ⟨ρ0, rfl⟩ := hH.elim
  clear hH
  refine T.s (T.s (T.rg ?_))
  refine TO.qm rfl (TO.q (q_neq rfl rfl) ?_)
  refine TO.nl ?_
  refine T.condP rfl (fun hc => ?_) (fun hc => ?_)
  · have hlt56 : x1 ≠ 0 := by omega
    refine T.s ?_
    have hz := ren_err (show rnE a l ≠ 0 by omega)
    rw [eX] at hz
    refine T.rg ?_
    refine TO.q (q_fa underlying25 rfl inf22 rfl rfl) (TO.q (q_lb 0 underlying22 rfl rfl rfl rfl) (TO.q (q_len underlying22 rfl) (TO.q (QT.toB (q_eql rfl rfl) (decide_eq_true (by omega))) ?_)))
    refine TO.qa rfl ?_
    refine TO.nl (T.ret (Res.drop ?_))
    refine Res.one (.bool true) Tryz.results8 rfl ?_
    exact ⟨[], Sub.z, rfl, rfl⟩
  have hge56 : ¬ x1 ≠ 0 := by omega
  refine T.skip (T.s ?_)
  have hR := ren_ok sa (show rnE a l = 0 by omega)
  rw [eX] at hR
  obtain ⟨p, hpp⟩ : ∃ p, natL l = p := ⟨_, rfl⟩
  rw [hpp] at hR
  have hpl := hR.pl
  have hp6 := hR.p6
  have hps : Sl w b1 (intN p) := by rw [← hR.pi]; exact hl
  refine T.rg ?_
  refine TO.qa rfl ?_
  refine TO.nl (T.s (T.s (T.rg ?_)))
  refine TO.qa rfl ?_
  refine TO.nl (T.block ?_)
  refine T.nilRow 5 1 ?_
  refine T.sub (O' := [oI b9 25 (dC X kX), dI 37 4 3 X kX, oI z1 25 (dC a k), rowI none 0 5 1 []]) (by exact Sub.pull [rowI none 0 5 1 []] _ (.pull [rowI none 0 5 1 []] _ (.pull [rowI none 0 5 1 []] _ (.k .z)))) ?_
  refine T.loopS (fun (i : Nat) ρ O => ∃ (ub : Option Addr) (uc : Nat), O = [oI b9 25 (dC X kX), dI 37 4 3 X kX, oI z1 25 (dC a k), rowI ub uc 5 1 (byts ((o.take i).map (fun x => maF p x p.length)))] ∧ i ≤ o.length ∧ Heads [(0, (dV a k)), (1, (.slice b1 l.length c1)), (2, (.slice b2 m.length c2)), (3, (.slice wb o.length wc)), (4, (.pointer (some ⟨z1, 0, none⟩))), (9, (.pointer (some ⟨b9, 0, none⟩))), (10, .int .i64 (x1 : Int)), (11, (.slice ub i uc)), (12, .int .i64 ((i : Nat) : Int))] ρ) (fun i => o.length - i) 0 ?_ ?_
  · exact ⟨none, 0, rfl, Nat.zero_le _, ⟨rfl, rfl, rfl, rfl, rfl, rfl, rfl, rfl, rfl, trivial⟩⟩
  rintro i ρ O ⟨ub, uc, rfl, hi, hH⟩
  obtain ⟨ρ0, rfl⟩ := hH.elim
  clear hH
  refine T.s (T.s (T.rg ?_))
  refine TO.qm rfl (TO.qm rfl (TO.q (q_len underlying46 rfl) (TO.q (q_lss rfl rfl) ?_)))
  refine TO.nl ?_
  refine T.condP rfl (fun hc => ?_) (fun hc => ?_)
  · have hlt64 : i < o.length := by omega
    have hio : i < o.length := by omega
    have ho256 := hw8 _ (List.getElem_mem hio)
    have hux : byts ((o.take i).map (fun x => maF p x p.length)) ++ [Value.int .u8 ((maF p o[i] p.length : Nat) : Int)] = byts ((o.take (i + 1)).map (fun x => maF p x p.length)) := by rw [List.take_succ_eq_append_getElem hio]; simp only [List.map_append, List.map_cons, List.map_nil]
    have h64 : 2 ^ p.length ≤ 2 ^ 6 := Nat.pow_le_pow_right (by decide) hp6
    have hm3 := hR.pn.ma_lt o[i]
    refine T.skip (T.s (T.block (T.s (T.rg ?_))))
    refine TO.qa rfl ?_
    refine TO.nl (T.s (T.s (T.rg ?_)))
    refine TO.qa rfl ?_
    refine TO.nl (T.block ?_)
    refine T.loop (fun (j : Nat) ρ O => O = [oI b9 25 (dC X kX), dI 37 4 3 X kX, oI z1 25 (dC a k), rowI ub uc 5 1 (byts ((o.take i).map (fun x => maF p x p.length)))] ∧ j ≤ p.length ∧ Heads [(0, (dV a k)), (1, (.slice b1 l.length c1)), (2, (.slice b2 m.length c2)), (3, (.slice wb o.length wc)), (4, (.pointer (some ⟨z1, 0, none⟩))), (9, (.pointer (some ⟨b9, 0, none⟩))), (10, .int .i64 (x1 : Int)), (11, (.slice ub i uc)), (12, .int .i64 ((i : Nat) : Int)), (13, .int .i64 ((maF p o[i] j : Nat) : Int)), (14, .int .i64 ((j : Nat) : Int))] ρ) (fun j => p.length - j) 0 ?_ ?_
    · exact ⟨rfl, Nat.zero_le _, ⟨rfl, rfl, rfl, rfl, rfl, rfl, rfl, rfl, rfl, rfl, rfl, trivial⟩⟩
    rintro j ρ O ⟨rfl, hj, hH⟩
    obtain ⟨ρ0, rfl⟩ := hH.elim
    clear hH
    refine T.s (T.s (T.rg ?_))
    refine TO.qm rfl (TO.qm rfl (TO.q (q_len underlying37 rfl) (TO.q (q_lss rfl rfl) ?_)))
    refine TO.nl ?_
    refine T.condP rfl (fun hc => ?_) (fun hc => ?_)
    · have hlt70 : j < l.length := by omega
      have hjl : j < p.length := by omega
      have hpj := hR.pn.lt _ (List.getElem_mem hjl)
      have hgd : p.getD j 0 = p[j] := by rw [List.getD_eq_getElem?_getD, List.getElem?_eq_getElem hjl]; rfl
      have hst := hR.pn.ma_step hp6 o[i] hjl
      rw [hgd] at hst
      have hm1 := hR.pn.ma_ltk o[i] (show j ≤ p.length by omega)
      have hpw : 2 ^ p[j] ≤ 2 ^ 5 := Nat.pow_le_pow_right (by decide) (by omega)
      have hb2 : o[i] >>> j % 2 < 2 := Nat.mod_lt _ (by decide)
      have hmul : (o[i] >>> j % 2) * 2 ^ p[j] ≤ 1 * 2 ^ p[j] := Nat.mul_le_mul_right _ (by omega)
      refine T.skip (T.s (T.block (T.s (T.s (T.rg ?_)))))
      refine TO.qm rfl (TO.qm rfl (TO.q (q_ix (i := j) underlying37 inf3 rfl rfl (Sl.o hps) (by omega) (by rw [List.length_map]; omega)) (TO.q (q_ld underlying3 rfl rfl (Sl.o hps) (intN_get hjl)) ?_)))
      refine TO.q (QT.toB (q_lss rfl rfl) (decide_eq_false (by omega))) (TO.qm rfl ?_)
      refine TO.gd rfl rfl rfl (LT.oq rfl rfl (q_move rfl) ?_)
      refine TO.gd rfl rfl rfl (LT.oq rfl rfl (q_move rfl) ?_)
      refine TO.gd rfl rfl rfl (LT.oq rfl rfl (q_ix (i := j) underlying37 inf3 rfl rfl (Sl.o hps) (by omega) (by rw [List.length_map]; omega)) ?_)
      refine TO.gd rfl rfl rfl (LT.oq rfl rfl (q_ld underlying3 rfl rfl (Sl.o hps) (intN_get hjl)) ?_)
      refine TO.gd rfl rfl rfl (LT.oq rfl rfl (QT.toB (q_gtr rfl rfl) (decide_eq_false (by omega))) ?_)
      refine TO.q (q_pick0 rfl rfl) ?_
      refine TO.nl ?_
      refine T.cond0 rfl ?_
      refine T.skip ?_
      refine T.draws _ [(0, 0), (1, 0), (2, 0), (3, 0), (4, 0), (5, 0), (6, 0), (7, 0), (8, 0), (9, 0), (10, 0), (11, 0), (12, 0), (13, 0), (14, 0), (15, 0), (16, 0), (17, 0)] mixed (drawF_ok (by kernel_rfl)) (Sub.of (List.Sublist.refl _)) (fun _ _ _ h => h) ?_
      refine DO.q rfl (q_move rfl) (DO.q rfl (q_move rfl) (DO.q rfl (q_move rfl) (DO.q rfl (q_ix (i := i) underlying46 inf5 rfl rfl (Sl.o hW) hio (by rw [List.length_map]; exact hio)) ?_)))
      refine DO.q rfl (q_ld underlying5 rfl rfl (Sl.o hW) (byts_get hio)) (DO.q rfl (q_conv_id underlying5 underlying3 rfl (by first | rfl | exact wrap64_id ⟨by omega, by omega⟩ | exact wrap8 (by omega) | exact wrapU64 (by omega))) (DO.q rfl (q_move rfl) (DO.q rfl (q_conv_id underlying3 underlying52 rfl (by first | rfl | exact wrap64_id ⟨by omega, by omega⟩ | exact wrap8 (by omega) | exact wrapU64 (by omega))) ?_)))
      refine DO.q rfl (q_shrI (a := o[i]) (b := j) rfl rfl (by omega)) (DO.q rfl (q_remN (a := o[i] >>> j) (b := 2) rfl rfl (by decide)) (DO.q rfl (q_move rfl) (DO.q rfl (q_move rfl) ?_)))
      refine DO.q rfl (q_ix (i := j) underlying37 inf3 rfl rfl (Sl.o hps) (by omega) (by rw [List.length_map]; omega)) (DO.q rfl (q_ld underlying3 rfl rfl (Sl.o hps) (intN_get hjl)) (DO.q rfl (q_conv_id underlying3 underlying52 rfl (by first | rfl | exact wrap64_id ⟨by omega, by omega⟩ | exact wrap8 (by omega) | exact wrapU64 (by omega))) (DO.q rfl (q_shlI (a := o[i] >>> j % 2) (b := p[j]) rfl rfl (by omega) (by omega)) ?_)))
      refine DO.q rfl (QT.cast (q_addN (a := maF p o[i] j) (b := (o[i] >>> j % 2) * 2 ^ p[j]) rfl rfl (by omega)) (v' := .int .i64 ((maF p o[i] (j + 1) : Nat) : Int)) (by rw [hst])) (DO.q rfl (q_assign rfl) ?_)
      refine DO.done ?_
      refine T.rg ?_
      refine TO.qm rfl (TO.q (q_addN (a := j) (b := 1) rfl rfl (by omega)) (TO.qa rfl ?_))
      refine TO.nl ?_
      exact ⟨j + 1, by omega, rfl, by omega, ⟨rfl, rfl, rfl, rfl, rfl, rfl, rfl, rfl, rfl, rfl, rfl, trivial⟩⟩
    have hge70 : ¬ j < l.length := by omega
    refine T.exit ?_
    have hje : j = p.length := by omega
    subst hje
    refine T.rg ?_
    refine TO.qm rfl (TO.qm rfl (TO.q (q_conv_id underlying3 underlying5 rfl (wrap8 (by omega))) ?_))
    refine TO.l rfl (l_build1 (v := .int .u8 ((maF p o[i] p.length : Nat) : Int)) underlying46 inf5 rfl rfl rfl (fun z3 => ?_))
    refine TO.l rfl (l_append 4 underlying46 underlying46 inf5 rfl rfl rfl rfl (by rw [List.length_map, List.length_map, List.length_take]; omega) (by decide) (Src.row (j := 0) rfl (by simp)) (by simp [oneB]) (by omega) (by decide) (by decide) (fun z4 zc5 => ?_))
    refine TO.qa rfl ?_
    refine TO.nl (T.rg ?_)
    refine TO.qm rfl (TO.q (q_addN (a := i) (b := 1) rfl rfl (by omega)) (TO.qa rfl ?_))
    refine TO.nl ?_
    exact ⟨i + 1, by omega, [oI b9 25 (dC X kX), dI 37 4 3 X kX, oI z1 25 (dC a k), rowI z4 zc5 5 1 ((byts ((o.take i).map (fun x => maF p x p.length))) ++ [.int .u8 ((maF p o[i] p.length : Nat) : Int)])], (by exact Sub.d (.k (.k (.k (.k .z))))), z4, zc5, by rw [hux], by omega, ⟨rfl, rfl, rfl, rfl, rfl, rfl, rfl, rfl, rfl, trivial⟩⟩
  have hge64 : ¬ i < o.length := by omega
  refine T.exit ?_
  refine T.s ?_
  have hie : i = o.length := by omega
  subst hie
  obtain ⟨u9, hu9⟩ : ∃ u, o.map (fun x => maF p x p.length) = u := ⟨_, rfl⟩
  have hul : u9.length = o.length := by rw [← hu9, List.length_map]
  have hu8 : ∀ x ∈ u9, x < 256 := fun x hx => by
    rw [← hu9] at hx
    obtain ⟨y, _, rfl⟩ := List.mem_map.1 hx
    have h1 := hR.pn.ma_lt y
    have h64 : 2 ^ p.length ≤ 2 ^ 6 := Nat.pow_le_pow_right (by decide) hp6
    show maF p y p.length < 256
    omega
  have hwd := hR.wd o
  rw [hu9] at hwd
  refine T.sub (O' := [oI b9 25 (dC X kX), dI 37 4 3 X kX, oI z1 25 (dC a k), rowI ub uc 5 1 (byts u9)]) (by rw [← hu9]; rw [List.take_of_length_le (Nat.le_refl _)]; exact Sub.rf) ?_
  refine T.rg ?_
  refine TO.q (q_la 2 underlying25 rfl inf25 rfl rfl rfl) (TO.qm rfl ?_)
  have hk110 := fun (w1 : World) (hI : Inv w [oI b9 25 (dC X kX), dI 37 4 3 X kX, oI z1 25 (dC a k), rowI ub uc 5 1 (byts u9)] w1) => (haveI := tbz hI; acceptsA w1 a k.nb k.fb k.nc k.fc (vals k.qs) (hI.atB ha) ba.1 ba.2.1 ba.2.2 wb wc o (hI.sl hW) (by omega) hw8)
  refine TO.l rfl (l_call ent32 (CallT.op hk110) rfl ?_)
  clear hk110
  rintro vr O' ⟨N, rfl, rfl, rfl⟩
  refine TO.qm rfl (TO.q (q_extract (vs := _) rfl rfl) (TO.q (q_extract (vs := _) rfl rfl) (TO.qa rfl ?_)))
  refine TO.qa rfl ?_
  refine TO.nl ?_
  refine T.reset [oI b9 25 (dC X kX), dI 37 4 3 X kX, oI z1 25 (dC a k), rowI ub uc 5 1 (byts u9)] [(0, (dV a k)), (1, (.slice b1 l.length c1)), (2, (.slice b2 m.length c2)), (3, (.slice wb o.length wc)), (4, (.pointer (some ⟨z1, 0, none⟩))), (9, (.pointer (some ⟨b9, 0, none⟩))), (10, .int .i64 (x1 : Int)), (11, (.slice ub o.length uc)), (12, .int .i64 ((o.length : Nat) : Int)), (15, .bool (accV a o)), (16, .int .i64 (runE a o : Int))] rfl ⟨rfl, rfl, rfl, rfl, rfl, rfl, rfl, rfl, rfl, rfl, rfl, trivial⟩ (fun ρ0 => ?_)
  refine T.s (T.rg ?_)
  refine TO.q (q_la 0 underlying25 rfl inf25 rfl rfl rfl) (TO.qm rfl ?_)
  have hk116 := fun (w1 : World) (hI : Inv w [oI b9 25 (dC X kX), dI 37 4 3 X kX, oI z1 25 (dC a k), rowI ub uc 5 1 (byts u9)] w1) => (haveI := tbz hI; (show PureT _ _ _ _ _ from by
      have h9 := acceptsA w1 X kX.nb kX.fb kX.nc kX.fc (vals kX.qs) (hI.at (k := kX) (mG 1 rfl)) bX.1 bX.2.1 bX.2.2 ub uc u9 (hI.slOf (mG 3 rfl)) (by omega) hu8
      rw [hul] at h9
      exact h9))
  refine TO.l rfl (l_call ent32 (CallT.op hk116) rfl ?_)
  clear hk116
  rintro vr O' ⟨N, rfl, rfl, rfl⟩
  refine TO.qm rfl (TO.q (q_extract (vs := _) rfl rfl) (TO.q (q_extract (vs := _) rfl rfl) (TO.qa rfl ?_)))
  refine TO.qa rfl ?_
  refine TO.nl ?_
  refine T.cut (fun ρ O => Sub [oI b9 25 (dC X kX), dI 37 4 3 X kX, oI z1 25 (dC a k)] O ∧ Heads [(0, (dV a k)), (1, (.slice b1 l.length c1)), (2, (.slice b2 m.length c2)), (3, (.slice wb o.length wc)), (4, (.pointer (some ⟨z1, 0, none⟩))), (9, (.pointer (some ⟨b9, 0, none⟩))), (10, .int .i64 (x1 : Int)), (11, (.slice ub o.length uc)), (12, .int .i64 ((o.length : Nat) : Int)), (15, .bool (accV a o)), (16, .int .i64 (runE a o : Int)), (17, .bool (accV X u9)), (18, .int .i64 (runE X u9 : Int))] ρ) ?_ ?_
  · refine T.s ?_
    refine T.rg ?_
    refine TO.qm rfl (TO.q (q_eql rfl rfl) ?_)
    by_cases hs121 : (runE a o : Int) = 0
    · refine TO.q (QT.toB (q_move rfl) (decide_eq_true hs121)) ?_
      refine TO.gd rfl rfl rfl (LT.oq rfl rfl (q_move rfl) ?_)
      refine TO.gd rfl rfl rfl (LT.oq rfl rfl (QT.toB (q_neq rfl rfl) (decide_eq_false (by have := (hwd (by omega)).1; omega))) ?_)
      refine TO.gd rfl rfl rfl (LT.oq rfl rfl (q_move rfl) ?_)
      refine TO.gd rfl rfl rfl (LT.oq rfl rfl (q_move rfl) ?_)
      refine TO.gd rfl rfl rfl (LT.oq rfl rfl (q_move rfl) ?_)
      refine TO.gd rfl rfl rfl (LT.oq rfl rfl (QT.cast (q_bneq underlying4 rfl rfl) (v' := .bool false) (by rw [(hwd (by omega)).2]; simp)) ?_)
      refine TO.gd rfl rfl rfl (LT.oq rfl rfl (q_pick0 rfl rfl) ?_)
      refine TO.q (q_pick1 rfl rfl) ?_
      refine TO.nl ?_
      refine T.cond0 rfl ?_
      refine T.skip ?_
      exact ⟨(by exact Sub.k (.k (.k .z))), ⟨rfl, rfl, rfl, rfl, rfl, rfl, rfl, rfl, rfl, rfl, rfl, rfl, rfl, trivial⟩⟩
    refine TO.q (QT.toB (q_move rfl) (decide_eq_false hs121)) ?_
    refine TO.pd rfl rfl ?_
    refine TO.pd rfl rfl ?_
    refine TO.pd rfl rfl ?_
    refine TO.pd rfl rfl ?_
    refine TO.pd rfl rfl ?_
    refine TO.pd rfl rfl ?_
    refine TO.pd rfl rfl ?_
    refine TO.q (q_pick0 rfl rfl) ?_
    refine TO.nl ?_
    refine T.cond0 rfl ?_
    refine T.skip ?_
    exact ⟨(by exact Sub.k (.k (.k .z))), ⟨rfl, rfl, rfl, rfl, rfl, rfl, rfl, rfl, rfl, rfl, rfl, rfl, rfl, trivial⟩⟩
  rintro ρ O ⟨hS, hH⟩
  obtain ⟨ρ0, rfl⟩ := hH.elim
  clear hH
  refine T.sub hS ?_
  skip
  refine T.cut (fun ρ O => ∃ (b8 : Nat) (kY : DK), O = [oI b8 25 (dC Y kY), dI 37 4 3 Y kY, oI b9 25 (dC X kX), dI 37 4 3 X kX, oI z1 25 (dC a k)] ∧ Heads [(0, (dV a k)), (1, (.slice b1 l.length c1)), (2, (.slice b2 m.length c2)), (3, (.slice wb o.length wc)), (4, (.pointer (some ⟨z1, 0, none⟩))), (9, (.pointer (some ⟨b9, 0, none⟩))), (10, .int .i64 (x1 : Int)), (11, (.slice ub o.length uc)), (12, .int .i64 ((o.length : Nat) : Int)), (15, .bool (accV a o)), (16, .int .i64 (runE a o : Int)), (17, .bool (accV X u9)), (18, .int .i64 (runE X u9 : Int)), (19, (.pointer (some ⟨b8, 0, none⟩))), (20, .int .i64 (x2 : Int))] ρ) ?_ ?_
  · refine T.tree [oI b9 25 (dC X kX), dI 37 4 3 X kX, oI z1 25 (dC a k)] 10 mixed rfl (by exact Sub.rf) (fun _ _ _ h => h) ?_
    refine RO.quietT 0 rfl (by kernel_rfl) (q_la 0 underlying25 rfl inf25 rfl rfl rfl) ?_
    refine RO.quietT 1 rfl (by kernel_rfl) (q_move rfl) ?_
    have hk133 := fun (w1 : World) (hI : Inv w [oI b9 25 (dC X kX), dI 37 4 3 X kX, oI z1 25 (dC a k)] w1) => (haveI := tbz hI; copyInts w1 b2 c2 m (hI.sl hm) (by omega))
    refine RO.fork [2, 7] (by kernel_rfl) rfl ⟨⟨_, rfl, rfl, l_call ent22 (CallT.op hk133) rfl ?_⟩, ⟨_, rfl, rfl, l_alloc inf25 rfl (fun b8 => ⟨by exact Sub.d (.k (.k (.k .z))), ?_⟩)⟩, trivial⟩
    · clear hk133
      rintro vr O' ⟨N, rfl, pm, pmc, rfl, rfl⟩
      refine ⟨by exact Sub.d (.k (.k (.k .z))), ?_⟩
      have hk134 := fun (w1 : World) (hI : Inv w [rowI pm pmc 3 1 (ints m), oI b9 25 (dC X kX), dI 37 4 3 X kX, oI z1 25 (dC a k)] w1) => (haveI := tbz hI; (show PureT _ _ _ _ _ from by
          have h9 := rnC w1 X kX (hI.at (k := kX) (mG 2 rfl)) bX.1 bX.2.1 bX.2.2 pm pmc m (hI.slOf (mG 0 rfl)) (by omega)
          rw [eY, ex2] at h9
          exact h9))
      refine RO.fork [3, 7] (by kernel_rfl) rfl ⟨⟨_, rfl, rfl, l_call ent28 (CallT.op hk134) rfl ?_⟩, ⟨_, rfl, rfl, l_alloc inf25 rfl (fun b8 => ⟨by exact Sub.d (.d (.k (.k (.k .z)))), ?_⟩)⟩, trivial⟩
      · clear hk134
        rintro vr O' ⟨N, rfl, kY, rfl, rfl⟩
        refine ⟨by exact Sub.d (.d (.k (.k (.k .z)))), ?_⟩
        refine RO.quietT 4 rfl (by kernel_rfl) (q_move rfl) ?_
        refine RO.quietT 5 rfl (by kernel_rfl) (q_extract (vs := _) rfl rfl) ?_
        refine RO.quietT 6 rfl (by kernel_rfl) (q_extract (vs := _) rfl rfl) ?_
        refine RO.fork [7] (by kernel_rfl) rfl ⟨⟨_, rfl, rfl, l_alloc inf25 rfl (fun b8 => ⟨by exact Sub.d (.d (.d (.k (.k (.k .z))))), ?_⟩)⟩, trivial⟩
        refine RO.fork [8] (by kernel_rfl) rfl ⟨⟨_, rfl, rfl, l_sb (v := (dV Y kY)) (vs := (dC Y kY)) 0 inf25 rfl rfl rfl rfl rfl rfl (by simp [putL]) ⟨by exact Sub.d (.d (.d (.k (.k (.k .z))))), ?_⟩⟩, trivial⟩
        refine RO.quietT 9 rfl (by kernel_rfl) (q_assign rfl) ?_
        exact RO.fin (by kernel_rfl) ⟨b8, kY, rfl, ⟨rfl, rfl, rfl, rfl, rfl, rfl, rfl, rfl, rfl, rfl, rfl, rfl, rfl, rfl, rfl, trivial⟩⟩ (by exact Sub.k (.k (.d (.k (.k (.k .z))))))
      have hk134 := fun (w1 : World) (hI : Inv w [oI b8 25 [(.int .i64 0), (.int .i64 0), (.slice none 0 0), (.slice none 0 0)], rowI pm pmc 3 1 (ints m), oI b9 25 (dC X kX), dI 37 4 3 X kX, oI z1 25 (dC a k)] w1) => (haveI := tbz hI; (show PureT _ _ _ _ _ from by
          have h9 := rnC w1 X kX (hI.at (k := kX) (mG 3 rfl)) bX.1 bX.2.1 bX.2.2 pm pmc m (hI.slOf (mG 1 rfl)) (by omega)
          rw [eY, ex2] at h9
          exact h9))
      refine RO.fork [3] (by kernel_rfl) rfl ⟨⟨_, rfl, rfl, l_call ent28 (CallT.op hk134) rfl ?_⟩, trivial⟩
      clear hk134
      rintro vr O' ⟨N, rfl, kY, rfl, rfl⟩
      refine ⟨by exact Sub.d (.d (.d (.k (.k (.k .z))))), ?_⟩
      refine RO.quietT 4 rfl (by kernel_rfl) (q_move rfl) ?_
      refine RO.quietT 5 rfl (by kernel_rfl) (q_extract (vs := _) rfl rfl) ?_
      refine RO.quietT 6 rfl (by kernel_rfl) (q_extract (vs := _) rfl rfl) ?_
      refine RO.fork [8] (by kernel_rfl) rfl ⟨⟨_, rfl, rfl, l_sb (v := (dV Y kY)) (vs := (dC Y kY)) 1 inf25 rfl rfl rfl rfl rfl rfl (by simp [putL]) ⟨by exact Sub.d (.d (.d (.k (.k (.k .z))))), ?_⟩⟩, trivial⟩
      refine RO.quietT 9 rfl (by kernel_rfl) (q_assign rfl) ?_
      exact RO.fin (by kernel_rfl) ⟨b8, kY, rfl, ⟨rfl, rfl, rfl, rfl, rfl, rfl, rfl, rfl, rfl, rfl, rfl, rfl, rfl, rfl, rfl, trivial⟩⟩ (by exact Sub.pull [dI 37 4 3 Y kY] _ (.k (.d (.k (.k (.k .z))))))
    have hk133 := fun (w1 : World) (hI : Inv w [oI b8 25 [(.int .i64 0), (.int .i64 0), (.slice none 0 0), (.slice none 0 0)], oI b9 25 (dC X kX), dI 37 4 3 X kX, oI z1 25 (dC a k)] w1) => (haveI := tbz hI; copyInts w1 b2 c2 m (hI.sl hm) (by omega))
    refine RO.fork [2] (by kernel_rfl) rfl ⟨⟨_, rfl, rfl, l_call ent22 (CallT.op hk133) rfl ?_⟩, trivial⟩
    clear hk133
    rintro vr O' ⟨N, rfl, pm, pmc, rfl, rfl⟩
    refine ⟨by exact Sub.d (.d (.k (.k (.k .z)))), ?_⟩
    have hk134 := fun (w1 : World) (hI : Inv w [rowI pm pmc 3 1 (ints m), oI b8 25 [(.int .i64 0), (.int .i64 0), (.slice none 0 0), (.slice none 0 0)], oI b9 25 (dC X kX), dI 37 4 3 X kX, oI z1 25 (dC a k)] w1) => (haveI := tbz hI; (show PureT _ _ _ _ _ from by
        have h9 := rnC w1 X kX (hI.at (k := kX) (mG 3 rfl)) bX.1 bX.2.1 bX.2.2 pm pmc m (hI.slOf (mG 0 rfl)) (by omega)
        rw [eY, ex2] at h9
        exact h9))
    refine RO.fork [3] (by kernel_rfl) rfl ⟨⟨_, rfl, rfl, l_call ent28 (CallT.op hk134) rfl ?_⟩, trivial⟩
    clear hk134
    rintro vr O' ⟨N, rfl, kY, rfl, rfl⟩
    refine ⟨by exact Sub.d (.d (.d (.k (.k (.k .z))))), ?_⟩
    refine RO.quietT 4 rfl (by kernel_rfl) (q_move rfl) ?_
    refine RO.quietT 5 rfl (by kernel_rfl) (q_extract (vs := _) rfl rfl) ?_
    refine RO.quietT 6 rfl (by kernel_rfl) (q_extract (vs := _) rfl rfl) ?_
    refine RO.fork [8] (by kernel_rfl) rfl ⟨⟨_, rfl, rfl, l_sb (v := (dV Y kY)) (vs := (dC Y kY)) 2 inf25 rfl rfl rfl rfl rfl rfl (by simp [putL]) ⟨by exact Sub.d (.d (.d (.k (.k (.k .z))))), ?_⟩⟩, trivial⟩
    refine RO.quietT 9 rfl (by kernel_rfl) (q_assign rfl) ?_
    exact RO.fin (by kernel_rfl) ⟨b8, kY, rfl, ⟨rfl, rfl, rfl, rfl, rfl, rfl, rfl, rfl, rfl, rfl, rfl, rfl, rfl, rfl, rfl, trivial⟩⟩ (by exact Sub.pull [dI 37 4 3 Y kY, rowI pm pmc 3 1 (ints m)] _ (.k (.d (.k (.k (.k .z))))))
  rintro ρ O ⟨b8, kY, rfl, hH⟩
  obtain ⟨ρ0, rfl⟩ := hH.elim
  clear hH
  refine T.s (T.s (T.rg ?_))
  refine TO.qm rfl (TO.q (q_neq rfl rfl) ?_)
  refine TO.nl ?_
  refine T.condP rfl (fun hc => ?_) (fun hc => ?_)
  · have hlt138 : x2 ≠ 0 := by omega
    refine T.s ?_
    have hz2 := hR.bd m (by omega)
    rw [ex2] at hz2
    have hz3 := ren_err (show rnE X m ≠ 0 by omega)
    rw [eY] at hz3
    refine T.rg ?_
    refine TO.qm rfl (TO.q (QT.toB (q_eql rfl rfl) (decide_eq_true (by omega))) (TO.qm rfl ?_))
    refine TO.gd rfl rfl rfl (LT.oq rfl rfl (q_fa underlying25 rfl inf22 rfl rfl) ?_)
    refine TO.gd rfl rfl rfl (LT.oq rfl rfl (q_lb 0 underlying22 rfl rfl rfl rfl) ?_)
    refine TO.gd rfl rfl rfl (LT.oq rfl rfl (q_len underlying22 rfl) ?_)
    refine TO.gd rfl rfl rfl (LT.oq rfl rfl (QT.toB (q_eql rfl rfl) (decide_eq_true (by omega))) ?_)
    refine TO.q (q_pick1 rfl rfl) (TO.qa rfl ?_)
    refine TO.nl (T.ret (Res.drop ?_))
    refine Res.one (.bool true) Tryz.results8 rfl ?_
    exact ⟨[], Sub.z, rfl, rfl⟩
  have hge138 : ¬ x2 ≠ 0 := by omega
  refine T.skip (T.s ?_)
  obtain ⟨m2, hmm, hm2l, hmi, hml, hm6, hc1, hc2⟩ := hR.ok m (by omega)
  rw [eY] at hc2
  have hms : Sl w b2 (intN m2) := by rw [← hmi]; exact hm
  refine T.rg ?_
  refine TO.qa rfl ?_
  refine TO.nl (T.s (T.s (T.rg ?_)))
  refine TO.qa rfl ?_
  refine TO.nl (T.block ?_)
  refine T.nilRow 3 1 ?_
  refine T.sub (O' := [oI b8 25 (dC Y kY), dI 37 4 3 Y kY, oI b9 25 (dC X kX), dI 37 4 3 X kX, oI z1 25 (dC a k), rowI none 0 3 1 []]) (by exact Sub.pull [rowI none 0 3 1 []] _ (.pull [rowI none 0 3 1 []] _ (.pull [rowI none 0 3 1 []] _ (.pull [rowI none 0 3 1 []] _ (.pull [rowI none 0 3 1 []] _ (.k .z)))))) ?_
  refine T.loopS (fun (e : Nat) ρ O => ∃ (tb : Option Addr) (tc : Nat), O = [oI b8 25 (dC Y kY), dI 37 4 3 Y kY, oI b9 25 (dC X kX), dI 37 4 3 X kX, oI z1 25 (dC a k), rowI tb tc 3 1 (ints ((p.take e).map (fun x => (((m2.getD x 0) : Nat) : Int))))] ∧ e ≤ p.length ∧ Heads [(0, (dV a k)), (1, (.slice b1 l.length c1)), (2, (.slice b2 m.length c2)), (3, (.slice wb o.length wc)), (4, (.pointer (some ⟨z1, 0, none⟩))), (9, (.pointer (some ⟨b9, 0, none⟩))), (10, .int .i64 (x1 : Int)), (11, (.slice ub o.length uc)), (12, .int .i64 ((o.length : Nat) : Int)), (15, .bool (accV a o)), (16, .int .i64 (runE a o : Int)), (17, .bool (accV X u9)), (18, .int .i64 (runE X u9 : Int)), (19, (.pointer (some ⟨b8, 0, none⟩))), (20, .int .i64 (x2 : Int)), (21, (.slice tb e tc)), (22, .int .i64 ((e : Nat) : Int))] ρ) (fun e => p.length - e) 0 ?_ ?_
  · exact ⟨none, 0, rfl, Nat.zero_le _, ⟨rfl, rfl, rfl, rfl, rfl, rfl, rfl, rfl, rfl, rfl, rfl, rfl, rfl, rfl, rfl, rfl, rfl, trivial⟩⟩
  rintro e ρ O ⟨tb, tc, rfl, hi3, hH⟩
  obtain ⟨ρ0, rfl⟩ := hH.elim
  clear hH
  refine T.s (T.s (T.rg ?_))
  refine TO.qm rfl (TO.qm rfl (TO.q (q_len underlying37 rfl) (TO.q (q_lss rfl rfl) ?_)))
  refine TO.nl ?_
  refine T.condP rfl (fun hc => ?_) (fun hc => ?_)
  · have hlt150 : e < l.length := by omega
    have hel : e < p.length := by omega
    have hpe := hR.pn.lt _ (List.getElem_mem hel)
    have hpm : p[e] < m2.length := by omega
    have hbx : ints ((p.take e).map (fun x => (((m2.getD x 0) : Nat) : Int))) ++ [Value.int .i64 ((m2[p[e]] : Nat) : Int)] = ints ((p.take (e + 1)).map (fun x => (((m2.getD x 0) : Nat) : Int))) := by rw [List.take_succ_eq_append_getElem hel]; simp only [List.map_append, List.map_cons, List.map_nil, List.getD_eq_getElem?_getD, List.getElem?_eq_getElem hpm, Option.getD_some]
    refine T.skip (T.s (T.block (T.s (T.s (T.rg ?_)))))
    refine TO.qm rfl (TO.qm rfl (TO.q (q_ix (i := e) underlying37 inf3 rfl rfl (Sl.o hps) (by omega) (by rw [List.length_map]; omega)) (TO.q (q_ld underlying3 rfl rfl (Sl.o hps) (intN_get hel)) ?_)))
    refine TO.qm rfl (TO.q (q_len underlying37 rfl) (TO.q (q_geq rfl rfl) ?_))
    refine TO.nl ?_
    refine T.cond0 (congrArg Value.bool (decide_eq_false (by omega))) ?_
    refine T.skip (T.rg ?_)
    refine TO.qm rfl (TO.qm rfl (TO.qm rfl (TO.qm rfl ?_)))
    refine TO.q (q_ix (i := e) underlying37 inf3 rfl rfl (Sl.o hps) (by omega) (by rw [List.length_map]; omega)) (TO.q (q_ld underlying3 rfl rfl (Sl.o hps) (intN_get hel)) (TO.q (q_ix (i := p[e]) underlying37 inf3 rfl rfl (Sl.o hms) (by omega) (by rw [List.length_map]; exact hpm)) (TO.q (q_ld underlying3 rfl rfl (Sl.o hms) (intN_get hpm)) ?_)))
    refine TO.l rfl (l_build1 (v := .int .i64 ((m2[p[e]] : Nat) : Int)) underlying37 inf3 rfl rfl rfl (fun z6 => ?_))
    refine TO.l rfl (l_append 6 underlying37 underlying37 inf3 rfl rfl rfl rfl (by rw [List.length_map, List.length_map, List.length_take]; omega) (by decide) (Src.row (j := 0) rfl (by simp)) (by simp [oneB]) (by omega) (by decide) (by decide) (fun z7 zc8 => ?_))
    refine TO.qa rfl ?_
    refine TO.nl (T.rg ?_)
    refine TO.qm rfl (TO.q (q_addN (a := e) (b := 1) rfl rfl (by omega)) (TO.qa rfl ?_))
    refine TO.nl ?_
    exact ⟨e + 1, by omega, [oI b8 25 (dC Y kY), dI 37 4 3 Y kY, oI b9 25 (dC X kX), dI 37 4 3 X kX, oI z1 25 (dC a k), rowI z7 zc8 3 1 ((ints ((p.take e).map (fun x => (((m2.getD x 0) : Nat) : Int)))) ++ [.int .i64 ((m2[p[e]] : Nat) : Int)])], (by exact Sub.d (.k (.k (.k (.k (.k (.k .z))))))), z7, zc8, by rw [hbx], by omega, ⟨rfl, rfl, rfl, rfl, rfl, rfl, rfl, rfl, rfl, rfl, rfl, rfl, rfl, rfl, rfl, rfl, rfl, trivial⟩⟩
  have hge150 : ¬ e < l.length := by omega
  refine T.exit ?_
  refine T.s ?_
  have hee : e = p.length := by omega
  subst hee
  obtain ⟨b9l, hb9⟩ : ∃ u, p.map (fun x => (((m2.getD x 0) : Nat) : Int)) = u := ⟨_, rfl⟩
  have hbl : b9l.length = p.length := by rw [← hb9, List.length_map]
  rw [hb9] at hc1 hc2
  refine T.sub (O' := [oI b8 25 (dC Y kY), dI 37 4 3 Y kY, oI b9 25 (dC X kX), dI 37 4 3 X kX, oI z1 25 (dC a k), rowI tb tc 3 1 (ints b9l)]) (by rw [← hb9]; rw [List.take_of_length_le (Nat.le_refl _)]; exact Sub.rf) ?_
  refine T.rg ?_
  refine TO.q (q_la 4 underlying25 rfl inf25 rfl rfl rfl) (TO.qm rfl ?_)
  have hk173 := fun (w1 : World) (hI : Inv w [oI b8 25 (dC Y kY), dI 37 4 3 Y kY, oI b9 25 (dC X kX), dI 37 4 3 X kX, oI z1 25 (dC a k), rowI tb tc 3 1 (ints b9l)] w1) => (haveI := tbz hI; (show PureT _ _ _ _ _ from by
      have h9 := rnC w1 a k (hI.atB ha) ba.1 ba.2.1 ba.2.2 tb tc b9l (hI.slOf (mG 5 rfl)) (by omega)
      rw [hc1, ← hc2, hbl] at h9
      exact h9))
  refine TO.l rfl (l_call ent28 (CallT.op hk173) rfl ?_)
  clear hk173
  rintro vr O' ⟨N, rfl, kZ, rfl, rfl⟩
  refine TO.qm rfl (TO.q (q_extract (vs := _) rfl rfl) (TO.q (q_extract (vs := _) rfl rfl) ?_))
  refine TO.l rfl (l_alloc inf25 rfl (fun z9 => ?_))
  refine TO.l rfl (l_sb (v := (dV Y kZ)) (vs := (dC Y kZ)) 0 inf25 rfl rfl rfl rfl rfl rfl (by simp [putL]) ?_)
  refine TO.qa rfl ?_
  refine TO.nl ?_
  refine T.reset [oI z9 25 (dC Y kZ), dI 37 4 3 Y kZ, oI b8 25 (dC Y kY), dI 37 4 3 Y kY, oI b9 25 (dC X kX), dI 37 4 3 X kX, oI z1 25 (dC a k), rowI tb tc 3 1 (ints b9l)] [(0, (dV a k)), (1, (.slice b1 l.length c1)), (2, (.slice b2 m.length c2)), (3, (.slice wb o.length wc)), (4, (.pointer (some ⟨z1, 0, none⟩))), (9, (.pointer (some ⟨b9, 0, none⟩))), (10, .int .i64 (x1 : Int)), (11, (.slice ub o.length uc)), (12, .int .i64 ((o.length : Nat) : Int)), (15, .bool (accV a o)), (16, .int .i64 (runE a o : Int)), (17, .bool (accV X u9)), (18, .int .i64 (runE X u9 : Int)), (19, (.pointer (some ⟨b8, 0, none⟩))), (20, .int .i64 (x2 : Int)), (21, (.slice tb p.length tc)), (22, .int .i64 ((p.length : Nat) : Int)), (23, (.pointer (some ⟨z9, 0, none⟩))), (24, .int .i64 0)] rfl ⟨rfl, rfl, rfl, rfl, rfl, rfl, rfl, rfl, rfl, rfl, rfl, rfl, rfl, rfl, rfl, rfl, rfl, rfl, rfl, trivial⟩ (fun ρ0 => ?_)
  refine T.s (T.rg ?_)
  refine TO.qm rfl (TO.q (QT.toB (q_eql rfl rfl) (decide_eq_true rfl)) (TO.qm rfl ?_))
  refine TO.gd rfl rfl rfl (LT.oq rfl rfl (q_la 2 underlying25 rfl inf25 rfl rfl rfl) ?_)
  refine TO.gd rfl rfl rfl (LT.oq rfl rfl (q_la 0 underlying25 rfl inf25 rfl rfl rfl) ?_)
  have hk181 := fun (w1 : World) (hI : Inv w [oI z9 25 (dC Y kZ), dI 37 4 3 Y kZ, oI b8 25 (dC Y kY), dI 37 4 3 Y kY, oI b9 25 (dC X kX), dI 37 4 3 X kX, oI z1 25 (dC a k), rowI tb tc 3 1 (ints b9l)] w1) => (haveI := tbz hI; equalK w1 Y kY kZ (hI.at (k := kY) (mG 3 rfl)) (hI.at (k := kZ) (mG 1 rfl)) bY.1 bY.2.1 bY.2.2)
  refine TO.gd rfl rfl rfl (l_call ent19 (CallT.op hk181) rfl ?_)
  clear hk181
  rintro vr O' ⟨N, rfl, rfl, rfl⟩
  refine TO.q (q_pick1 rfl rfl) (TO.qa rfl ?_)
  refine TO.nl (T.ret (Res.drop ?_))
  refine Res.one (.bool true) Tryz.results8 rfl ?_
  exact ⟨[], Sub.z, rfl, rfl⟩
end Go.Proofs.YtohkmggbfcnapaaGreatDoor

