/- Contracts of functions of the program (QjC): what each call answers and that it leaves memory as it was. Conditions: those each theorem names. -/
import Derived.Test.YtohkmggbfcnapaaGreatDoorCoreK
import Derived.Test.YtohkmggbfcnapaaGreatDoorBolE
import Derived.Test.YtohkmggbfcnapaaGreatDoorEnd
set_option linter.unusedSectionVars false
set_option linter.unusedSimpArgs false
set_option linter.unusedVariables false
set_option linter.unnecessarySimpa false
set_option maxHeartbeats 8000000
set_option maxRecDepth 20000
namespace Go.Proofs.YtohkmggbfcnapaaGreatDoor
open Go.Lx Go.RowKit _root_.Go.Proofs.Tryz
theorem changesW (w : World) [Tab Tryz.prog w] (a : DFA) (k : DK) (ha : At w a k) (haa : a.next.length < 9223372036854775807) (haar : ∀ r ∈ a.next, r.length < 9223372036854775807) (haaf : a.final.length < 9223372036854775807) (v : Int) (pb : Option Addr) (pc : Nat) (l : List Int) (hp : Sl w pb (ints l)) (hpc : l.length ≤ pc) :
  PureT Tryz.prog 4 [dV a k, vI v, .slice pb l.length pc] w fun r N => r = .bool true ∧ N = [] := by
 refine CallT.enter func4 rfl ntmps4 rfl ?_
 refine T.s (T.rg (TO.l rfl (l_box (v := (dV a k)) (cs := (dC a k)) rfl rfl (fun z1 => ?_))))
 refine TO.qa rfl (TO.nl ?_)
 refine T.cut (fun ρ O => Sub [oI z1 25 (dC a k)] O ∧ (¬ longB [a] = true ∧ l.length ≤ 20) ∧ Heads [(0, (dV a k)), (1, vI v), (2, (.slice pb l.length pc)), (3, (.pointer (aD z1)))] ρ) ?_ ?_
 ·refine T.s ?_
  refine T.rg (TO.q (q_la 0 uT25 rfl inf25 rfl rfl rfl) (TO.l rfl (l_buildSlice (m := 1) (parts := [(0, _)]) (cs := (dC a k)) uT56 inf25 (by decide) (by kernel_rfl) rfl (fun z2 => ?_))))
  have hk24 := fun (w1 : World) (hI : Inv w [rowI (aD z2) 1 25 4 (dC a k), oI z1 25 (dC a k)] w1) => (haveI := tbz hI; long1K w1 (aD z2) a k (hI.slOf (mG 0 rfl)) (hI.atB ha) haa)
  refine TO.l rfl (l_call ent10 (CallT.op hk24) rfl ?_)
  clear hk24
  rintro vr O' ⟨N, rfl, rfl, rfl⟩
  by_cases hs25 : (longB [a]) = true
  ·refine TO.q (QT.toB (q_move rfl) (hs25)) ?_
   refine TO.pd rfl rfl (TO.pd rfl rfl (TO.pd rfl rfl (TO.q (q_pick1 rfl rfl) (TO.qm rfl (TO.pd rfl rfl (TO.pd rfl rfl (TO.pd rfl rfl (TO.pd rfl rfl ?_))))))))
   refine TO.pd rfl rfl (TO.pd rfl rfl (TO.pd rfl rfl (TO.pd rfl rfl (TO.q (q_pick1 rfl rfl) (TO.nl ?_)))))
   refine T.cond1 rfl ?_
   refine T.s (T.rg ?_)
   have hk40 := fun (w1 : World) (hI : Inv w [rowI (aD z2) 1 25 4 (dC a k), oI z1 25 (dC a k)] w1) => (haveI := tbz hI; awakeC w1)
   refine TO.l rfl (l_call ent11 (CallT.op hk40) rfl ?_)
   clear hk40
   rintro vr O' ⟨N, rfl, rfl, rfl⟩
   refine TO.qa rfl (TO.nl (T.ret (Res.drop ?_)))
   refine Res.one (.bool true) Tryz.results4 rfl ?_
   exact ⟨[], Sub.z, rfl, rfl⟩
  refine TO.q (QT.toB (q_move rfl) (Bool.eq_false_iff.2 hs25)) (TO.gq rfl rfl (q_move rfl) (TO.gq rfl rfl (q_len uT37 rfl) (TO.gq rfl rfl (q_gtr rfl rfl) (TO.q (q_pick0 rfl rfl) ?_))))
  by_cases hs30 : (l.length : Int) > 20
  ·refine TO.q (QT.toB (q_move rfl) (decide_eq_true hs30)) ?_
   refine TO.pd rfl rfl (TO.pd rfl rfl (TO.pd rfl rfl (TO.pd rfl rfl (TO.pd rfl rfl (TO.pd rfl rfl (TO.pd rfl rfl (TO.pd rfl rfl ?_)))))))
   refine TO.q (q_pick1 rfl rfl) (TO.nl ?_)
   refine T.cond1 rfl ?_
   refine T.s (T.rg ?_)
   have hk40 := fun (w1 : World) (hI : Inv w [rowI (aD z2) 1 25 4 (dC a k), oI z1 25 (dC a k)] w1) => (haveI := tbz hI; awakeC w1)
   refine TO.l rfl (l_call ent11 (CallT.op hk40) rfl ?_)
   clear hk40
   rintro vr O' ⟨N, rfl, rfl, rfl⟩
   refine TO.qa rfl (TO.nl (T.ret (Res.drop ?_)))
   refine Res.one (.bool true) Tryz.results4 rfl ?_
   exact ⟨[], Sub.z, rfl, rfl⟩
  refine TO.q (QT.toB (q_move rfl) (decide_eq_false hs30)) (TO.gq rfl rfl (q_la 1 uT25 rfl inf25 rfl rfl rfl) ?_)
  have hk32 := fun (w1 : World) (hI : Inv w [rowI (aD z2) 1 25 4 (dC a k), oI z1 25 (dC a k)] w1) => (haveI := tbz hI; refCheck w1 a k.nb k.fb k.nc k.fc (vals k.qs) (hI.dfa ha) haa haar haaf)
  refine TO.gd rfl rfl rfl (l_call ent21 (CallT.op hk32) rfl ?_)
  clear hk32
  rintro vr O' ⟨N, rfl, rfl, rfl⟩
  refine TO.gq rfl rfl (q_eql rfl rfl) ?_
  by_cases hs34 : (checkD a : Int) = 0
  ·refine TO.gq rfl rfl (QT.toB (q_move rfl) (decide_eq_true hs34)) ?_
   refine TO.gq rfl rfl (q_fa uT25 rfl inf3 rfl rfl) (TO.gq rfl rfl (q_lb 1 uT3 rfl rfl rfl rfl) (TO.gq rfl rfl (q_gtr rfl rfl) (TO.gq rfl rfl (q_pick1 rfl rfl) (TO.q (q_pick0 rfl rfl) (TO.nl (T.condP rfl (fun hc => ?_) (fun hc => ?_)))))))
   ·refine T.s ?_
    refine T.rg ?_
    have hk40 := fun (w1 : World) (hI : Inv w [rowI (aD z2) 1 25 4 (dC a k), oI z1 25 (dC a k)] w1) => (haveI := tbz hI; awakeC w1)
    refine TO.l rfl (l_call ent11 (CallT.op hk40) rfl ?_)
    clear hk40
    rintro vr O' ⟨N, rfl, rfl, rfl⟩
    refine TO.qa rfl (TO.nl (T.ret (Res.drop ?_)))
    refine Res.one (.bool true) Tryz.results4 rfl ?_
    exact ⟨[], Sub.z, rfl, rfl⟩
   refine T.skip ?_
   exact ⟨(by exact Sub.d (.k .z)), ⟨by simp_all, by omega⟩, ⟨rfl, rfl, rfl, rfl, trivial⟩⟩
  refine TO.gq rfl rfl (QT.toB (q_move rfl) (decide_eq_false hs34)) (TO.pd rfl rfl (TO.pd rfl rfl (TO.pd rfl rfl (TO.gq rfl rfl (q_pick0 rfl rfl) (TO.q (q_pick0 rfl rfl) (TO.nl (T.cond0 rfl ?_)))))))
  refine T.skip ?_
  exact ⟨(by exact Sub.d (.k .z)), ⟨by simp_all, by omega⟩, ⟨rfl, rfl, rfl, rfl, trivial⟩⟩
 rintro ρ O ⟨hS, ⟨hnl, hl20⟩, hH⟩
 obtain ⟨ρ0, rfl⟩ := hH.elim
 clear hH
 refine T.sub hS ?_
 refine T.s ?_
 have sa : Sh a := longB_one hnl
 have ba : Bd9 a := ⟨haa, haar, haaf⟩
 have hn8 := sa.n8
 obtain ⟨X, eX⟩ : ∃ zz, drV a v = zz := ⟨_, rfl⟩
 obtain ⟨x1, ex1⟩ : ∃ zz, drE a v = zz := ⟨_, rfl⟩
 obtain ⟨Y, eY⟩ : ∃ zz, inV a v = zz := ⟨_, rfl⟩
 obtain ⟨x2, ex2⟩ : ∃ zz, inE2 a v = zz := ⟨_, rfl⟩
 obtain ⟨Z, eZ⟩ : ∃ zz, rnV a l = zz := ⟨_, rfl⟩
 obtain ⟨x3, ex3⟩ : ∃ zz, rnE a l = zz := ⟨_, rfl⟩
 have bX : Bd9 X := eX ▸ bdDr
 have bY : Bd9 Y := eY ▸ bdIn
 have bZ : Bd9 Z := eZ ▸ bdRn
 refine T.rg (TO.q (q_la 0 uT25 rfl inf25 rfl rfl rfl) ?_)
 have hk42 := fun (w1 : World) (hI : Inv w [oI z1 25 (dC a k)] w1) => (haveI := tbz hI; copyK w1 a k (hI.atB ha) (by have := sa.n8; omega) (fun r hr => by have := sa.r100 r hr; omega) (by have := sa.f40; omega))
 refine TO.l rfl (l_call ent12 (CallT.op hk42) rfl ?_)
 clear hk42
 rintro vr O' ⟨N, rfl, k1, rfl, rfl⟩
 refine TO.qm rfl ?_
 have hk44 := fun (w1 : World) (hI : Inv w [dI 37 4 3 a k1, oI z1 25 (dC a k)] w1) => (haveI := tbz hI; copyInts w1 pb pc l (hI.sl hp) (by omega))
 refine TO.l rfl (l_call ent22 (CallT.op hk44) rfl ?_)
 clear hk44
 rintro vr O' ⟨N, rfl, pn, pd, rfl, rfl⟩
 refine TO.l rfl (l_alloc inf25 rfl (fun z3 => ?_))
 refine TO.l rfl (l_sb (v := (dV a k1)) (vs := (dC a k1)) 0 inf25 rfl rfl rfl rfl rfl rfl (by simp [putL]) ?_)
 refine TO.qa rfl ?_
 refine TO.sub (O' := [oI z3 25 (dC a k1), rowI pn pd 3 1 (ints l), dI 37 4 3 a k1, oI z1 25 (dC a k)]) (by exact Sub.rf) ?_
 refine TO.nl (T.s (T.rg (TO.q (q_la 3 uT25 rfl inf25 rfl rfl rfl) (TO.qm rfl ?_))))
 have hk48 := fun (w1 : World) (hI : Inv w [oI z3 25 (dC a k1), rowI pn pd 3 1 (ints l), dI 37 4 3 a k1, oI z1 25 (dC a k)] w1) => (haveI := tbz hI; (show PureT _ _ _ _ _ from by
   have h9 := rdrC w1 a k (hI.atB ha) ba.1 ba.2.1 ba.2.2 v 
   rw [eX, ex1] at h9
   exact h9))
 refine TO.l rfl (l_call ent23 (CallT.op hk48) rfl ?_)
 clear hk48
 rintro vr O' ⟨N, rfl, kX, rfl, rfl⟩
 refine TO.qm rfl (TO.q (q_extract (vs := _) rfl rfl) (TO.q (q_extract (vs := _) rfl rfl) (TO.l rfl (l_alloc inf25 rfl (fun z4 => ?_)))))
 refine TO.l rfl (l_sb (v := (dV X kX)) (vs := (dC X kX)) 0 inf25 rfl rfl rfl rfl rfl rfl (by simp [putL]) ?_)
 refine TO.qa rfl ?_
 refine TO.sub (O' := [oI z4 25 (dC X kX), dI 37 4 3 X kX, oI z3 25 (dC a k1), rowI pn pd 3 1 (ints l), dI 37 4 3 a k1, oI z1 25 (dC a k)]) (by exact Sub.rf) ?_
 refine TO.nl ?_
 refine T.reset [oI z4 25 (dC X kX), dI 37 4 3 X kX, oI z3 25 (dC a k1), rowI pn pd 3 1 (ints l), dI 37 4 3 a k1, oI z1 25 (dC a k)] [(0, (dV a k)), (1, vI v), (2, (.slice pb l.length pc)), (3, (.pointer (aD z1))), (7, (.pointer (aD z3))), (8, (.slice pn l.length pd)), (9, (.pointer (aD z4))), (10, vI (x1 : Int))] rfl (.of rfl) (fun ρ0 => ?_)
 refine T.s (T.rg (TO.q (q_la 5 uT25 rfl inf25 rfl rfl rfl) (TO.qm rfl ?_)))
 have hk54 := fun (w1 : World) (hI : Inv w [oI z4 25 (dC X kX), dI 37 4 3 X kX, oI z3 25 (dC a k1), rowI pn pd 3 1 (ints l), dI 37 4 3 a k1, oI z1 25 (dC a k)] w1) => (haveI := tbz hI; (show PureT _ _ _ _ _ from by
   have h9 := rinC w1 a k (hI.atB ha) ba.1 ba.2.1 ba.2.2 v 
   rw [eY, ex2] at h9
   exact h9))
 refine TO.l rfl (l_call ent24 (CallT.op hk54) rfl ?_)
 clear hk54
 rintro vr O' ⟨N, rfl, kY, rfl, rfl⟩
 refine TO.qm rfl (TO.q (q_extract (vs := _) rfl rfl) (TO.q (q_extract (vs := _) rfl rfl) (TO.l rfl (l_alloc inf25 rfl (fun z5 => ?_)))))
 refine TO.l rfl (l_sb (v := (dV Y kY)) (vs := (dC Y kY)) 0 inf25 rfl rfl rfl rfl rfl rfl (by simp [putL]) ?_)
 refine TO.qa rfl ?_
 refine TO.sub (O' := [oI z5 25 (dC Y kY), dI 37 4 3 Y kY, oI z4 25 (dC X kX), dI 37 4 3 X kX, oI z3 25 (dC a k1), rowI pn pd 3 1 (ints l), dI 37 4 3 a k1, oI z1 25 (dC a k)]) (by exact Sub.rf) ?_
 refine TO.nl (T.s (T.rg (TO.q (q_la 7 uT25 rfl inf25 rfl rfl rfl) (TO.qm rfl ?_))))
 have hk60 := fun (w1 : World) (hI : Inv w [oI z5 25 (dC Y kY), dI 37 4 3 Y kY, oI z4 25 (dC X kX), dI 37 4 3 X kX, oI z3 25 (dC a k1), rowI pn pd 3 1 (ints l), dI 37 4 3 a k1, oI z1 25 (dC a k)] w1) => (haveI := tbz hI; (show PureT _ _ _ _ _ from by
   have h9 := rrnC w1 a k (hI.atB ha) ba.1 ba.2.1 ba.2.2 pb pc l (hI.sl hp) (by omega) hpc 
   rw [eZ, ex3] at h9
   exact h9))
 refine TO.l rfl (l_call ent25 (CallT.op hk60) rfl ?_)
 clear hk60
 rintro vr O' ⟨N, rfl, kZ, rfl, rfl⟩
 refine TO.qm rfl (TO.q (q_extract (vs := _) rfl rfl) (TO.q (q_extract (vs := _) rfl rfl) (TO.l rfl (l_alloc inf25 rfl (fun z6 => ?_)))))
 refine TO.l rfl (l_sb (v := (dV Z kZ)) (vs := (dC Z kZ)) 0 inf25 rfl rfl rfl rfl rfl rfl (by simp [putL]) ?_)
 refine TO.qa rfl ?_
 refine TO.sub (O' := [oI z6 25 (dC Z kZ), dI 37 4 3 Z kZ, oI z5 25 (dC Y kY), dI 37 4 3 Y kY, oI z4 25 (dC X kX), dI 37 4 3 X kX, oI z3 25 (dC a k1), rowI pn pd 3 1 (ints l), dI 37 4 3 a k1, oI z1 25 (dC a k)]) (by exact Sub.rf) ?_
 refine TO.nl ?_
 refine T.reset [oI z6 25 (dC Z kZ), dI 37 4 3 Z kZ, oI z5 25 (dC Y kY), dI 37 4 3 Y kY, oI z4 25 (dC X kX), dI 37 4 3 X kX, oI z3 25 (dC a k1), rowI pn pd 3 1 (ints l), dI 37 4 3 a k1, oI z1 25 (dC a k)] [(0, (dV a k)), (1, vI v), (2, (.slice pb l.length pc)), (3, (.pointer (aD z1))), (7, (.pointer (aD z3))), (8, (.slice pn l.length pd)), (9, (.pointer (aD z4))), (10, vI (x1 : Int)), (11, (.pointer (aD z5))), (12, vI (x2 : Int)), (13, (.pointer (aD z6))), (14, vI (x3 : Int))] rfl (.of rfl) (fun ρ0 => ?_)
 refine T.s (T.s (T.rg (TO.qa rfl (TO.nl (T.block ?_)))))
 refine T.sub (O' := [oI z6 25 (dC Z kZ), dI 37 4 3 Z kZ, oI z5 25 (dC Y kY), dI 37 4 3 Y kY, oI z4 25 (dC X kX), dI 37 4 3 X kX, oI z3 25 (dC a k1), rowI pn pd 3 1 (ints l), dI 37 4 3 a k1, oI z1 25 (dC a k)]) (by exact Sub.rf) ?_
 refine T.loopS (fun (r : Nat) ρ O => O = [oI z6 25 (dC Z kZ), dI 37 4 3 Z kZ, oI z5 25 (dC Y kY), dI 37 4 3 Y kY, oI z4 25 (dC X kX), dI 37 4 3 X kX, oI z3 25 (dC a k1), rowI pn pd 3 1 (ints l), dI 37 4 3 a k1, oI z1 25 (dC a k)] ∧ r ≤ 2 ∧ Heads [(0, (dV a k)), (1, vI v), (2, (.slice pb l.length pc)), (3, (.pointer (aD z1))), (7, (.pointer (aD z3))), (8, (.slice pn l.length pd)), (9, (.pointer (aD z4))), (10, vI (x1 : Int)), (11, (.pointer (aD z5))), (12, vI (x2 : Int)), (13, (.pointer (aD z6))), (14, vI (x3 : Int)), (15, vI ((r : Nat) : Int))] ρ) (fun r => 2 - r) 0 ?_ ?_
 ·exact ⟨rfl, Nat.zero_le _, (.of rfl)⟩
 rintro r ρ O ⟨rfl, hr, hH⟩
 obtain ⟨ρ0, rfl⟩ := hH.elim
 clear hH
 refine T.s (T.s (T.rg (TO.qm rfl (TO.q (q_lss rfl rfl) (TO.nl (T.condP rfl (fun hc => ?_) (fun hc => ?_)))))))
 ·have hlt64 : r < 2 := by omega
  refine T.skip (T.s (T.block (T.s (T.rg (TO.q (q_la 6 uT25 rfl inf25 rfl rfl rfl) (TO.qm rfl ?_))))))
  have hk70 := fun (w1 : World) (hI : Inv w [oI z6 25 (dC Z kZ), dI 37 4 3 Z kZ, oI z5 25 (dC Y kY), dI 37 4 3 Y kY, oI z4 25 (dC X kX), dI 37 4 3 X kX, oI z3 25 (dC a k1), rowI pn pd 3 1 (ints l), dI 37 4 3 a k1, oI z1 25 (dC a k)] w1) => (haveI := tbz hI; (show PureT _ _ _ _ _ from by
    have h9 := drC w1 a k1 (hI.at (k := k1) (mG 8 rfl)) ba.1 ba.2.1 ba.2.2 v 
    rw [eX, ex1] at h9
    exact h9))
  refine TO.l rfl (l_call ent26 (CallT.op hk70) rfl ?_)
  clear hk70
  rintro vr O' ⟨N, rfl, kx, rfl, rfl⟩
  refine TO.qm rfl (TO.q (q_extract (vs := _) rfl rfl) (TO.q (q_extract (vs := _) rfl rfl) (TO.l rfl (l_alloc inf25 rfl (fun z7 => ?_)))))
  refine TO.l rfl (l_sb (v := (dV X kx)) (vs := (dC X kx)) 0 inf25 rfl rfl rfl rfl rfl rfl (by simp [putL]) ?_)
  refine TO.qa rfl (TO.nl (T.s (T.rg (TO.q (q_la 8 uT25 rfl inf25 rfl rfl rfl) (TO.qm rfl ?_)))))
  have hk76 := fun (w1 : World) (hI : Inv w [oI z7 25 (dC X kx), dI 37 4 3 X kx, oI z6 25 (dC Z kZ), dI 37 4 3 Z kZ, oI z5 25 (dC Y kY), dI 37 4 3 Y kY, oI z4 25 (dC X kX), dI 37 4 3 X kX, oI z3 25 (dC a k1), rowI pn pd 3 1 (ints l), dI 37 4 3 a k1, oI z1 25 (dC a k)] w1) => (haveI := tbz hI; (show PureT _ _ _ _ _ from by
    have h9 := insC w1 a k1 (hI.at (k := k1) (mG 10 rfl)) ba.1 ba.2.1 ba.2.2 v 
    rw [eY, ex2] at h9
    exact h9))
  refine TO.l rfl (l_call ent27 (CallT.op hk76) rfl ?_)
  clear hk76
  rintro vr O' ⟨N, rfl, ky, rfl, rfl⟩
  refine TO.qm rfl (TO.q (q_extract (vs := _) rfl rfl) (TO.q (q_extract (vs := _) rfl rfl) (TO.l rfl (l_alloc inf25 rfl (fun z8 => ?_)))))
  refine TO.l rfl (l_sb (v := (dV Y ky)) (vs := (dC Y ky)) 0 inf25 rfl rfl rfl rfl rfl rfl (by simp [putL]) ?_)
  refine TO.qa rfl (TO.nl ?_)
  refine T.reset [oI z8 25 (dC Y ky), dI 37 4 3 Y ky, oI z7 25 (dC X kx), dI 37 4 3 X kx, oI z6 25 (dC Z kZ), dI 37 4 3 Z kZ, oI z5 25 (dC Y kY), dI 37 4 3 Y kY, oI z4 25 (dC X kX), dI 37 4 3 X kX, oI z3 25 (dC a k1), rowI pn pd 3 1 (ints l), dI 37 4 3 a k1, oI z1 25 (dC a k)] [(0, (dV a k)), (1, vI v), (2, (.slice pb l.length pc)), (3, (.pointer (aD z1))), (7, (.pointer (aD z3))), (8, (.slice pn l.length pd)), (9, (.pointer (aD z4))), (10, vI (x1 : Int)), (11, (.pointer (aD z5))), (12, vI (x2 : Int)), (13, (.pointer (aD z6))), (14, vI (x3 : Int)), (15, vI ((r : Nat) : Int)), (16, (.pointer (aD z7))), (17, vI (x1 : Int)), (18, (.pointer (aD z8))), (19, vI (x2 : Int))] rfl (.of rfl) (fun ρ0 => ?_)
  refine T.s (T.rg (TO.q (q_la 10 uT25 rfl inf25 rfl rfl rfl) (TO.qm rfl ?_)))
  have hk82 := fun (w1 : World) (hI : Inv w [oI z8 25 (dC Y ky), dI 37 4 3 Y ky, oI z7 25 (dC X kx), dI 37 4 3 X kx, oI z6 25 (dC Z kZ), dI 37 4 3 Z kZ, oI z5 25 (dC Y kY), dI 37 4 3 Y kY, oI z4 25 (dC X kX), dI 37 4 3 X kX, oI z3 25 (dC a k1), rowI pn pd 3 1 (ints l), dI 37 4 3 a k1, oI z1 25 (dC a k)] w1) => (haveI := tbz hI; (show PureT _ _ _ _ _ from by
    have h9 := rnC w1 a k1 (hI.at (k := k1) (mG 12 rfl)) ba.1 ba.2.1 ba.2.2 pn pd l (hI.slOf (mG 11 rfl)) (by omega)
    rw [eZ, ex3] at h9
    exact h9))
  refine TO.l rfl (l_call ent28 (CallT.op hk82) rfl ?_)
  clear hk82
  rintro vr O' ⟨N, rfl, kz, rfl, rfl⟩
  refine TO.qm rfl (TO.q (q_extract (vs := _) rfl rfl) (TO.q (q_extract (vs := _) rfl rfl) (TO.l rfl (l_alloc inf25 rfl (fun z9 => ?_)))))
  refine TO.l rfl (l_sb (v := (dV Z kz)) (vs := (dC Z kz)) 0 inf25 rfl rfl rfl rfl rfl rfl (by simp [putL]) ?_)
  refine TO.qa rfl (TO.nl (T.s (T.s (T.rg (TO.qm rfl (TO.qm rfl (TO.q (QT.toB (q_neq rfl rfl) (decide_eq_false (fun h => h rfl))) (TO.qm rfl (TO.gq rfl rfl (q_move rfl) (TO.gq rfl rfl (q_move rfl) (TO.gq rfl rfl (QT.toB (q_neq rfl rfl) (decide_eq_false (fun h => h rfl))) (TO.q (q_pick0 rfl rfl) (TO.qm rfl (TO.gq rfl rfl (q_move rfl) ?_))))))))))))))
  refine TO.gq rfl rfl (q_move rfl) (TO.gq rfl rfl (QT.toB (q_neq rfl rfl) (decide_eq_false (fun h => h rfl))) (TO.q (q_pick0 rfl rfl) (TO.qm rfl (TO.gq rfl rfl (q_la 4 uT25 rfl inf25 rfl rfl rfl) (TO.gq rfl rfl (q_la 10 uT25 rfl inf25 rfl rfl rfl) ?_)))))
  have hk101 := fun (w1 : World) (hI : Inv w [oI z9 25 (dC Z kz), dI 37 4 3 Z kz, oI z8 25 (dC Y ky), dI 37 4 3 Y ky, oI z7 25 (dC X kx), dI 37 4 3 X kx, oI z6 25 (dC Z kZ), dI 37 4 3 Z kZ, oI z5 25 (dC Y kY), dI 37 4 3 Y kY, oI z4 25 (dC X kX), dI 37 4 3 X kX, oI z3 25 (dC a k1), rowI pn pd 3 1 (ints l), dI 37 4 3 a k1, oI z1 25 (dC a k)] w1) => (haveI := tbz hI; equalK w1 X kx kX (hI.at (k := kx) (mG 5 rfl)) (hI.at (k := kX) (mG 11 rfl)) bX.1 bX.2.1 bX.2.2)
  refine TO.gd rfl rfl rfl (l_call ent19 (CallT.op hk101) rfl ?_)
  clear hk101
  rintro vr O' ⟨N, rfl, rfl, rfl⟩
  refine TO.gq rfl rfl (q_not rfl) (TO.q (q_pick0 rfl rfl) (TO.qm rfl (TO.gq rfl rfl (q_la 2 uT25 rfl inf25 rfl rfl rfl) (TO.gq rfl rfl (q_la 8 uT25 rfl inf25 rfl rfl rfl) ?_))))
  have hk107 := fun (w1 : World) (hI : Inv w [oI z9 25 (dC Z kz), dI 37 4 3 Z kz, oI z8 25 (dC Y ky), dI 37 4 3 Y ky, oI z7 25 (dC X kx), dI 37 4 3 X kx, oI z6 25 (dC Z kZ), dI 37 4 3 Z kZ, oI z5 25 (dC Y kY), dI 37 4 3 Y kY, oI z4 25 (dC X kX), dI 37 4 3 X kX, oI z3 25 (dC a k1), rowI pn pd 3 1 (ints l), dI 37 4 3 a k1, oI z1 25 (dC a k)] w1) => (haveI := tbz hI; equalK w1 Y ky kY (hI.at (k := ky) (mG 3 rfl)) (hI.at (k := kY) (mG 9 rfl)) bY.1 bY.2.1 bY.2.2)
  refine TO.gd rfl rfl rfl (l_call ent19 (CallT.op hk107) rfl ?_)
  clear hk107
  rintro vr O' ⟨N, rfl, rfl, rfl⟩
  refine TO.gq rfl rfl (q_not rfl) (TO.q (q_pick0 rfl rfl) (TO.qm rfl (TO.gq rfl rfl (q_la 0 uT25 rfl inf25 rfl rfl rfl) (TO.gq rfl rfl (q_la 6 uT25 rfl inf25 rfl rfl rfl) ?_))))
  have hk113 := fun (w1 : World) (hI : Inv w [oI z9 25 (dC Z kz), dI 37 4 3 Z kz, oI z8 25 (dC Y ky), dI 37 4 3 Y ky, oI z7 25 (dC X kx), dI 37 4 3 X kx, oI z6 25 (dC Z kZ), dI 37 4 3 Z kZ, oI z5 25 (dC Y kY), dI 37 4 3 Y kY, oI z4 25 (dC X kX), dI 37 4 3 X kX, oI z3 25 (dC a k1), rowI pn pd 3 1 (ints l), dI 37 4 3 a k1, oI z1 25 (dC a k)] w1) => (haveI := tbz hI; equalK w1 Z kz kZ (hI.at (k := kz) (mG 1 rfl)) (hI.at (k := kZ) (mG 7 rfl)) bZ.1 bZ.2.1 bZ.2.2)
  refine TO.gd rfl rfl rfl (l_call ent19 (CallT.op hk113) rfl ?_)
  clear hk113
  rintro vr O' ⟨N, rfl, rfl, rfl⟩
  refine TO.gq rfl rfl (q_not rfl) (TO.q (q_pick0 rfl rfl) (TO.qm rfl (TO.gq rfl rfl (q_la 12 uT25 rfl inf25 rfl rfl rfl) (TO.gq rfl rfl (q_la 15 uT25 rfl inf25 rfl rfl rfl) ?_))))
  have hk119 := fun (w1 : World) (hI : Inv w [oI z9 25 (dC Z kz), dI 37 4 3 Z kz, oI z8 25 (dC Y ky), dI 37 4 3 Y ky, oI z7 25 (dC X kx), dI 37 4 3 X kx, oI z6 25 (dC Z kZ), dI 37 4 3 Z kZ, oI z5 25 (dC Y kY), dI 37 4 3 Y kY, oI z4 25 (dC X kX), dI 37 4 3 X kX, oI z3 25 (dC a k1), rowI pn pd 3 1 (ints l), dI 37 4 3 a k1, oI z1 25 (dC a k)] w1) => (haveI := tbz hI; equalK w1 a k1 k (hI.at (k := k1) (mG 14 rfl)) (hI.atB ha) ba.1 ba.2.1 ba.2.2)
  refine TO.gd rfl rfl rfl (l_call ent19 (CallT.op hk119) rfl ?_)
  clear hk119
  rintro vr O' ⟨N, rfl, rfl, rfl⟩
  refine TO.gq rfl rfl (q_not rfl) (TO.q (q_pick0 rfl rfl) (TO.qm rfl (TO.gq rfl rfl (q_move rfl) (TO.gq rfl rfl (q_move rfl) ?_))))
  have hk125 := fun (w1 : World) (hI : Inv w [oI z9 25 (dC Z kz), dI 37 4 3 Z kz, oI z8 25 (dC Y ky), dI 37 4 3 Y ky, oI z7 25 (dC X kx), dI 37 4 3 X kx, oI z6 25 (dC Z kZ), dI 37 4 3 Z kZ, oI z5 25 (dC Y kY), dI 37 4 3 Y kY, oI z4 25 (dC X kX), dI 37 4 3 X kX, oI z3 25 (dC a k1), rowI pn pd 3 1 (ints l), dI 37 4 3 a k1, oI z1 25 (dC a k)] w1) => (haveI := tbz hI; (show PureT _ _ _ _ _ from by
    have h9 := equalInts w1 pn pb pd pc l l (hI.slOf (mG 13 rfl)) (hI.sl hp) (by omega)
    rw [decide_eq_true rfl] at h9
    exact h9))
  refine TO.gd rfl rfl rfl (l_call ent29 (CallT.op hk125) rfl ?_)
  clear hk125
  rintro vr O' ⟨N, rfl, rfl, rfl⟩
  refine TO.gq rfl rfl (q_not rfl) (TO.q (q_pick0 rfl rfl) (TO.nl (T.cond0 rfl (T.skip (T.s (T.rg (TO.q (q_la 4 uT25 rfl inf25 rfl rfl rfl) ?_)))))))
  have hk129 := CallT.under (B := [oI z9 25 (dC Z kz), dI 37 4 3 Z kz, oI z8 25 (dC Y ky), dI 37 4 3 Y ky, oI z7 25 (dC X kx), oI z6 25 (dC Z kZ), dI 37 4 3 Z kZ, oI z5 25 (dC Y kY), dI 37 4 3 Y kY, oI z4 25 (dC X kX), dI 37 4 3 X kX, oI z3 25 (dC a k1), rowI pn pd 3 1 (ints l), dI 37 4 3 a k1, oI z1 25 (dC a k)]) (O := [oI z9 25 (dC Z kz), dI 37 4 3 Z kz, oI z8 25 (dC Y ky), dI 37 4 3 Y ky, oI z7 25 (dC X kx), dI 37 4 3 X kx, oI z6 25 (dC Z kZ), dI 37 4 3 Z kZ, oI z5 25 (dC Y kY), dI 37 4 3 Y kY, oI z4 25 (dC X kX), dI 37 4 3 X kX, oI z3 25 (dC a k1), rowI pn pd 3 1 (ints l), dI 37 4 3 a k1, oI z1 25 (dC a k)]) (overK w X kx bX.1 bX.2.1 bX.2.2) (by exact Sub.pull [oI z9 25 (dC Z kz), dI 37 4 3 Z kz, oI z8 25 (dC Y ky), dI 37 4 3 Y ky, oI z7 25 (dC X kx)] _ (.k (.k (.k (.k (.k (.k (.k (.k (.k (.k (.k (.k (.k (.k (.k .z))))))))))))))))
  refine TO.l rfl (l_call ent20 hk129 rfl ?_)
  clear hk129
  rintro vr O' ⟨A1, rfl, rfl⟩
  refine TO.nl ?_
  refine T.reset [oI z9 25 (dC Z kz), dI 37 4 3 Z kz, oI z8 25 (dC Y ky), dI 37 4 3 Y ky, oI z7 25 (dC X kx), oI z6 25 (dC Z kZ), dI 37 4 3 Z kZ, oI z5 25 (dC Y kY), dI 37 4 3 Y kY, oI z4 25 (dC X kX), dI 37 4 3 X kX, oI z3 25 (dC a k1), rowI pn pd 3 1 (ints l), dI 37 4 3 a k1, oI z1 25 (dC a k)] [(0, (dV a k)), (1, vI v), (2, (.slice pb l.length pc)), (3, (.pointer (aD z1))), (7, (.pointer (aD z3))), (8, (.slice pn l.length pd)), (9, (.pointer (aD z4))), (10, vI (x1 : Int)), (11, (.pointer (aD z5))), (12, vI (x2 : Int)), (13, (.pointer (aD z6))), (14, vI (x3 : Int)), (15, vI ((r : Nat) : Int)), (16, (.pointer (aD z7))), (17, vI (x1 : Int)), (18, (.pointer (aD z8))), (19, vI (x2 : Int)), (20, (.pointer (aD z9))), (21, vI (x3 : Int))] rfl (.of rfl) (fun ρ0 => ?_)
  refine T.s (T.rg (TO.q (q_la 2 uT25 rfl inf25 rfl rfl rfl) ?_))
  have hk131 := CallT.under (B := [oI z9 25 (dC Z kz), dI 37 4 3 Z kz, oI z8 25 (dC Y ky), oI z7 25 (dC X kx), oI z6 25 (dC Z kZ), dI 37 4 3 Z kZ, oI z5 25 (dC Y kY), dI 37 4 3 Y kY, oI z4 25 (dC X kX), dI 37 4 3 X kX, oI z3 25 (dC a k1), rowI pn pd 3 1 (ints l), dI 37 4 3 a k1, oI z1 25 (dC a k)]) (O := [oI z9 25 (dC Z kz), dI 37 4 3 Z kz, oI z8 25 (dC Y ky), dI 37 4 3 Y ky, oI z7 25 (dC X kx), oI z6 25 (dC Z kZ), dI 37 4 3 Z kZ, oI z5 25 (dC Y kY), dI 37 4 3 Y kY, oI z4 25 (dC X kX), dI 37 4 3 X kX, oI z3 25 (dC a k1), rowI pn pd 3 1 (ints l), dI 37 4 3 a k1, oI z1 25 (dC a k)]) (overK w Y ky bY.1 bY.2.1 bY.2.2) (by exact Sub.pull [oI z9 25 (dC Z kz), dI 37 4 3 Z kz, oI z8 25 (dC Y ky)] _ (.k (.k (.k (.k (.k (.k (.k (.k (.k (.k (.k (.k (.k (.k .z)))))))))))))))
  refine TO.l rfl (l_call ent20 hk131 rfl ?_)
  clear hk131
  rintro vr O' ⟨A1, rfl, rfl⟩
  refine TO.nl (T.rg (TO.q (q_la 0 uT25 rfl inf25 rfl rfl rfl) ?_))
  have hk133 := CallT.under (B := [oI z9 25 (dC Z kz), oI z8 25 (dC Y ky), oI z7 25 (dC X kx), oI z6 25 (dC Z kZ), dI 37 4 3 Z kZ, oI z5 25 (dC Y kY), dI 37 4 3 Y kY, oI z4 25 (dC X kX), dI 37 4 3 X kX, oI z3 25 (dC a k1), rowI pn pd 3 1 (ints l), dI 37 4 3 a k1, oI z1 25 (dC a k)]) (O := [oI z9 25 (dC Z kz), dI 37 4 3 Z kz, oI z8 25 (dC Y ky), oI z7 25 (dC X kx), oI z6 25 (dC Z kZ), dI 37 4 3 Z kZ, oI z5 25 (dC Y kY), dI 37 4 3 Y kY, oI z4 25 (dC X kX), dI 37 4 3 X kX, oI z3 25 (dC a k1), rowI pn pd 3 1 (ints l), dI 37 4 3 a k1, oI z1 25 (dC a k)]) (overK w Z kz bZ.1 bZ.2.1 bZ.2.2) (by exact Sub.pull [oI z9 25 (dC Z kz)] _ (.k (.k (.k (.k (.k (.k (.k (.k (.k (.k (.k (.k (.k .z))))))))))))))
  refine TO.l rfl (l_call ent20 hk133 rfl ?_)
  clear hk133
  rintro vr O' ⟨A1, rfl, rfl⟩
  refine TO.nl (T.rg (TO.qm rfl (TO.q (q_addN (a := r) (b := 1) rfl rfl (by omega)) (TO.qa rfl (TO.nl ?_)))))
  exact ⟨r + 1, by omega, [oI z6 25 (dC Z kZ), dI 37 4 3 Z kZ, oI z5 25 (dC Y kY), dI 37 4 3 Y kY, oI z4 25 (dC X kX), dI 37 4 3 X kX, oI z3 25 (dC a k1), rowI pn pd 3 1 (ints l), dI 37 4 3 a k1, oI z1 25 (dC a k)], (by exact Sub.d (.d (.d (.k (.k (.k (.k (.k (.k (.k (.k (.k (.k .z))))))))))))), rfl, by omega, (.of rfl)⟩
 have hge64 : ¬ r < 2 := by omega
 refine T.exit ?_
 refine T.s (T.rg ?_)
 have hk134 := fun (w1 : World) (hI : Inv w [oI z6 25 (dC Z kZ), dI 37 4 3 Z kZ, oI z5 25 (dC Y kY), dI 37 4 3 Y kY, oI z4 25 (dC X kX), dI 37 4 3 X kX, oI z3 25 (dC a k1), rowI pn pd 3 1 (ints l), dI 37 4 3 a k1, oI z1 25 (dC a k)] w1) => (haveI := tbz hI; awakeC w1)
 refine TO.l rfl (l_call ent11 (CallT.op hk134) rfl ?_)
 clear hk134
 rintro vr O' ⟨N, rfl, rfl, rfl⟩
 refine TO.qa rfl (TO.nl (T.ret (Res.drop ?_)))
 refine Res.one (.bool true) Tryz.results4 rfl ?_
 exact ⟨[], Sub.z, rfl, rfl⟩
end Go.Proofs.YtohkmggbfcnapaaGreatDoor

