/- Contracts of functions of the program (JC, JD, PjT, ShelfS, JE, Awk, PB, Run, PjV, JL, JM, PjW, Close, CloseP, End): what each call answers and that it leaves memory as it was. Conditions: those each theorem names. -/
import Derived.Test.YtohkmggbfcnapaaGreatDoorCoreK
import Derived.Test.YtohkmggbfcnapaaGreatDoorBolE
import Derived.Test.YtohkmggbfcnapaaGreatDoorJ5
import Derived.Test.YtohkmggbfcnapaaGreatDoorPjI
import Derived.Shelf.Sort.Plain
import Derived.Shelf.Slices.In.SortNone
import Derived.Test.YtohkmggbfcnapaaGreatDoorStr
import Derived.Test.YtohkmggbfcnapaaGreatDoorProg
import Derived.OpenShut
import Derived.Deep.DeepHandedRow
import Derived.Deep.Matrix
import Derived.Deep.Grids
import Derived.WideKeyArgs
import Derived.SizedLaws
import Derived.Test.YtohkmggbfcnapaaGreatDoorCards
import Derived.Test.YtohkmggbfcnapaaGreatDoorTie
import Derived.WalkKit
import Derived.ProofKit
import Derived.Lib.LaidTab
set_option linter.unusedSectionVars false
set_option linter.unusedSimpArgs false
set_option linter.unusedVariables false
set_option linter.unnecessarySimpa false
set_option maxHeartbeats 8000000
set_option maxRecDepth 20000
namespace Go.Proofs.YtohkmggbfcnapaaGreatDoor
open Go.Lx Go.RowKit _root_.Go.Proofs.Tryz
theorem exBad (w : World) [Tab Tryz.prog w] (a : DFA) (k : DK) (ha : At w a k) (haa : a.next.length < 9223372036854775807) (haar : ∀ r ∈ a.next, r.length < 9223372036854775807) (haaf : a.final.length < 9223372036854775807) (v B : Int) (he : vE a v ≠ 0) :
  PureT Tryz.prog 16 [dV a k, vI v, vI B] w fun v9 N => v9 = .tuple #[dV noD ⟨none, 0, none, 0, []⟩, vI (vE a v : Int)] ∧ N = [] := by
 refine CallT.enter func16 rfl ntmps16 rfl ?_
 refine T.s (T.rg (TO.l rfl (l_box (v := (dV a k)) (cs := (dC a k)) rfl rfl (fun bx1 => ?_))))
 refine TO.l rfl (l_alloc inf25 rfl (fun bx2 => ?_))
 refine TO.qa rfl (TO.nl (T.s (T.s (T.rg (TO.q (q_la 1 uT25 rfl inf25 rfl rfl rfl) (TO.qm rfl ?_))))))
 have hk28 := fun (w1 : World) (hI : Inv w [oI bx2 25 [(vI 0), (vI 0), nS, nS], oI bx1 25 (dC a k)] w1) => (haveI := tbz hI; pCheck w1 a k (hI.atB ha) haa haar haaf v)
 refine TO.l rfl (l_call ent48 (CallT.op hk28) rfl ?_)
 clear hk28
 rintro vr O' ⟨N, rfl, rfl, rfl⟩
 refine TO.qa rfl (TO.nl (T.s (T.rg (TO.qm rfl (TO.q (QT.toB (q_neq rfl rfl) (decide_eq_true (by omega))) (TO.nl ?_))))))
 refine T.cond1 rfl ?_
 refine T.s (T.rg (TO.q (q_build plan25 inf25 rfl) (TO.qm rfl (TO.l rfl (l_sb (v := (.agg #[(vI 0), (vI 0), nS, nS])) (vs := [(vI 0), (vI 0), nS, nS]) 0 inf25 rfl rfl rfl rfl rfl rfl (by simp [putL]) ?_)))))
 refine TO.qa rfl (TO.nl (T.ret (Res.drop ?_)))
 refine Res.cell1b (vI (vE a v : Int)) (i := 0) Tryz.results16 uT25 rfl inf25 rfl rfl rfl rfl ?_
 exact ⟨[], Sub.z, rfl, rfl⟩
theorem exLo (w : World) [Tab Tryz.prog w] (a : DFA) (k : DK) (ha : At w a k) (haa : a.next.length < 9223372036854775807) (haar : ∀ r ∈ a.next, r.length < 9223372036854775807) (haaf : a.final.length < 9223372036854775807) (v B : Int) (he : vE a v = 0) (hB : B < 1) :
  PureT Tryz.prog 16 [dV a k, vI v, vI B] w fun v9 N => v9 = .tuple #[dV noD ⟨none, 0, none, 0, []⟩, vI 1] ∧ N = [] := by
 refine CallT.enter func16 rfl ntmps16 rfl ?_
 refine T.s (T.rg (TO.l rfl (l_box (v := (dV a k)) (cs := (dC a k)) rfl rfl (fun bx1 => ?_))))
 refine TO.l rfl (l_alloc inf25 rfl (fun bx2 => ?_))
 refine TO.qa rfl (TO.nl (T.s (T.s (T.rg (TO.q (q_la 1 uT25 rfl inf25 rfl rfl rfl) (TO.qm rfl ?_))))))
 have hk28 := fun (w1 : World) (hI : Inv w [oI bx2 25 [(vI 0), (vI 0), nS, nS], oI bx1 25 (dC a k)] w1) => (haveI := tbz hI; pCheck w1 a k (hI.atB ha) haa haar haaf v)
 refine TO.l rfl (l_call ent48 (CallT.op hk28) rfl ?_)
 clear hk28
 rintro vr O' ⟨N, rfl, rfl, rfl⟩
 refine TO.qa rfl (TO.nl (T.s (T.rg (TO.qm rfl (TO.q (QT.toB (q_neq rfl rfl) (decide_eq_false (by omega))) (TO.nl (T.cond0 rfl (T.skip (T.s (T.s (T.rg (TO.qm rfl (TO.q (QT.toB (q_lss rfl rfl) (decide_eq_true (by omega))) (TO.qm rfl (TO.pd rfl rfl ?_)))))))))))))))
 refine TO.pd rfl rfl (TO.q (q_pick1 rfl rfl) (TO.nl ?_))
 refine T.cond1 rfl ?_
 refine T.s (T.rg (TO.q (q_build plan25 inf25 rfl) (TO.l rfl (l_sb (v := (.agg #[(vI 0), (vI 0), nS, nS])) (vs := [(vI 0), (vI 0), nS, nS]) 0 inf25 rfl rfl rfl rfl rfl rfl (by simp [putL]) ?_))))
 refine TO.qa rfl (TO.nl (T.ret (Res.drop ?_)))
 refine Res.cell1b (vI 1) (i := 0) Tryz.results16 uT25 rfl inf25 rfl rfl rfl rfl ?_
 exact ⟨[], Sub.z, rfl, rfl⟩
theorem exHi (w : World) [Tab Tryz.prog w] (a : DFA) (k : DK) (ha : At w a k) (haa : a.next.length < 9223372036854775807) (haar : ∀ r ∈ a.next, r.length < 9223372036854775807) (haaf : a.final.length < 9223372036854775807) (v B : Int) (he : vE a v = 0) (hB : 4096 < B) :
  PureT Tryz.prog 16 [dV a k, vI v, vI B] w fun v9 N => v9 = .tuple #[dV noD ⟨none, 0, none, 0, []⟩, vI 1] ∧ N = [] := by
 refine CallT.enter func16 rfl ntmps16 rfl ?_
 refine T.s (T.rg (TO.l rfl (l_box (v := (dV a k)) (cs := (dC a k)) rfl rfl (fun bx1 => ?_))))
 refine TO.l rfl (l_alloc inf25 rfl (fun bx2 => ?_))
 refine TO.qa rfl (TO.nl (T.s (T.s (T.rg (TO.q (q_la 1 uT25 rfl inf25 rfl rfl rfl) (TO.qm rfl ?_))))))
 have hk28 := fun (w1 : World) (hI : Inv w [oI bx2 25 [(vI 0), (vI 0), nS, nS], oI bx1 25 (dC a k)] w1) => (haveI := tbz hI; pCheck w1 a k (hI.atB ha) haa haar haaf v)
 refine TO.l rfl (l_call ent48 (CallT.op hk28) rfl ?_)
 clear hk28
 rintro vr O' ⟨N, rfl, rfl, rfl⟩
 refine TO.qa rfl (TO.nl (T.s (T.rg (TO.qm rfl (TO.q (QT.toB (q_neq rfl rfl) (decide_eq_false (by omega))) (TO.nl (T.cond0 rfl (T.skip (T.s (T.s (T.rg (TO.qm rfl (TO.q (QT.toB (q_lss rfl rfl) (decide_eq_false (by omega))) (TO.qm rfl (TO.gq rfl rfl (q_move rfl) ?_)))))))))))))))
 refine TO.gq rfl rfl (QT.toB (q_gtr rfl rfl) (decide_eq_true (by omega))) (TO.q (q_pick0 rfl rfl) (TO.nl ?_))
 refine T.cond1 rfl ?_
 refine T.s (T.rg (TO.q (q_build plan25 inf25 rfl) (TO.l rfl (l_sb (v := (.agg #[(vI 0), (vI 0), nS, nS])) (vs := [(vI 0), (vI 0), nS, nS]) 0 inf25 rfl rfl rfl rfl rfl rfl (by simp [putL]) ?_))))
 refine TO.qa rfl (TO.nl (T.ret (Res.drop ?_)))
 refine Res.cell1b (vI 1) (i := 0) Tryz.results16 uT25 rfl inf25 rfl rfl rfl rfl ?_
 exact ⟨[], Sub.z, rfl, rfl⟩
theorem exOk (w : World) [Tab Tryz.prog w] (a : DFA) (k : DK) (ha : At w a k) (hv : Valid a) (hn : a.next.length ≤ 64) (v : Nat) (hva : (v : Int) < a.vars) (B : Int) (hB1 : 1 ≤ B) (hB2 : B ≤ 4096) :
  PureT Tryz.prog 16 [dV a k, vI ((v : Nat) : Int), vI B] w fun r N => ∃ k9 : DK, r = .tuple #[dV (xsV a (v : Int) B) k9, vI (xsE a (v : Int) B : Int)] ∧ N = [dI 37 4 3 (xsV a (v : Int) B) k9] := by
 refine CallT.enter func16 rfl ntmps16 rfl ?_
 have he := checkD_zero.2 hv
 have h4 := hv.n4
 have hww : letN a ≤ 64 := hv.width
 have hfin := hv.fin
 have hvl := ha.rows.1
 have hsl := start_lt hv.toVal
 have hs0 := hv.s0
 have hs1 := hv.s1
 have hve : vE a v = 0 := vE_zero.2 ⟨hv, by omega, hva⟩
 have hv6 := hv.v6
 have hv0 := hv.v0
 have hvv : v < a.vars.toNat := by omega
 have hse : a.start = ((a.start.toNat : Nat) : Int) := (Int.toNat_of_nonneg hv.s0).symm
 have hs64 : 2 ^ a.start.toNat < 18446744073709551616 := Nat.lt_of_lt_of_le (Nat.pow_lt_pow_right (by decide) (show a.start.toNat < 64 by omega)) (by decide)
 refine T.s (T.rg (TO.l rfl (l_box (v := (dV a k)) (cs := (dC a k)) rfl rfl (fun z1 => ?_))))
 refine TO.l rfl (l_alloc inf25 rfl (fun z2 => ?_))
 refine TO.qa rfl (TO.nl (T.s (T.s (T.rg (TO.q (q_la 1 uT25 rfl inf25 rfl rfl rfl) (TO.qm rfl ?_))))))
 have hk28 := fun (w1 : World) (hI : Inv w [oI z2 25 [(vI 0), (vI 0), nS, nS], oI z1 25 (dC a k)] w1) => (haveI := tbz hI; (show PureT _ _ _ _ _ from by
   have h9 := pCheck w1 a k (hI.atB ha) (by omega) hv.bound (by omega) (v : Int)
   rw [hve] at h9
   exact h9))
 refine TO.l rfl (l_call ent48 (CallT.op hk28) rfl ?_)
 clear hk28
 rintro vr O' ⟨N, rfl, rfl, rfl⟩
 refine TO.qa rfl (TO.nl (T.s (T.rg (TO.qm rfl (TO.q (QT.toB (q_neq rfl rfl) (decide_eq_false (by omega))) (TO.nl (T.cond0 rfl (T.skip (T.s (T.s (T.rg (TO.qm rfl (TO.q (QT.toB (q_lss rfl rfl) (decide_eq_false (by omega))) (TO.qm rfl (TO.gq rfl rfl (q_move rfl) ?_)))))))))))))))
 refine TO.gq rfl rfl (QT.toB (q_gtr rfl rfl) (decide_eq_false (by omega))) (TO.q (q_pick0 rfl rfl) (TO.nl (T.cond0 rfl (T.skip (T.s (T.rg (TO.q (q_fa uT25 rfl inf3 rfl rfl) (TO.q (q_lb 1 uT3 rfl rfl rfl rfl) (TO.l rfl (l_build1 (v := (vI a.start)) uT37 inf3 rfl rfl rfl (fun z3 => ?_)))))))))))
 have hk43 := fun (w1 : World) (hI : Inv w [rowI (aD z3) 1 3 1 [(vI a.start)], oI z2 25 [(vI 0), (vI 0), nS, nS], oI z1 25 (dC a k)] w1) => (haveI := tbz hI; (show PureT _ _ _ _ _ from by
   have h8 := hI.slOf (mG 0 rfl)
   rw [hse] at h8
   have h9 := ofC w1 (aD z3) 1 [a.start.toNat] h8 (by intro q hq; have := List.mem_singleton.1 hq; omega) (by simp) (show 1 < _ by decide)
   rw [mOf_one] at h9
   exact h9))
 refine TO.l rfl (l_call ent49 (CallT.op hk43) rfl ?_)
 clear hk43
 rintro vr O' ⟨N, rfl, sb1, sc1, rfl, rfl⟩
 refine TO.l rfl (l_build1 (v := (.slice sb1 1 1)) uT69 inf67 rfl rfl rfl (fun z4 => ?_))
 refine TO.qa rfl (TO.nl ?_)
 refine T.reset [rowI (aD z4) 1 67 1 [(.slice sb1 1 1)], rowI sb1 sc1 107 1 (uns [2 ^ a.start.toNat]), rowI (aD z3) 1 3 1 [(vI a.start)], oI z2 25 [(vI 0), (vI 0), nS, nS], oI z1 25 (dC a k)] [(0, (dV a k)), (1, vI ((v : Nat) : Int)), (2, vI B), (3, (.pointer (aD z1))), (6, (.pointer (aD z2))), (7, vI 0), (8, vI 0), (9, (.slice (aD z4) 1 1))] rfl (.of rfl) (fun ρ0 => ?_)
 refine T.s (T.rg (TO.l rfl (l_makeMap str (fun n : Nat => Value.int .i64 (n : Int)) (fun mm5 => ?_))))
 refine TO.qm rfl (TO.q (q_ix (i := 0) uT69 inf67 rfl rfl (rowO (mG 1 rfl)) (by decide) (by simp)) (TO.q (q_ld uT67 rfl rfl (rowO (mG 1 rfl)) rfl) ?_))
 have hk49 := fun (w1 : World) (hI : Inv w [mapI str (fun n : Nat => Value.int .i64 (n : Int)) mm5 [], rowI (aD z4) 1 67 1 [(.slice sb1 1 1)], rowI sb1 sc1 107 1 (uns [2 ^ a.start.toNat]), rowI (aD z3) 1 3 1 [(vI a.start)], oI z2 25 [(vI 0), (vI 0), nS, nS], oI z1 25 (dC a k)] w1) => (haveI := tbz hI; keyC w1 sb1 (2 ^ a.start.toNat) (hI.slOf (mG 2 rfl)) hs64)
 refine TO.l rfl (l_call ent50 (CallT.op hk49) rfl ?_)
 clear hk49
 rintro vr O' ⟨N, rfl, rfl, rfl⟩
 refine TO.l rfl (l_mapInsert (a := keyM (2 ^ a.start.toNat)) (v := (0 : Nat)) 0 uT71 (KeyOk.string uT9) rfl rfl rfl rfl (by simp) ?_)
 refine TO.qm rfl (TO.qa rfl (TO.nl (T.s (T.rg (TO.q (q_fa uT25 rfl inf3 rfl rfl) (TO.q (q_lb 5 uT3 rfl rfl rfl rfl) (TO.q (q_build (cs := [(vI a.vars), (vI 0), nS, nS]) plan25 inf25 (by kernel_rfl)) (TO.l rfl (l_alloc inf25 rfl (fun z6 => ?_))))))))))
 refine TO.l rfl (l_sb (v := (.agg #[(vI a.vars), (vI 0), nS, nS])) (vs := [(vI a.vars), (vI 0), nS, nS]) 0 inf25 rfl rfl rfl rfl rfl rfl (by simp [putL]) ?_)
 refine TO.nl ?_
 refine T.reset [oI z6 25 [(vI a.vars), (vI 0), nS, nS], mapI str (fun n : Nat => Value.int .i64 (n : Int)) mm5 [(keyM (2 ^ a.start.toNat), (0 : Nat))], rowI (aD z4) 1 67 1 [(.slice sb1 1 1)], rowI sb1 sc1 107 1 (uns [2 ^ a.start.toNat]), rowI (aD z3) 1 3 1 [(vI a.start)], oI z2 25 [(vI 0), (vI 0), nS, nS], oI z1 25 (dC a k)] [(0, (dV a k)), (1, vI ((v : Nat) : Int)), (2, vI B), (3, (.pointer (aD z1))), (6, (.pointer (aD z2))), (7, vI 0), (8, vI 0), (9, (.slice (aD z4) 1 1)), (10, (.map (some mm5))), (11, (.pointer (aD z6)))] rfl (.of rfl) (fun ρ0 => ?_)
 refine T.s (T.s (T.rg (TO.qa rfl (TO.nl (T.block ?_)))))
 refine T.nilD 37 4 3 ?_
 refine T.sub (O' := ([rowI (aD z4) 1 67 1 [(.slice sb1 1 1)], rowI sb1 sc1 107 1 (uns [2 ^ a.start.toNat]), oI z1 25 (dC a k), oI z2 25 [(vI 0), (vI 0), nS, nS], mapI str (fun n : Nat => Value.int .i64 (n : Int)) mm5 [(keyM (2 ^ a.start.toNat), (0 : Nat))], oI z6 25 [(vI a.vars), (vI 0), nS, nS], dI 37 4 3 noD k00])) (by exact Sub.pull [dI 37 4 3 noD k00, oI z6 25 [(vI a.vars), (vI 0), nS, nS], mapI str (fun n : Nat => Value.int .i64 (n : Int)) mm5 [(keyM (2 ^ a.start.toNat), (0 : Nat))]] _ (.pull [dI 37 4 3 noD k00, oI z6 25 [(vI a.vars), (vI 0), nS, nS], mapI str (fun n : Nat => Value.int .i64 (n : Int)) mm5 [(keyM (2 ^ a.start.toNat), (0 : Nat))]] _ (.pull [dI 37 4 3 noD k00, oI z6 25 [(vI a.vars), (vI 0), nS, nS], mapI str (fun n : Nat => Value.int .i64 (n : Int)) mm5 [(keyM (2 ^ a.start.toNat), (0 : Nat))], rowI (aD z3) 1 3 1 [(vI a.start)], oI z2 25 [(vI 0), (vI 0), nS, nS]] _ (.pull [dI 37 4 3 noD k00, oI z6 25 [(vI a.vars), (vI 0), nS, nS], mapI str (fun n : Nat => Value.int .i64 (n : Int)) mm5 [(keyM (2 ^ a.start.toNat), (0 : Nat))], rowI (aD z3) 1 3 1 [(vI a.start)]] _ (.pull [dI 37 4 3 noD k00, oI z6 25 [(vI a.vars), (vI 0), nS, nS]] _ (.pull [dI 37 4 3 noD k00] _ (.k .z))))))) ?_
 refine T.sub (O' := ((rowI (aD z4) 1 67 1 (svals [⟨sb1, sc1, 2 ^ a.start.toNat⟩]) :: sitms 107 [⟨sb1, sc1, 2 ^ a.start.toNat⟩]) ++ [oI z1 25 (dC a k), oI z2 25 [(vI 0), (vI 0), nS, nS], mapI str (fun n : Nat => Value.int .i64 (n : Int)) mm5 [(keyM (2 ^ a.start.toNat), (0 : Nat))], oI z6 25 [(vI a.vars), (vI 0), nS, nS], dI 37 4 3 noD k00])) (by exact Sub.rf) ?_
 refine T.pack (φ := True) trivial ?_
 refine T.sub (O' := [oI z1 25 (dC a k), oI z2 25 [(vI 0), (vI 0), nS, nS], setI 67 107 (aD z4) 1 [⟨sb1, sc1, 2 ^ a.start.toNat⟩], mapI str (fun n : Nat => Value.int .i64 (n : Int)) mm5 [(keyM (2 ^ a.start.toNat), (0 : Nat))], oI z6 25 [(vI a.vars), (vI 0), nS, nS], dI 37 4 3 noD k00]) (by exact Sub.pull [setI 67 107 (aD z4) 1 [⟨sb1, sc1, 2 ^ a.start.toNat⟩]] _ (.pull [setI 67 107 (aD z4) 1 [⟨sb1, sc1, 2 ^ a.start.toNat⟩]] _ (.k (.k (.k (.k .z)))))) ?_
 refine T.loop (fun (i : Nat) ρ O => ∃ (sb : Option Addr) (sc : Nat) (us : List SRec) (km : DK), O = [oI z1 25 (dC a k), oI z2 25 [(vI 0), (vI 0), nS, nS], setI 67 107 sb sc us, mapI str (fun n : Nat => Value.int .i64 (n : Int)) mm5 (keyZ (psN a v i)), oI z6 25 (dC (pdN a v i) km), dI 37 4 3 (pdN a v i) km] ∧ i ≤ us.length ∧ us.map SRec.w = psN a v i ∧ (us.length : Int) ≤ B ∧ Heads [(0, (dV a k)), (1, vI ((v : Nat) : Int)), (2, vI B), (3, (.pointer (aD z1))), (6, (.pointer (aD z2))), (8, vI 0), (9, (.slice sb us.length sc)), (10, (.map (some mm5))), (11, (.pointer (aD z6))), (12, vI ((i : Nat) : Int))] ρ) (fun i => 4097 - i) 0 ?_ ?_
 ·exact ⟨_, 1, [⟨sb1, sc1, 2 ^ a.start.toNat⟩], k00, rfl, Nat.zero_le _, rfl, hB1, (.of rfl)⟩
 rintro i ρ O ⟨sb, sc, us, km, rfl, hiu, hus, hul, hH⟩
 obtain ⟨ρ0, rfl⟩ := hH.elim
 clear hH
 have hpl : (psN a v i).length = us.length := by rw [← hus, List.length_map]
 refine T.s (T.s (T.rg (TO.qm rfl (TO.qm rfl (TO.q (q_len uT69 rfl) (TO.q (q_lss rfl rfl) (TO.nl (T.condP rfl (fun hc => ?_) (fun hc => ?_)))))))))
 ·have hlt57 : i < us.length := by omega
  have hil : i < us.length := by omega
  obtain ⟨W, hW⟩ : ∃ W, pwA a v i = W := ⟨_, rfl⟩
  have hiW : (psN a v i)[i]? = some W := by rw [← hW]; exact pwA_get (by omega)
  obtain ⟨q9, hq9, hw9⟩ := setQ_at hus hiW
  have hgW : Gd a W := psN_gd hv.toVal hn hvv i _ (List.mem_of_getElem? hiW)
  have hW64 : W < 18446744073709551616 := hgW.l64 hn
  have hel : (elN W).length ≤ 64 := elN_len W
  refine T.skip (T.s (T.block (T.s (T.rg (TO.q (q_fa uT25 rfl inf3 rfl rfl) (TO.q (q_lb 0 uT3 rfl rfl rfl rfl) (TO.q (QT.cast (q_shl1 (v := a.vars.toNat) rfl (by show Value.int _ a.vars = _; rw [Int.toNat_of_nonneg hv0]) (by omega)) (v' := vI ((letN a : Nat) : Int)) rfl) (TO.l rfl (l_makeSlice (m := letN a) uT37 inf3 rfl rfl (by omega) (by omega) (fun z7 => ?_))))))))))
  refine TO.qa rfl (TO.qa rfl (TO.nl (T.s (T.rg (TO.qm rfl (TO.qm rfl (TO.q (q_ix (i := i) uT69 inf67 rfl rfl (setO (mG 3 rfl)) hil (by rw [List.length_map]; exact hil)) (TO.q (q_ld uT67 rfl rfl (setO (mG 3 rfl)) (svals_at hq9)) ?_))))))))
  have hk68 := fun (w1 : World) (hI : Inv w [rowI (aD z7) (letN a) 3 1 (List.replicate (letN a) (vI 0)), oI z1 25 (dC a k), oI z2 25 [(vI 0), (vI 0), nS, nS], setI 67 107 sb sc us, mapI str (fun n : Nat => Value.int .i64 (n : Int)) mm5 (keyZ (psN a v i)), oI z6 25 (dC (pdN a v i) km), dI 37 4 3 (pdN a v i) km] w1) => (haveI := tbz hI; listC w1 q9.b W (by have h9 := setQ (mG 3 rfl) hq9 w1 hI; rw [hw9] at h9; exact h9) hW64)
  refine TO.l rfl (l_call ent51 (CallT.op hk68) rfl ?_)
  clear hk68
  rintro vr O' ⟨N, rfl, lb, lc, rfl, rfl⟩
  refine TO.qa rfl (TO.nl ?_)
  refine T.reset [rowI lb lc 3 1 (intN (elN W)), rowI (aD z7) (letN a) 3 1 (List.replicate (letN a) (vI 0)), oI z1 25 (dC a k), oI z2 25 [(vI 0), (vI 0), nS, nS], setI 67 107 sb sc us, mapI str (fun n : Nat => Value.int .i64 (n : Int)) mm5 (keyZ (psN a v i)), oI z6 25 (dC (pdN a v i) km), dI 37 4 3 (pdN a v i) km] [(0, (dV a k)), (1, vI ((v : Nat) : Int)), (2, vI B), (3, (.pointer (aD z1))), (6, (.pointer (aD z2))), (8, vI 0), (9, (.slice sb us.length sc)), (10, (.map (some mm5))), (11, (.pointer (aD z6))), (12, vI ((i : Nat) : Int)), (13, (.slice (aD z7) (letN a) (letN a))), (14, .bool false), (15, (.slice lb ((elN W).length) lc))] rfl (.of rfl) (fun ρ0 => ?_)
  refine T.s (T.s (T.rg (TO.qm rfl (TO.q (q_len uT37 rfl) (TO.qm rfl (TO.nl (T.block ?_)))))))
  refine T.sub (O' := [oI z1 25 (dC a k), oI z2 25 [(vI 0), (vI 0), nS, nS], setI 67 107 sb sc us, mapI str (fun n : Nat => Value.int .i64 (n : Int)) mm5 (keyZ (psN a v i)), oI z6 25 (dC (pdN a v i) km), dI 37 4 3 (pdN a v i) km, rowI (aD z7) (letN a) 3 1 (List.replicate (letN a) (vI 0)), rowI lb lc 3 1 (intN (elN W))]) (by exact Sub.pull [rowI lb lc 3 1 (intN (elN W)), rowI (aD z7) (letN a) 3 1 (List.replicate (letN a) (vI 0))] _ (.pull [rowI lb lc 3 1 (intN (elN W)), rowI (aD z7) (letN a) 3 1 (List.replicate (letN a) (vI 0))] _ (.pull [rowI lb lc 3 1 (intN (elN W)), rowI (aD z7) (letN a) 3 1 (List.replicate (letN a) (vI 0))] _ (.pull [rowI lb lc 3 1 (intN (elN W)), rowI (aD z7) (letN a) 3 1 (List.replicate (letN a) (vI 0))] _ (.pull [rowI lb lc 3 1 (intN (elN W)), rowI (aD z7) (letN a) 3 1 (List.replicate (letN a) (vI 0))] _ (.pull [rowI lb lc 3 1 (intN (elN W)), rowI (aD z7) (letN a) 3 1 (List.replicate (letN a) (vI 0))] _ (.pull [rowI lb lc 3 1 (intN (elN W))] _ (.k .z)))))))) ?_
  refine T.loopS (fun (x : Nat) ρ O => ∃ (sb2 : Option Addr) (sc2 : Nat) (us2 : List SRec), O = [oI z1 25 (dC a k), oI z2 25 [(vI 0), (vI 0), nS, nS], setI 67 107 sb2 sc2 us2, mapI str (fun n : Nat => Value.int .i64 (n : Int)) mm5 (keyZ (psM a v i W x)), oI z6 25 (dC (pdN a v i) km), dI 37 4 3 (pdN a v i) km, rowI (aD z7) (letN a) 3 1 (ints (rwP a v i W x)), rowI lb lc 3 1 (intN (elN W))] ∧ x ≤ letN a ∧ us2.map SRec.w = psM a v i W x ∧ Heads [(0, (dV a k)), (1, vI ((v : Nat) : Int)), (2, vI B), (3, (.pointer (aD z1))), (6, (.pointer (aD z2))), (8, vI 0), (9, (.slice sb2 us2.length sc2)), (10, (.map (some mm5))), (11, (.pointer (aD z6))), (12, vI ((i : Nat) : Int)), (13, (.slice (aD z7) (letN a) (letN a))), (14, .bool false), (15, (.slice lb ((elN W).length) lc)), (70, vI (letN a : Int)), (71, vI ((x : Nat) : Int))] ρ) (fun x => letN a - x) 0 ?_ ?_
  ·exact ⟨sb, sc, us, by rw [rwP_zero]; rfl, Nat.zero_le _, hus, (.of rfl)⟩
  rintro x ρ O ⟨sb2, sc2, us2, rfl, hx, hus2, hH⟩
  obtain ⟨ρ0, rfl⟩ := hH.elim
  clear hH
  have hpl2 : (psM a v i W x).length = us2.length := by rw [← hus2, List.length_map]
  have hpl3 := psM_len a v i W x
  refine T.s (T.rg (TO.q (q_lss rfl rfl) (TO.nl (T.s (T.condP rfl (fun hc => ?_) (fun hc => ?_))))))
  ·have hlt72 : x < letN a := by omega
   have hxl : x < letN a := by omega
   have hx64 : x < 64 := by omega
   obtain ⟨Y, hY⟩ : ∃ Y, pst a v W x = Y := ⟨_, rfl⟩
   have hgY : Gd a Y := hY ▸ hgW.step hv.toVal hn hvv hxl
   have hY64 : Y < 18446744073709551616 := hgY.l64 hn
   have hl64 : ∀ q ∈ psM a v i W x, q < 18446744073709551616 := fun q hq => (psM_gd hv.toVal hn hvv hgW x hx q hq).l64 hn
   obtain ⟨htl, htn⟩ := hgW.toL hv.toVal hvv hxl hn
   refine T.skip (T.s (T.block (T.s (T.rg (TO.qm rfl (TO.qa rfl (TO.nl (T.s (T.rg (TO.l rfl (l_alloc inf37 rfl (fun z8 => ?_))))))))))))
   refine TO.nl (T.s (T.s (T.rg (TO.qm rfl (TO.q (q_len uT37 rfl) (TO.qm rfl (TO.nl (T.block (T.nilRow 3 1 ?_)))))))))
   refine T.sub (O' := [oI z1 25 (dC a k), oI z2 25 [(vI 0), (vI 0), nS, nS], setI 67 107 sb2 sc2 us2, mapI str (fun n : Nat => Value.int .i64 (n : Int)) mm5 (keyZ (psM a v i W x)), oI z6 25 (dC (pdN a v i) km), dI 37 4 3 (pdN a v i) km, rowI (aD z7) (letN a) 3 1 (ints (rwP a v i W x)), rowI lb lc 3 1 (intN (elN W)), oI z8 37 [nS], rowI none 0 3 1 []]) (by exact Sub.pull [rowI none 0 3 1 [], oI z8 37 [nS]] _ (.pull [rowI none 0 3 1 [], oI z8 37 [nS]] _ (.pull [rowI none 0 3 1 [], oI z8 37 [nS]] _ (.pull [rowI none 0 3 1 [], oI z8 37 [nS]] _ (.pull [rowI none 0 3 1 [], oI z8 37 [nS]] _ (.pull [rowI none 0 3 1 [], oI z8 37 [nS]] _ (.pull [rowI none 0 3 1 [], oI z8 37 [nS]] _ (.pull [rowI none 0 3 1 [], oI z8 37 [nS]] _ (.pull [rowI none 0 3 1 []] _ (.k .z)))))))))) ?_
   refine T.loopS (fun (j : Nat) ρ O => ∃ (tb : Option Addr) (tc : Nat), O = [oI z1 25 (dC a k), oI z2 25 [(vI 0), (vI 0), nS, nS], setI 67 107 sb2 sc2 us2, mapI str (fun n : Nat => Value.int .i64 (n : Int)) mm5 (keyZ (psM a v i W x)), oI z6 25 (dC (pdN a v i) km), dI 37 4 3 (pdN a v i) km, rowI (aD z7) (letN a) 3 1 (ints (rwP a v i W x)), rowI lb lc 3 1 (intN (elN W)), oI z8 37 [(.slice tb (2 * j) tc)], rowI tb tc 3 1 (intN (toL a v ((elN W).take j) x))] ∧ j ≤ (elN W).length ∧ Heads [(0, (dV a k)), (1, vI ((v : Nat) : Int)), (2, vI B), (3, (.pointer (aD z1))), (6, (.pointer (aD z2))), (8, vI 0), (9, (.slice sb2 us2.length sc2)), (10, (.map (some mm5))), (11, (.pointer (aD z6))), (12, vI ((i : Nat) : Int)), (13, (.slice (aD z7) (letN a) (letN a))), (14, .bool false), (15, (.slice lb ((elN W).length) lc)), (16, vI ((x : Nat) : Int)), (17, (.pointer (aD z8))), (70, vI (letN a : Int)), (71, vI ((x : Nat) : Int)), (74, (.slice lb ((elN W).length) lc)), (75, vI ((elN W).length : Int)), (76, vI ((j : Nat) : Int))] ρ) (fun j => (elN W).length - j) 0 ?_ ?_
   ·exact ⟨none, 0, rfl, Nat.zero_le _, (.of rfl)⟩
   rintro j ρ O ⟨tb, tc, rfl, hj, hH⟩
   obtain ⟨ρ0, rfl⟩ := hH.elim
   clear hH
   refine T.s (T.rg (TO.q (q_lss rfl rfl) (TO.nl ?_)))
   refine T.reset [oI z1 25 (dC a k), oI z2 25 [(vI 0), (vI 0), nS, nS], setI 67 107 sb2 sc2 us2, mapI str (fun n : Nat => Value.int .i64 (n : Int)) mm5 (keyZ (psM a v i W x)), oI z6 25 (dC (pdN a v i) km), dI 37 4 3 (pdN a v i) km, rowI (aD z7) (letN a) 3 1 (ints (rwP a v i W x)), rowI lb lc 3 1 (intN (elN W)), oI z8 37 [(.slice tb (2 * j) tc)], rowI tb tc 3 1 (intN (toL a v ((elN W).take j) x))] [(0, (dV a k)), (1, vI ((v : Nat) : Int)), (2, vI B), (3, (.pointer (aD z1))), (6, (.pointer (aD z2))), (8, vI 0), (9, (.slice sb2 us2.length sc2)), (10, (.map (some mm5))), (11, (.pointer (aD z6))), (12, vI ((i : Nat) : Int)), (13, (.slice (aD z7) (letN a) (letN a))), (14, .bool false), (15, (.slice lb ((elN W).length) lc)), (16, vI ((x : Nat) : Int)), (17, (.pointer (aD z8))), (70, vI (letN a : Int)), (71, vI ((x : Nat) : Int)), (74, (.slice lb ((elN W).length) lc)), (75, vI ((elN W).length : Int)), (76, vI ((j : Nat) : Int)), (77, .bool (decide (((j : Nat) : Int) < ((elN W).length : Int))))] rfl (.of rfl) (fun ρ0 => ?_)
   refine T.s (T.condP rfl (fun hc => ?_) (fun hc => ?_))
   ·have hlt77 : j < (elN W).length := by omega
    have hjl : j < (elN W).length := by omega
    obtain ⟨s, hsj⟩ : ∃ s, (elN W)[j]? = some s := ⟨_, List.getElem?_eq_getElem hjl⟩
    have hsl : s < a.next.length := hgW.st (List.mem_of_getElem? hsj)
    obtain ⟨v1, c1, g1, s1⟩ := ha.rows.get hsl
    have hl1 : a.next[s].length = letN a := hv.len _ (List.getElem_mem hsl)
    refine T.skip (T.s (T.block (T.s (T.rg (TO.q (q_ix (i := j) uT37 inf3 rfl rfl (rowO (mG 7 rfl)) hjl (by rw [List.length_map]; exact hjl)) (TO.q (q_ld uT3 rfl rfl (rowO (mG 7 rfl)) (intN_at hsj)) (TO.l rfl (l_alloc inf3 rfl (fun z9 => ?_)))))))))
    refine TO.l rfl (l_sb (v := vI ((s : Nat) : Int)) (vs := [(vI ((s : Nat) : Int))]) 0 inf3 rfl rfl rfl rfl rfl rfl (by simp [putL]) ?_)
    refine TO.nl (T.s (T.rg (TO.qm rfl (TO.q (q_conv_id uT3 uT5 rfl (wrap8 (by omega))) (TO.qm rfl ?_)))))
    have hk83 := fun (w1 : World) (hI : Inv w [oI z9 3 [(vI ((s : Nat) : Int))], oI z1 25 (dC a k), oI z2 25 [(vI 0), (vI 0), nS, nS], setI 67 107 sb2 sc2 us2, mapI str (fun n : Nat => Value.int .i64 (n : Int)) mm5 (keyZ (psM a v i W x)), oI z6 25 (dC (pdN a v i) km), dI 37 4 3 (pdN a v i) km, rowI (aD z7) (letN a) 3 1 (ints (rwP a v i W x)), rowI lb lc 3 1 (intN (elN W)), oI z8 37 [(.slice tb (2 * j) tc)], rowI tb tc 3 1 (intN (toL a v ((elN W).take j) x))] w1) => (haveI := tbz hI; variMk w1 x v)
    refine TO.l rfl (l_call ent52 (CallT.op hk83) rfl ?_)
    clear hk83
    rintro vr O' ⟨N, rfl, xb, vb, rfl, rfl⟩
    refine TO.nl (T.block ?_)
    refine T.rangeFunc (first := []) (caps := [(.pointer (aD vb)), (.pointer (aD xb))]) rfl ent87 (fun yl yq yhq => ?_)
    refine CallT.mono (CallT.sub (O' := oI vb 3 [(vI ((v : Nat) : Int))] :: oI xb 5 [(.int .u8 ((x : Nat) : Int))] :: (objI yl (lp yq none) :: [oI z9 3 [(vI ((s : Nat) : Int))], oI z1 25 (dC a k), oI z2 25 [(vI 0), (vI 0), nS, nS], setI 67 107 sb2 sc2 us2, mapI str (fun n : Nat => Value.int .i64 (n : Int)) mm5 (keyZ (psM a v i W x)), oI z6 25 (dC (pdN a v i) km), dI 37 4 3 (pdN a v i) km, rowI (aD z7) (letN a) 3 1 (ints (rwP a v i W x)), rowI lb lc 3 1 (intN (elN W)), oI z8 37 [(.slice tb (2 * j) tc)], rowI tb tc 3 1 (intN (toL a v ((elN W).take j) x))])) (Sub.pick [1, 1, 0, 0, 0, 0, 0, 0, 0, 0, 0, 0, 0, 0] rfl) (variF w xb vb v x (by omega) hx64 (.func (.yield yl) #[] #[]) (fun i9 O => ∃ (tb2 : Option Addr) (tc2 : Nat), O = objI yl (lp yq none) :: [oI z9 3 [(vI ((s : Nat) : Int))], oI z1 25 (dC a k), oI z2 25 [(vI 0), (vI 0), nS, nS], setI 67 107 sb2 sc2 us2, mapI str (fun n : Nat => Value.int .i64 (n : Int)) mm5 (keyZ (psM a v i W x)), oI z6 25 (dC (pdN a v i) km), dI 37 4 3 (pdN a v i) km, rowI (aD z7) (letN a) 3 1 (ints (rwP a v i W x)), rowI lb lc 3 1 (intN (elN W)), oI z8 37 [(.slice tb2 (2 * j + i9) tc2)], rowI tb2 tc2 3 1 (intN (toJ a v ((elN W).take j) s x i9))]) (fun _ => False) ?_ _ ?_)) ?_
    ·intro i9 y O hiy hJ
     obtain ⟨tb2, tc2, rfl⟩ := hJ
     refine CallV.yield yhq rfl rfl ?_
     have hi2 : i9 < 2 := by rcases hiy with h | h <;> omega
     have hyl : y < letN a := by
      rcases hiy with ⟨_, rfl⟩ | ⟨_, rfl⟩
      ·exact c0_lt hxl
      ·exact c1_lt (letN6 hv.toVal) hvv hxl
     obtain ⟨hty, _, hyk1, hy1⟩ := hv.toN_lt hsl hyl
     have hy1 : (ints a.next[s])[y]? = some (vI ((toN a s y : Nat) : Int)) := by rw [ints_get hyk1, hy1]
     have hjn : (toJ a v ((elN W).take j) s x i9).length = 2 * j + i9 := by rw [toJ_len (by omega), List.length_take]; omega
     have htk : intN (toJ a v ((elN W).take j) s x i9) ++ [Value.int .i64 ((toN a s y : Nat) : Int)] = intN (toJ a v ((elN W).take j) s x (i9 + 1)) := by rw [← toJ_step hiy]; simp
     refine T.rg (TO.qa rfl (TO.nl (T.block ?_)))
     refine T.draws _ [(0, 0), (1, 0), (2, 0), (3, 0), (4, 0), (5, 0), (6, 0), (7, 0), (8, 0), (9, 1), (10, 2), (11, 2)] mixed (drawF_ok (by kernel_rfl)) (Sub.of (List.Sublist.refl _)) (fun _ _ _ h => h) ?_
     refine DO.q rfl (q_lb 9 uT37 rfl rfl rfl rfl) (DO.q rfl (q_fa uT25 rfl inf22 rfl rfl) (DO.q rfl (q_lb 1 uT22 rfl rfl rfl rfl) (DO.q rfl (q_lb 0 uT3 rfl rfl rfl rfl) (DO.q rfl (q_ix (i := s) uT22 inf37 rfl rfl (Sl.o ha.outer) hsl (hvl ▸ hsl)) (DO.q rfl (q_ld uT37 rfl rfl (Sl.o ha.outer) g1) (DO.q rfl (q_move rfl) (DO.q rfl (q_ix (i := y) uT37 inf3 rfl rfl (Sl.o s1) hyk1 (by rw [List.length_map]; exact hyk1)) (DO.q rfl (q_ld uT3 rfl rfl (Sl.o s1) hy1) ?_))))))))
     refine DO.loud rfl rfl (l_build1 (v := vI ((toN a s y : Nat) : Int)) uT37 inf3 rfl rfl rfl (fun z10 => ⟨by exact Sub.d (.k (.k (.k (.k (.k (.k (.k (.k (.k (.k (.k .z))))))))))), ?_⟩))
     refine DO.last rfl rfl (l_append 11 uT37 uT37 inf3 rfl rfl rfl rfl (by rw [List.length_map]; omega) (by decide) (Src.row (j := 0) rfl (by simp)) (by simp [oneB]) (by omega) (by decide) (by decide) (fun z11 zc12 => ?_))
     refine DO.last rfl rfl (l_sb (v := (.slice z11 ((2 * j + i9) + 1) zc12)) (vs := [(.slice z11 ((2 * j + i9) + 1) zc12)]) 10 inf37 rfl rfl rfl rfl rfl rfl (by simp [putL]) ?_)
     refine DO.sub (O' := [oI z9 3 [(vI ((s : Nat) : Int))], oI z1 25 (dC a k), oI z2 25 [(vI 0), (vI 0), nS, nS], setI 67 107 sb2 sc2 us2, mapI str (fun n : Nat => Value.int .i64 (n : Int)) mm5 (keyZ (psM a v i W x)), oI z6 25 (dC (pdN a v i) km), dI 37 4 3 (pdN a v i) km, rowI (aD z7) (letN a) 3 1 (ints (rwP a v i W x)), rowI lb lc 3 1 (intN (elN W)), oI z8 37 [(.slice z11 ((2 * j + i9) + 1) zc12)], rowI z11 zc12 3 1 ((intN (toJ a v ((elN W).take j) s x i9)) ++ [vI ((toN a s y : Nat) : Int)])]) (by exact Sub.d (.k (.k (.k (.k (.k (.k (.k (.k (.k (.k (.k .z)))))))))))) ?_
     refine DO.done ?_
     exact .inl ⟨rfl, z11, zc12, by rw [htk]; rfl⟩
    ·exact ⟨tb, tc, by rw [toJ_zero]; rfl⟩
    rintro v9 O' (⟨tb2, tc2, rfl⟩ | hF)
    rotate_left
    ·exact hF.elim
    refine ⟨none, _, rfl, ?_⟩
    refine T.rg (TO.q (q_addN (a := j) (b := 1) rfl rfl (by omega)) (TO.qm rfl (TO.nl ?_)))
    exact ⟨j + 1, by omega, [oI z1 25 (dC a k), oI z2 25 [(vI 0), (vI 0), nS, nS], setI 67 107 sb2 sc2 us2, mapI str (fun n : Nat => Value.int .i64 (n : Int)) mm5 (keyZ (psM a v i W x)), oI z6 25 (dC (pdN a v i) km), dI 37 4 3 (pdN a v i) km, rowI (aD z7) (letN a) 3 1 (ints (rwP a v i W x)), rowI lb lc 3 1 (intN (elN W)), oI z8 37 [(.slice tb2 (2 * j + 2) tc2)], rowI tb2 tc2 3 1 (intN (toJ a v ((elN W).take j) s x 2))], (by exact Sub.d (.k (.k (.k (.k (.k (.k (.k (.k (.k (.k .z))))))))))), tb2, tc2, by rw [toJ_two hsj]; rfl, by omega, (.of rfl)⟩
   have hge77 : ¬ j < (elN W).length := by omega
   refine T.exit ?_
   refine T.s ?_
   have htj : (elN W).take j = elN W := List.take_of_length_le (by omega)
   have hln2 : (toL a v ((elN W).take j) x).length = 2 * j := by rw [toL_len, List.length_take]; omega
   have hmo2 : mOf (toL a v ((elN W).take j) x) = Y := by rw [htj, pst_toL, hY]
   have htl2 : ∀ q ∈ toL a v ((elN W).take j) x, q < 64 := by rw [htj]; exact htl
   have htn2 : toL a v ((elN W).take j) x ≠ [] := by rw [htj]; exact htn
   refine T.rg (TO.q (q_lb 8 uT37 rfl rfl rfl rfl) ?_)
   have hk98 := fun (w1 : World) (hI : Inv w [oI z1 25 (dC a k), oI z2 25 [(vI 0), (vI 0), nS, nS], setI 67 107 sb2 sc2 us2, mapI str (fun n : Nat => Value.int .i64 (n : Int)) mm5 (keyZ (psM a v i W x)), oI z6 25 (dC (pdN a v i) km), dI 37 4 3 (pdN a v i) km, rowI (aD z7) (letN a) 3 1 (ints (rwP a v i W x)), rowI lb lc 3 1 (intN (elN W)), oI z8 37 [(.slice tb (2 * j) tc)], rowI tb tc 3 1 (intN (toL a v ((elN W).take j) x))] w1) => (haveI := tbz hI; (show PureT _ _ _ _ _ from by
     have h9 := ofC w1 tb tc (toL a v ((elN W).take j) x) (hI.slOf (mG 9 rfl)) htl2 htn2 (by rw [hln2]; omega)
     rw [hln2, hmo2] at h9
     exact h9))
   refine TO.l rfl (l_call ent49 (CallT.op hk98) rfl ?_)
   clear hk98
   rintro vr O' ⟨N, rfl, nb9, nc9, rfl, rfl⟩
   refine TO.qa rfl ?_
   refine TO.sub (O' := [oI z1 25 (dC a k), oI z2 25 [(vI 0), (vI 0), nS, nS], setI 67 107 sb2 sc2 us2, mapI str (fun n : Nat => Value.int .i64 (n : Int)) mm5 (keyZ (psM a v i W x)), oI z6 25 (dC (pdN a v i) km), dI 37 4 3 (pdN a v i) km, rowI (aD z7) (letN a) 3 1 (ints (rwP a v i W x)), rowI lb lc 3 1 (intN (elN W)), rowI nb9 nc9 107 1 (uns [Y])]) (by exact Sub.pull [rowI nb9 nc9 107 1 (uns [Y])] _ (.pull [rowI nb9 nc9 107 1 (uns [Y])] _ (.pull [rowI nb9 nc9 107 1 (uns [Y])] _ (.pull [rowI nb9 nc9 107 1 (uns [Y])] _ (.pull [rowI nb9 nc9 107 1 (uns [Y])] _ (.pull [rowI nb9 nc9 107 1 (uns [Y])] _ (.pull [rowI nb9 nc9 107 1 (uns [Y])] _ (.pull [rowI nb9 nc9 107 1 (uns [Y])] _ (.k .z))))))))) ?_
   refine TO.nl ?_
   refine T.reset [oI z1 25 (dC a k), oI z2 25 [(vI 0), (vI 0), nS, nS], setI 67 107 sb2 sc2 us2, mapI str (fun n : Nat => Value.int .i64 (n : Int)) mm5 (keyZ (psM a v i W x)), oI z6 25 (dC (pdN a v i) km), dI 37 4 3 (pdN a v i) km, rowI (aD z7) (letN a) 3 1 (ints (rwP a v i W x)), rowI lb lc 3 1 (intN (elN W)), rowI nb9 nc9 107 1 (uns [Y])] [(0, (dV a k)), (1, vI ((v : Nat) : Int)), (2, vI B), (3, (.pointer (aD z1))), (6, (.pointer (aD z2))), (8, vI 0), (9, (.slice sb2 us2.length sc2)), (10, (.map (some mm5))), (11, (.pointer (aD z6))), (12, vI ((i : Nat) : Int)), (13, (.slice (aD z7) (letN a) (letN a))), (14, .bool false), (15, (.slice lb ((elN W).length) lc)), (16, vI ((x : Nat) : Int)), (17, (.pointer (aD z8))), (21, (.slice nb9 1 1)), (70, vI (letN a : Int)), (71, vI ((x : Nat) : Int))] rfl (.of rfl) (fun ρ0 => ?_)
   refine T.s (T.rg (TO.qm rfl (TO.qm rfl ?_)))
   have hk102 := fun (w1 : World) (hI : Inv w [oI z1 25 (dC a k), oI z2 25 [(vI 0), (vI 0), nS, nS], setI 67 107 sb2 sc2 us2, mapI str (fun n : Nat => Value.int .i64 (n : Int)) mm5 (keyZ (psM a v i W x)), oI z6 25 (dC (pdN a v i) km), dI 37 4 3 (pdN a v i) km, rowI (aD z7) (letN a) 3 1 (ints (rwP a v i W x)), rowI lb lc 3 1 (intN (elN W)), rowI nb9 nc9 107 1 (uns [Y])] w1) => (haveI := tbz hI; keyC w1 nb9 Y (hI.slOf (mG 8 rfl)) hY64)
   refine TO.l rfl (l_call ent50 (CallT.op hk102) rfl ?_)
   clear hk102
   rintro vr O' ⟨N, rfl, rfl, rfl⟩
   refine TO.q (QT.cast (q_lookupOk (a := keyM Y) uT71 inf3 (KeyOk.string uT9) rfl rfl (mG 3 rfl)) (v' := (.tuple #[vI ((lkN Y (psM a v i W x) : Nat) : Int), .bool (decide (Y ∈ psM a v i W x))])) (by rw [keyL_look hl64 hY64]; by_cases h : Y ∈ psM a v i W x <;> simp [h, lkN])) (TO.qm rfl (TO.q (q_extract (vs := _) rfl rfl) (TO.q (q_extract (vs := _) rfl rfl) (TO.qa rfl (TO.qa rfl (TO.nl (T.s (T.s (T.rg (TO.qm rfl (TO.q (q_not rfl) (TO.nl (T.cond rfl (fun hc => ?_) (fun hc => ?_))))))))))))))
   ·have hno : Y ∉ psM a v i W x := by simpa using hc
    have hpe : psM a v i W (x + 1) = psM a v i W x ++ [Y] := by rw [psM_step, hY]; exact if_neg hno
    have hval : ix (pst a v W x) (psM a v i W (x + 1)) = us2.length := by rw [hpe, hY, ix_append_right hno, hpl2]; simp [ix]
    refine T.s (T.rg (TO.qm rfl (TO.q (q_len uT69 rfl) (TO.qa rfl (TO.nl ?_)))))
    refine T.reset [oI z1 25 (dC a k), oI z2 25 [(vI 0), (vI 0), nS, nS], setI 67 107 sb2 sc2 us2, mapI str (fun n : Nat => Value.int .i64 (n : Int)) mm5 (keyZ (psM a v i W x)), oI z6 25 (dC (pdN a v i) km), dI 37 4 3 (pdN a v i) km, rowI (aD z7) (letN a) 3 1 (ints (rwP a v i W x)), rowI lb lc 3 1 (intN (elN W)), rowI nb9 nc9 107 1 (uns [Y])] [(0, (dV a k)), (1, vI ((v : Nat) : Int)), (2, vI B), (3, (.pointer (aD z1))), (6, (.pointer (aD z2))), (8, vI 0), (9, (.slice sb2 us2.length sc2)), (10, (.map (some mm5))), (11, (.pointer (aD z6))), (12, vI ((i : Nat) : Int)), (13, (.slice (aD z7) (letN a) (letN a))), (14, .bool false), (15, (.slice lb ((elN W).length) lc)), (16, vI ((x : Nat) : Int)), (17, (.pointer (aD z8))), (21, (.slice nb9 1 1)), (22, vI (us2.length : Int)), (23, .bool (decide (Y ∈ psM a v i W x))), (70, vI (letN a : Int)), (71, vI ((x : Nat) : Int))] rfl (.of rfl) (fun ρ0 => ?_)
    refine T.s (T.rg (TO.qm rfl (TO.qm rfl ?_)))
    have hk112 := fun (w1 : World) (hI : Inv w [oI z1 25 (dC a k), oI z2 25 [(vI 0), (vI 0), nS, nS], setI 67 107 sb2 sc2 us2, mapI str (fun n : Nat => Value.int .i64 (n : Int)) mm5 (keyZ (psM a v i W x)), oI z6 25 (dC (pdN a v i) km), dI 37 4 3 (pdN a v i) km, rowI (aD z7) (letN a) 3 1 (ints (rwP a v i W x)), rowI lb lc 3 1 (intN (elN W)), rowI nb9 nc9 107 1 (uns [Y])] w1) => (haveI := tbz hI; keyC w1 nb9 Y (hI.slOf (mG 8 rfl)) hY64)
    refine TO.l rfl (l_call ent50 (CallT.op hk112) rfl ?_)
    clear hk112
    rintro vr O' ⟨N, rfl, rfl, rfl⟩
    refine TO.qm rfl (TO.l rfl (l_mapPut (a := keyM Y) (v := us2.length) 3 uT71 (KeyOk.string uT9) rfl rfl rfl rfl (keyL_new hl64 hY64 hno) ?_))
    refine TO.nl ?_
    refine T.sub (O' := [oI z1 25 (dC a k), oI z2 25 [(vI 0), (vI 0), nS, nS], setI 67 107 sb2 sc2 us2, mapI str (fun n : Nat => Value.int .i64 (n : Int)) mm5 (keyZ (psM a v i W (x + 1))), oI z6 25 (dC (pdN a v i) km), dI 37 4 3 (pdN a v i) km, rowI (aD z7) (letN a) 3 1 (ints (rwP a v i W x)), rowI lb lc 3 1 (intN (elN W)), rowI nb9 nc9 107 1 (uns [Y])]) (by rw [hpe, keyL_snoc, hpl2]; exact Sub.rf) ?_
    refine T.sub (O' := [setI 67 107 sb2 sc2 us2, oI z1 25 (dC a k), oI z2 25 [(vI 0), (vI 0), nS, nS], mapI str (fun n : Nat => Value.int .i64 (n : Int)) mm5 (keyZ (psM a v i W (x + 1))), oI z6 25 (dC (pdN a v i) km), dI 37 4 3 (pdN a v i) km, rowI (aD z7) (letN a) 3 1 (ints (rwP a v i W x)), rowI lb lc 3 1 (intN (elN W)), rowI nb9 nc9 107 1 (uns [Y])]) (by exact Sub.pull [oI z1 25 (dC a k), oI z2 25 [(vI 0), (vI 0), nS, nS]] _ (.k (.k (.k (.k (.k (.k (.k (.k .z))))))))) ?_
    refine T.unpack (fun _ => ?_)
    refine T.sub (O' := ([rowI sb2 sc2 67 1 (svals us2), oI z1 25 (dC a k), oI z2 25 [(vI 0), (vI 0), nS, nS], mapI str (fun n : Nat => Value.int .i64 (n : Int)) mm5 (keyZ (psM a v i W (x + 1))), oI z6 25 (dC (pdN a v i) km), dI 37 4 3 (pdN a v i) km, rowI (aD z7) (letN a) 3 1 (ints (rwP a v i W x)), rowI lb lc 3 1 (intN (elN W)), rowI nb9 nc9 107 1 (uns [Y])] ++ sitms 107 us2)) (by exact Sub.swap3 [rowI sb2 sc2 67 1 (svals us2)] _ (sitms 107 us2)) ?_
    refine T.rg (TO.qm rfl (TO.qm rfl (TO.l rfl (l_build1 (v := (.slice nb9 1 1)) uT69 inf67 rfl rfl rfl (fun z13 => ?_)))))
    refine TO.l rfl (l_append 1 uT69 uT69 inf67 rfl rfl rfl rfl (by rw [List.length_map]; omega) (by decide) (Src.row (j := 0) rfl (by simp)) (by simp [oneB]) (by omega) (by decide) (by decide) (fun z14 zc15 => ?_))
    refine TO.qa rfl (TO.nl ?_)
    refine T.sub (O' := ([rowI z14 zc15 67 1 ((svals us2) ++ [(.slice nb9 1 1)]), rowI nb9 nc9 107 1 (uns [Y]), oI z1 25 (dC a k), oI z2 25 [(vI 0), (vI 0), nS, nS], mapI str (fun n : Nat => Value.int .i64 (n : Int)) mm5 (keyZ (psM a v i W (x + 1))), oI z6 25 (dC (pdN a v i) km), dI 37 4 3 (pdN a v i) km, rowI (aD z7) (letN a) 3 1 (ints (rwP a v i W x)), rowI lb lc 3 1 (intN (elN W))] ++ sitms 107 us2)) (by exact Sub.d (.k (.pull [oI z1 25 (dC a k), oI z2 25 [(vI 0), (vI 0), nS, nS], mapI str (fun n : Nat => Value.int .i64 (n : Int)) mm5 (keyZ (psM a v i W (x + 1))), oI z6 25 (dC (pdN a v i) km), dI 37 4 3 (pdN a v i) km, rowI (aD z7) (letN a) 3 1 (ints (rwP a v i W x)), rowI lb lc 3 1 (intN (elN W))] _ (.k (.k (.k (.k (.k (.k (.k .rf)))))))))) ?_
    refine T.sub (O' := ((rowI z14 zc15 67 1 (svals (us2 ++ [⟨nb9, nc9, Y⟩])) :: sitms 107 (us2 ++ [⟨nb9, nc9, Y⟩])) ++ [oI z1 25 (dC a k), oI z2 25 [(vI 0), (vI 0), nS, nS], mapI str (fun n : Nat => Value.int .i64 (n : Int)) mm5 (keyZ (psM a v i W (x + 1))), oI z6 25 (dC (pdN a v i) km), dI 37 4 3 (pdN a v i) km, rowI (aD z7) (letN a) 3 1 (ints (rwP a v i W x)), rowI lb lc 3 1 (intN (elN W))])) (by rw [show svals (us2 ++ [⟨nb9, nc9, Y⟩]) = svals us2 ++ [.slice nb9 1 1] by simp [SRec.val]]; exact Sub.fold [rowI z14 zc15 67 1 (svals us2 ++ [.slice nb9 1 1])] (rowI nb9 nc9 107 1 (uns [Y])) [oI z1 25 (dC a k), oI z2 25 [(vI 0), (vI 0), nS, nS], mapI str (fun n : Nat => Value.int .i64 (n : Int)) mm5 (keyZ (psM a v i W (x + 1))), oI z6 25 (dC (pdN a v i) km), dI 37 4 3 (pdN a v i) km, rowI (aD z7) (letN a) 3 1 (ints (rwP a v i W x)), rowI lb lc 3 1 (intN (elN W))] (sitms 107 us2) (sitms 107 (us2 ++ [⟨nb9, nc9, Y⟩])) (by simp [SRec.itm])) ?_
    refine T.pack (φ := True) trivial ?_
    refine T.rg (TO.qm rfl (TO.qm rfl (TO.qm rfl (TO.q (q_ix (i := x) uT37 inf3 rfl rfl (rowO (mG 6 rfl)) hxl (by rw [List.length_map, rwP_len]; exact hxl)) (TO.l rfl (l_st (j := x) (v := vI (us2.length : Int)) (vs := [(vI (us2.length : Int))]) (cs := ints (rwP a v i W x)) 6 inf3 rfl rfl rfl rfl rfl (by simp) rfl (by rw [List.length_map, rwP_len]; simp; omega) ?_))))))
    refine TO.sub (O' := [setI 67 107 z14 zc15 (us2 ++ [⟨nb9, nc9, Y⟩]), oI z1 25 (dC a k), oI z2 25 [(vI 0), (vI 0), nS, nS], mapI str (fun n : Nat => Value.int .i64 (n : Int)) mm5 (keyZ (psM a v i W (x + 1))), oI z6 25 (dC (pdN a v i) km), dI 37 4 3 (pdN a v i) km, rowI (aD z7) (letN a) 3 1 (ints (rwP a v i W (x + 1))), rowI lb lc 3 1 (intN (elN W))]) (by rw [show putL (ints (rwP a v i W x)) x [(vI (us2.length : Int))] = ints (rwP a v i W (x + 1)) from by rw [← rwP_set hxl, hval]; simp [putL]]; exact Sub.of (List.Sublist.refl _)) ?_
    refine TO.nl (T.rg (TO.q (q_addN (a := x) (b := 1) rfl rfl (by omega)) (TO.qm rfl (TO.nl ?_))))
    exact ⟨x + 1, by omega, [oI z1 25 (dC a k), oI z2 25 [(vI 0), (vI 0), nS, nS], setI 67 107 z14 zc15 (us2 ++ [⟨nb9, nc9, Y⟩]), mapI str (fun n : Nat => Value.int .i64 (n : Int)) mm5 (keyZ (psM a v i W (x + 1))), oI z6 25 (dC (pdN a v i) km), dI 37 4 3 (pdN a v i) km, rowI (aD z7) (letN a) 3 1 (ints (rwP a v i W (x + 1))), rowI lb lc 3 1 (intN (elN W))], (by exact Sub.pull [setI 67 107 z14 zc15 (us2 ++ [⟨nb9, nc9, Y⟩])] _ (.pull [setI 67 107 z14 zc15 (us2 ++ [⟨nb9, nc9, Y⟩])] _ (.k (.k (.k (.k (.k (.k .z)))))))), z14, zc15, us2 ++ [⟨nb9, nc9, Y⟩], rfl, by omega, by rw [List.map_append, hus2, hpe]; rfl, ⟨rfl, rfl, rfl, rfl, rfl, rfl, (by rw [List.length_append]; rfl), rfl, rfl, rfl, rfl, rfl, rfl, rfl, rfl, trivial⟩⟩
   have hno : Y ∈ psM a v i W x := by simpa using hc
   have hpe : psM a v i W (x + 1) = psM a v i W x := by rw [psM_step, hY]; exact if_pos hno
   have hval : ix (pst a v W x) (psM a v i W (x + 1)) = lkN Y (psM a v i W x) := by rw [hpe, hY]; unfold lkN; rw [if_pos hno]
   refine T.skip ?_
   skip
   refine T.rg (TO.qm rfl (TO.qm rfl (TO.qm rfl (TO.q (q_ix (i := x) uT37 inf3 rfl rfl (rowO (mG 6 rfl)) hxl (by rw [List.length_map, rwP_len]; exact hxl)) (TO.l rfl (l_st (j := x) (v := vI ((lkN Y (psM a v i W x) : Nat) : Int)) (vs := [(vI ((lkN Y (psM a v i W x) : Nat) : Int))]) (cs := ints (rwP a v i W x)) 6 inf3 rfl rfl rfl rfl rfl (by simp) rfl (by rw [List.length_map, rwP_len]; simp; omega) ?_))))))
   refine TO.sub (O' := [oI z1 25 (dC a k), oI z2 25 [(vI 0), (vI 0), nS, nS], setI 67 107 sb2 sc2 us2, mapI str (fun n : Nat => Value.int .i64 (n : Int)) mm5 (keyZ (psM a v i W x)), oI z6 25 (dC (pdN a v i) km), dI 37 4 3 (pdN a v i) km, rowI (aD z7) (letN a) 3 1 (ints (rwP a v i W (x + 1))), rowI lb lc 3 1 (intN (elN W)), rowI nb9 nc9 107 1 (uns [Y])]) (by rw [show putL (ints (rwP a v i W x)) x [(vI ((lkN Y (psM a v i W x) : Nat) : Int))] = ints (rwP a v i W (x + 1)) from by rw [← rwP_set hxl, hval]; simp [putL]]; exact Sub.of (List.Sublist.refl _)) ?_
   refine TO.nl (T.rg (TO.q (q_addN (a := x) (b := 1) rfl rfl (by omega)) (TO.qm rfl (TO.nl ?_))))
   exact ⟨x + 1, by omega, [oI z1 25 (dC a k), oI z2 25 [(vI 0), (vI 0), nS, nS], setI 67 107 sb2 sc2 us2, mapI str (fun n : Nat => Value.int .i64 (n : Int)) mm5 (keyZ (psM a v i W x)), oI z6 25 (dC (pdN a v i) km), dI 37 4 3 (pdN a v i) km, rowI (aD z7) (letN a) 3 1 (ints (rwP a v i W (x + 1))), rowI lb lc 3 1 (intN (elN W))], (by exact Sub.k (.k (.k (.k (.k (.k (.k (.k .z)))))))), sb2, sc2, us2, by rw [hpe], by omega, by rw [hus2, hpe], (.of rfl)⟩
  have hge72 : ¬ x < letN a := by omega
  refine T.exit ?_
  refine T.s (T.s ?_)
  have hxe : x = letN a := by omega
  have hus3 : us2.map SRec.w = psN a v (i + 1) := by rw [hus2, hxe]; exact psM_full hiW
  have hpl4 : (psN a v (i + 1)).length = us2.length := by rw [← hus3, List.length_map]
  have hui : i < us2.length := by
   have h9 := (gq_pre (psuc a v) (2 ^ a.start.toNat) (i := i) (m := i + 1) (by omega)).length_le
   have h8 : (psN a v i).length ≤ (psN a v (i + 1)).length := h9
   omega
  refine T.rg (TO.qm rfl (TO.q (q_len uT69 rfl) (TO.qm rfl (TO.q (q_gtr rfl rfl) (TO.nl (T.condP rfl (fun hc => ?_) (fun hc => ?_)))))))
  ·refine T.s ?_
   refine T.nilD 37 4 3 ?_
   refine T.rg (TO.q (q_build plan25 inf25 rfl) (TO.l rfl (l_sb (v := (.agg #[(vI 0), (vI 0), nS, nS])) (vs := [(vI 0), (vI 0), nS, nS]) 2 inf25 rfl rfl rfl rfl rfl rfl (by simp [putL]) ?_)))
   refine TO.qa rfl (TO.nl (T.ret (Res.drop ?_)))
   refine Res.cell1b (vI 10) (i := 2) Tryz.results16 uT25 rfl inf25 rfl rfl rfl rfl ?_
   obtain ⟨e1, e2⟩ := ex_big (d := a) (v := (v : Int)) (B := B) (i := i + 1) hve hB1 hB2 (by omega) (by show B < ((psN a v (i + 1)).length : Int); omega)
   rw [e1, e2]
   exact ⟨[dI 37 4 3 noD k00], (by exact Sub.k .z), k00, rfl, rfl⟩
  refine T.skip (T.s (T.s (T.rg (TO.qm rfl (TO.q (q_len uT37 rfl) (TO.qm rfl (TO.nl (T.block ?_))))))))
  refine T.loop (fun (j : Nat) ρ O => O = [oI z1 25 (dC a k), oI z2 25 [(vI 0), (vI 0), nS, nS], setI 67 107 sb2 sc2 us2, mapI str (fun n : Nat => Value.int .i64 (n : Int)) mm5 (keyZ (psM a v i W x)), oI z6 25 (dC (pdN a v i) km), dI 37 4 3 (pdN a v i) km, rowI (aD z7) (letN a) 3 1 (ints (rwP a v i W x)), rowI lb lc 3 1 (intN (elN W))] ∧ j ≤ (elN W).length ∧ Heads [(0, (dV a k)), (1, vI ((v : Nat) : Int)), (2, vI B), (3, (.pointer (aD z1))), (6, (.pointer (aD z2))), (8, vI 0), (9, (.slice sb2 us2.length sc2)), (10, (.map (some mm5))), (11, (.pointer (aD z6))), (12, vI ((i : Nat) : Int)), (13, (.slice (aD z7) (letN a) (letN a))), (14, .bool (((elN W).take j).any (finN a))), (15, (.slice lb ((elN W).length) lc)), (128, (.slice lb ((elN W).length) lc)), (129, vI ((elN W).length : Int)), (130, vI ((j : Nat) : Int))] ρ) (fun j => (elN W).length - j) 0 ?_ ?_
  ·exact ⟨rfl, Nat.zero_le _, (.of rfl)⟩
  rintro j ρ O ⟨rfl, hj, hH⟩
  obtain ⟨ρ0, rfl⟩ := hH.elim
  clear hH
  refine T.s (T.rg (TO.q (q_lss rfl rfl) (TO.nl (T.s (T.condP rfl (fun hc => ?_) (fun hc => ?_))))))
  ·have hlt131 : j < (elN W).length := by omega
   have hjl : j < (elN W).length := by omega
   obtain ⟨s, hsj⟩ : ∃ s, (elN W)[j]? = some s := ⟨_, List.getElem?_eq_getElem hjl⟩
   have hsl : s < a.next.length := hgW.st (List.mem_of_getElem? hsj)
   have hfs := finN_at hv hsl
   refine T.skip (T.s (T.block (T.s (T.rg (TO.q (q_ix (i := j) uT37 inf3 rfl rfl (rowO (mG 7 rfl)) hjl (by rw [List.length_map]; exact hjl)) (TO.q (q_ld uT3 rfl rfl (rowO (mG 7 rfl)) (intN_at hsj)) (TO.qa rfl (TO.nl ?_))))))))
   refine T.reset [oI z1 25 (dC a k), oI z2 25 [(vI 0), (vI 0), nS, nS], setI 67 107 sb2 sc2 us2, mapI str (fun n : Nat => Value.int .i64 (n : Int)) mm5 (keyZ (psM a v i W x)), oI z6 25 (dC (pdN a v i) km), dI 37 4 3 (pdN a v i) km, rowI (aD z7) (letN a) 3 1 (ints (rwP a v i W x)), rowI lb lc 3 1 (intN (elN W))] [(0, (dV a k)), (1, vI ((v : Nat) : Int)), (2, vI B), (3, (.pointer (aD z1))), (6, (.pointer (aD z2))), (8, vI 0), (9, (.slice sb2 us2.length sc2)), (10, (.map (some mm5))), (11, (.pointer (aD z6))), (12, vI ((i : Nat) : Int)), (13, (.slice (aD z7) (letN a) (letN a))), (14, .bool (((elN W).take j).any (finN a))), (15, (.slice lb ((elN W).length) lc)), (25, vI ((s : Nat) : Int)), (128, (.slice lb ((elN W).length) lc)), (129, vI ((elN W).length : Int)), (130, vI ((j : Nat) : Int))] rfl (.of rfl) (fun ρ0 => ?_)
   refine T.rg (TO.qm rfl ?_)
   by_cases hs135 : ((elN W).take j).any (finN a) = true
   ·refine TO.q (QT.toB (q_move rfl) (hs135)) ?_
    refine TO.pd rfl rfl (TO.pd rfl rfl (TO.pd rfl rfl (TO.pd rfl rfl (TO.pd rfl rfl (TO.q (q_pick1 rfl rfl) (TO.qa rfl (TO.nl (T.rg (TO.q (q_addN (a := j) (b := 1) rfl rfl (by omega)) (TO.qm rfl ?_))))))))))
    refine TO.nl ?_
    exact ⟨j + 1, by omega, rfl, by omega, ⟨rfl, rfl, rfl, rfl, rfl, rfl, rfl, rfl, rfl, rfl, rfl, (congrArg Value.bool (by rw [any_step hsj]; simp [hs135])), rfl, rfl, rfl, rfl, trivial⟩⟩
   refine TO.q (QT.toB (q_move rfl) (Bool.eq_false_iff.2 hs135)) (TO.gq rfl rfl (q_fa uT25 rfl inf23 rfl rfl) (TO.gq rfl rfl (q_lb 0 uT23 rfl rfl rfl rfl) (TO.gq rfl rfl (q_move rfl) (TO.gq rfl rfl (q_ix (i := s) uT23 inf4 rfl rfl (Sl.o ha.final) (by omega) (by rw [List.length_map]; omega)) (TO.gq rfl rfl (q_ld uT4 rfl rfl (Sl.o ha.final) hfs) (TO.q (q_pick0 rfl rfl) (TO.qa rfl (TO.nl (T.rg ?_)))))))))
   refine TO.q (q_addN (a := j) (b := 1) rfl rfl (by omega)) (TO.qm rfl (TO.nl ?_))
   exact ⟨j + 1, by omega, rfl, by omega, ⟨rfl, rfl, rfl, rfl, rfl, rfl, rfl, rfl, rfl, rfl, rfl, (congrArg Value.bool (by rw [any_step hsj]; simp [hs135])), rfl, rfl, rfl, rfl, trivial⟩⟩
  have hge131 : ¬ j < (elN W).length := by omega
  refine T.exit ?_
  have hje : j = (elN W).length := by omega
  refine T.sub (O' := [dI 37 4 3 (pdN a v i) km, oI z1 25 (dC a k), oI z2 25 [(vI 0), (vI 0), nS, nS], setI 67 107 sb2 sc2 us2, mapI str (fun n : Nat => Value.int .i64 (n : Int)) mm5 (keyZ (psM a v i W x)), oI z6 25 (dC (pdN a v i) km), rowI (aD z7) (letN a) 3 1 (ints (rwP a v i W x)), rowI lb lc 3 1 (intN (elN W))]) (by exact Sub.pull [oI z1 25 (dC a k), oI z2 25 [(vI 0), (vI 0), nS, nS], setI 67 107 sb2 sc2 us2, mapI str (fun n : Nat => Value.int .i64 (n : Int)) mm5 (keyZ (psM a v i W x)), oI z6 25 (dC (pdN a v i) km)] _ (.k (.k (.k (.k (.k (.k (.k .z)))))))) ?_
  refine T.unpack (fun hkq => ?_)
  refine T.sub (O' := ([rowI km.nb km.nc 37 1 (vals km.qs), rowI km.fb km.fc 4 1 (bools (pdN a v i).final), oI z1 25 (dC a k), oI z2 25 [(vI 0), (vI 0), nS, nS], setI 67 107 sb2 sc2 us2, mapI str (fun n : Nat => Value.int .i64 (n : Int)) mm5 (keyZ (psM a v i W x)), oI z6 25 (dC (pdN a v i) km), rowI (aD z7) (letN a) 3 1 (ints (rwP a v i W x)), rowI lb lc 3 1 (intN (elN W))] ++ itms 3 km.qs)) (by exact Sub.swap3 [rowI km.nb km.nc 37 1 (vals km.qs), rowI km.fb km.fc 4 1 (bools (pdN a v i).final)] _ (itms 3 km.qs)) ?_
  have hkl : km.qs.length = i := by
   have h9 := congrArg List.length hkq
   rw [pdN_nl] at h9; simpa using h9
  have hpn := pdN_nl a v i
  have hpf := pdN_fl a v i
  refine T.cut1 (fun ρ O => ∃ (nb2 : Option Addr) (nc2 : Nat) (fb2 : Option Addr) (fc2 : Nat), O = ([rowI nb2 nc2 37 1 ((vals km.qs) ++ [(.slice (aD z7) (letN a) (letN a))]), rowI fb2 fc2 4 1 ((bools (pdN a v i).final) ++ [.bool (((elN W).take j).any (finN a))]), oI z1 25 (dC a k), oI z2 25 [(vI 0), (vI 0), nS, nS], setI 67 107 sb2 sc2 us2, mapI str (fun n : Nat => Value.int .i64 (n : Int)) mm5 (keyZ (psM a v i W x)), oI z6 25 [(vI (pdN a v i).vars), (vI (pdN a v i).start), (.slice nb2 (((pdN a v i).next.length) + 1) nc2), (.slice fb2 (((pdN a v i).final.length) + 1) fc2)], rowI (aD z7) (letN a) 3 1 (ints (rwP a v i W x)), rowI lb lc 3 1 (intN (elN W))] ++ (itms 3 km.qs)) ∧ Heads [(0, (dV a k)), (1, vI ((v : Nat) : Int)), (2, vI B), (3, (.pointer (aD z1))), (6, (.pointer (aD z2))), (8, vI 0), (9, (.slice sb2 us2.length sc2)), (10, (.map (some mm5))), (11, (.pointer (aD z6))), (12, vI ((i : Nat) : Int)), (13, (.slice (aD z7) (letN a) (letN a))), (14, .bool (((elN W).take j).any (finN a))), (15, (.slice lb ((elN W).length) lc))] ρ) ?_ ?_
  ·refine T.treeT [oI z1 25 (dC a k), oI z2 25 [(vI 0), (vI 0), nS, nS], oI z6 25 (dC (pdN a v i) km)] [11, 13] 14 mixed rfl (by exact Sub.d (.d (.k (.k (.d (.d (.k .z))))))) (fun _ _ _ h => h) ?_
   refine RO.quietTT 0 rfl (by kernel_rfl) (q_fa uT25 rfl inf22 rfl rfl) ?_
   refine RO.quietTT 1 rfl (by kernel_rfl) (q_lb 2 uT22 rfl rfl rfl rfl) ?_
   refine RO.quietTT 2 rfl (by kernel_rfl) (q_move rfl) ?_
   refine RO.quietTT 5 rfl (by kernel_rfl) (q_fa uT25 rfl inf23 rfl rfl) ?_
   refine RO.quietTT 6 rfl (by kernel_rfl) (q_lb 2 uT23 rfl rfl rfl rfl) ?_
   refine RO.quietTT 7 rfl (by kernel_rfl) (q_move rfl) ?_
   refine RO.forkT [3, 8] (by kernel_rfl) rfl ⟨⟨_, rfl, rfl, l_build1 (v := (.slice (aD z7) (letN a) (letN a))) uT22 inf37 rfl rfl rfl (fun tr => ⟨.inr (by exact Sub.d (.d (.d (.k (.k (.d (.d (.k .z)))))))), ?_⟩)⟩, ⟨_, rfl, rfl, l_build1 (v := .bool (((elN W).take j).any (finN a))) uT23 inf4 rfl rfl rfl (fun tf => ⟨.inr (by exact Sub.d (.d (.d (.k (.k (.d (.d (.k .z)))))))), ?_⟩)⟩, trivial⟩ (by kernel_rfl)
   ·refine RO.forkT [4, 8] (by kernel_rfl) rfl ⟨⟨_, rfl, rfl, l_append 1 uT22 uT22 inf37 rfl rfl rfl rfl (by rw [List.length_map]; omega) (by decide) (Src.row (j := 0) rfl (by simp)) (by simp [oneB]) (by omega) (by decide) (by decide) (fun nb2 nc2 => ⟨.inr (by exact Sub.d (.d (.d (.k (.k (.d (.d (.k .z)))))))), ?_⟩)⟩, ⟨_, rfl, rfl, l_build1 (v := .bool (((elN W).take j).any (finN a))) uT23 inf4 rfl rfl rfl (fun tf => ⟨.inr (by exact Sub.d (.d (.d (.d (.k (.k (.d (.d (.k .z))))))))), ?_⟩)⟩, trivial⟩ (by kernel_rfl)
    ·refine RO.quietTT 10 rfl (by kernel_rfl) (q_fa uT25 rfl inf22 rfl rfl) ?_
     refine RO.forkT [8] (by kernel_rfl) rfl ⟨⟨_, rfl, rfl, l_build1 (v := .bool (((elN W).take j).any (finN a))) uT23 inf4 rfl rfl rfl (fun tf => ⟨.inr (by exact Sub.d (.d (.d (.d (.k (.k (.d (.d (.k .z))))))))), ?_⟩)⟩, trivial⟩ (by kernel_rfl)
     refine RO.forkT [9] (by kernel_rfl) rfl ⟨⟨_, rfl, rfl, l_append 3 uT23 uT23 inf4 rfl rfl rfl rfl (by rw [List.length_map]; omega) (by decide) (Src.row (j := 0) rfl (by simp)) (by simp [oneB]) (by omega) (by decide) (by decide) (fun fb2 fc2 => ⟨.inr (by exact Sub.d (.d (.d (.d (.k (.k (.d (.d (.k .z))))))))), ?_⟩)⟩, trivial⟩ (by kernel_rfl)
     refine RO.forkT [11] (by kernel_rfl) rfl ⟨⟨_, rfl, rfl, l_sb (v := (.slice nb2 (((pdN a v i).next.length) + 1) nc2)) (vs := [(.slice nb2 (((pdN a v i).next.length) + 1) nc2)]) 8 inf22 rfl rfl rfl rfl rfl rfl (by simp [putL]) ⟨.inl (by decide), ?_⟩⟩, trivial⟩ (by kernel_rfl)
     refine RO.quietE 12 rfl (by kernel_rfl) (q_fa uT25 rfl inf23 rfl rfl) ?_
     refine RO.forkT [13] (by kernel_rfl) rfl ⟨⟨_, rfl, rfl, l_sb (v := (.slice fb2 (((pdN a v i).final.length) + 1) fc2)) (vs := [(.slice fb2 (((pdN a v i).final.length) + 1) fc2)]) 8 inf23 rfl rfl rfl rfl rfl rfl (by simp [putL]) ⟨.inl (by decide), ?_⟩⟩, trivial⟩ (by kernel_rfl)
     exact RO.fin (by kernel_rfl) ⟨nb2, nc2, fb2, fc2, rfl, (.of rfl)⟩ (by exact Sub.d (.d (.k (.k (.k (.k (.k (.k (.k (.k (.k .rf)))))))))))
    refine RO.forkT [4] (by kernel_rfl) rfl ⟨⟨_, rfl, rfl, l_append 2 uT22 uT22 inf37 rfl rfl rfl rfl (by rw [List.length_map]; omega) (by decide) (Src.row (j := 1) rfl (by simp)) (by simp [oneB]) (by omega) (by decide) (by decide) (fun nb2 nc2 => ⟨.inr (by exact Sub.d (.d (.d (.d (.k (.k (.d (.d (.k .z))))))))), ?_⟩)⟩, trivial⟩ (by kernel_rfl)
    refine RO.quietTT 10 rfl (by kernel_rfl) (q_fa uT25 rfl inf22 rfl rfl) ?_
    refine RO.forkT [9] (by kernel_rfl) rfl ⟨⟨_, rfl, rfl, l_append 3 uT23 uT23 inf4 rfl rfl rfl rfl (by rw [List.length_map]; omega) (by decide) (Src.row (j := 0) rfl (by simp)) (by simp [oneB]) (by omega) (by decide) (by decide) (fun fb2 fc2 => ⟨.inr (by exact Sub.d (.d (.d (.d (.k (.k (.d (.d (.k .z))))))))), ?_⟩)⟩, trivial⟩ (by kernel_rfl)
    refine RO.forkT [11] (by kernel_rfl) rfl ⟨⟨_, rfl, rfl, l_sb (v := (.slice nb2 (((pdN a v i).next.length) + 1) nc2)) (vs := [(.slice nb2 (((pdN a v i).next.length) + 1) nc2)]) 8 inf22 rfl rfl rfl rfl rfl rfl (by simp [putL]) ⟨.inl (by decide), ?_⟩⟩, trivial⟩ (by kernel_rfl)
    refine RO.quietE 12 rfl (by kernel_rfl) (q_fa uT25 rfl inf23 rfl rfl) ?_
    refine RO.forkT [13] (by kernel_rfl) rfl ⟨⟨_, rfl, rfl, l_sb (v := (.slice fb2 (((pdN a v i).final.length) + 1) fc2)) (vs := [(.slice fb2 (((pdN a v i).final.length) + 1) fc2)]) 8 inf23 rfl rfl rfl rfl rfl rfl (by simp [putL]) ⟨.inl (by decide), ?_⟩⟩, trivial⟩ (by kernel_rfl)
    exact RO.fin (by kernel_rfl) ⟨nb2, nc2, fb2, fc2, rfl, (.of rfl)⟩ (by exact Sub.d (.d (.k (.k (.k (.k (.k (.k (.k (.k (.k .rf)))))))))))
   refine RO.forkT [3] (by kernel_rfl) rfl ⟨⟨_, rfl, rfl, l_build1 (v := (.slice (aD z7) (letN a) (letN a))) uT22 inf37 rfl rfl rfl (fun tr => ⟨.inr (by exact Sub.d (.d (.d (.d (.k (.k (.d (.d (.k .z))))))))), ?_⟩)⟩, trivial⟩ (by kernel_rfl)
   refine RO.forkT [4] (by kernel_rfl) rfl ⟨⟨_, rfl, rfl, l_append 2 uT22 uT22 inf37 rfl rfl rfl rfl (by rw [List.length_map]; omega) (by decide) (Src.row (j := 0) rfl (by simp)) (by simp [oneB]) (by omega) (by decide) (by decide) (fun nb2 nc2 => ⟨.inr (by exact Sub.d (.d (.d (.d (.k (.k (.d (.d (.k .z))))))))), ?_⟩)⟩, trivial⟩ (by kernel_rfl)
   refine RO.quietTT 10 rfl (by kernel_rfl) (q_fa uT25 rfl inf22 rfl rfl) ?_
   refine RO.forkT [9] (by kernel_rfl) rfl ⟨⟨_, rfl, rfl, l_append 3 uT23 uT23 inf4 rfl rfl rfl rfl (by rw [List.length_map]; omega) (by decide) (Src.row (j := 1) rfl (by simp)) (by simp [oneB]) (by omega) (by decide) (by decide) (fun fb2 fc2 => ⟨.inr (by exact Sub.d (.d (.d (.d (.k (.k (.d (.d (.k .z))))))))), ?_⟩)⟩, trivial⟩ (by kernel_rfl)
   refine RO.forkT [11] (by kernel_rfl) rfl ⟨⟨_, rfl, rfl, l_sb (v := (.slice nb2 (((pdN a v i).next.length) + 1) nc2)) (vs := [(.slice nb2 (((pdN a v i).next.length) + 1) nc2)]) 8 inf22 rfl rfl rfl rfl rfl rfl (by simp [putL]) ⟨.inl (by decide), ?_⟩⟩, trivial⟩ (by kernel_rfl)
   refine RO.quietE 12 rfl (by kernel_rfl) (q_fa uT25 rfl inf23 rfl rfl) ?_
   refine RO.forkT [13] (by kernel_rfl) rfl ⟨⟨_, rfl, rfl, l_sb (v := (.slice fb2 (((pdN a v i).final.length) + 1) fc2)) (vs := [(.slice fb2 (((pdN a v i).final.length) + 1) fc2)]) 8 inf23 rfl rfl rfl rfl rfl rfl (by simp [putL]) ⟨.inl (by decide), ?_⟩⟩, trivial⟩ (by kernel_rfl)
   exact RO.fin (by kernel_rfl) ⟨nb2, nc2, fb2, fc2, rfl, (.of rfl)⟩ (by exact Sub.d (.d (.k (.k (.k (.k (.k (.k (.k (.k (.k .rf)))))))))))
  rintro ρ O ⟨nb2, nc2, fb2, fc2, rfl, hH⟩
  obtain ⟨ρ0, rfl⟩ := hH.elim
  clear hH
  have hvq : vals (km.qs ++ [⟨some ⟨z7, 0, none⟩, letN a, rwN a v i W⟩]) = vals km.qs ++ [(.slice (aD z7) (letN a) (letN a))] := by simp [Rec.val, rwN_len]
  have hbq : bools (pdN a v (i + 1)).final = bools (pdN a v i).final ++ [(.bool (((elN W).take j).any (finN a)))] := by rw [pdN_final, hW, List.take_of_length_le (by omega)]; simp
  have hnl2 : (pdN a v (i + 1)).next.length = (pdN a v i).next.length + 1 := by rw [pdN_nl, pdN_nl]
  have hfl2 : (pdN a v (i + 1)).final.length = (pdN a v i).final.length + 1 := by rw [pdN_fl, pdN_fl]
  have hnq : nums (km.qs ++ [⟨some ⟨z7, 0, none⟩, letN a, rwN a v i W⟩]) = (pdN a v (i + 1)).next := by
   show List.map Rec.xs (km.qs ++ [_]) = _
   rw [List.map_append, show List.map Rec.xs km.qs = _ from hkq, pdN_next, hW]; rfl
  obtain ⟨z9, hz9⟩ : ∃ z : DK, z = ⟨nb2, nc2, fb2, fc2, km.qs ++ [⟨some ⟨z7, 0, none⟩, letN a, rwN a v i W⟩]⟩ := ⟨_, rfl⟩
  refine T.sub (O' := ([rowI nb2 nc2 37 1 ((vals km.qs) ++ [(.slice (aD z7) (letN a) (letN a))]), rowI fb2 fc2 4 1 ((bools (pdN a v i).final) ++ [.bool (((elN W).take j).any (finN a))]), rowI (aD z7) (letN a) 3 1 (ints (rwP a v i W x)), oI z6 25 [(vI (pdN a v i).vars), (vI (pdN a v i).start), (.slice nb2 (((pdN a v i).next.length) + 1) nc2), (.slice fb2 (((pdN a v i).final.length) + 1) fc2)], oI z1 25 (dC a k), oI z2 25 [(vI 0), (vI 0), nS, nS], setI 67 107 sb2 sc2 us2, mapI str (fun n : Nat => Value.int .i64 (n : Int)) mm5 (keyZ (psM a v i W x))] ++ itms 3 km.qs)) (by exact Sub.k (.k (.pull [oI z1 25 (dC a k), oI z2 25 [(vI 0), (vI 0), nS, nS], setI 67 107 sb2 sc2 us2, mapI str (fun n : Nat => Value.int .i64 (n : Int)) mm5 (keyZ (psM a v i W x)), oI z6 25 [(vI (pdN a v i).vars), (vI (pdN a v i).start), (.slice nb2 (((pdN a v i).next.length) + 1) nc2), (.slice fb2 (((pdN a v i).final.length) + 1) fc2)]] _ (.pull [oI z1 25 (dC a k), oI z2 25 [(vI 0), (vI 0), nS, nS], setI 67 107 sb2 sc2 us2, mapI str (fun n : Nat => Value.int .i64 (n : Int)) mm5 (keyZ (psM a v i W x))] _ (.k (.k (.k (.k (.d .rf))))))))) ?_
  refine T.sub (O' := ([rowI nb2 nc2 37 1 ((vals km.qs) ++ [(.slice (aD z7) (letN a) (letN a))]), rowI fb2 fc2 4 1 ((bools (pdN a v i).final) ++ [.bool (((elN W).take j).any (finN a))]), rowI (aD z7) (letN a) 3 1 (ints (rwN a v i W)), oI z6 25 [(vI (pdN a v i).vars), (vI (pdN a v i).start), (.slice nb2 (((pdN a v i).next.length) + 1) nc2), (.slice fb2 (((pdN a v i).final.length) + 1) fc2)], oI z1 25 (dC a k), oI z2 25 [(vI 0), (vI 0), nS, nS], setI 67 107 sb2 sc2 us2, mapI str (fun n : Nat => Value.int .i64 (n : Int)) mm5 (keyZ (psN a v (i + 1)))] ++ itms 3 km.qs)) (by rw [← rwP_full, ← psM_full hiW, ← hxe]; exact Sub.rf) ?_
  refine T.sub (O' := (([rowI nb2 nc2 37 1 (vals (km.qs ++ [⟨some ⟨z7, 0, none⟩, letN a, rwN a v i W⟩])), rowI fb2 fc2 4 1 (bools (pdN a v (i + 1)).final)] ++ itms 3 (km.qs ++ [⟨some ⟨z7, 0, none⟩, letN a, rwN a v i W⟩])) ++ [oI z6 25 [(vI (pdN a v (i + 1)).vars), (vI (pdN a v (i + 1)).start), (.slice nb2 ((pdN a v (i + 1)).next.length) nc2), (.slice fb2 ((pdN a v (i + 1)).final.length) fc2)], oI z1 25 (dC a k), oI z2 25 [(vI 0), (vI 0), nS, nS], setI 67 107 sb2 sc2 us2, mapI str (fun n : Nat => Value.int .i64 (n : Int)) mm5 (keyZ (psN a v (i + 1)))])) (by rw [hvq, hbq, hnl2, hfl2]; exact Sub.fold [rowI nb2 nc2 37 1 ((vals km.qs) ++ [(.slice (aD z7) (letN a) (letN a))]), rowI fb2 fc2 4 1 ((bools (pdN a v i).final) ++ [.bool (((elN W).take j).any (finN a))])] (rowI (aD z7) (letN a) 3 1 (ints (rwN a v i W))) [oI z6 25 [(vI (pdN a v i).vars), (vI (pdN a v i).start), (.slice nb2 (((pdN a v i).next.length) + 1) nc2), (.slice fb2 (((pdN a v i).final.length) + 1) fc2)], oI z1 25 (dC a k), oI z2 25 [(vI 0), (vI 0), nS, nS], setI 67 107 sb2 sc2 us2, mapI str (fun n : Nat => Value.int .i64 (n : Int)) mm5 (keyZ (psN a v (i + 1)))] (itms 3 km.qs) _ (itms_snoc 3 km.qs ⟨some ⟨z7, 0, none⟩, letN a, rwN a v i W⟩)) ?_
  refine T.pack (φ := nums (km.qs ++ [⟨some ⟨z7, 0, none⟩, letN a, rwN a v i W⟩]) = (pdN a v (i + 1)).next) hnq ?_
  refine T.sub (O' := [dI 37 4 3 (pdN a v (i + 1)) z9, oI z6 25 (dC (pdN a v (i + 1)) z9), oI z1 25 (dC a k), oI z2 25 [(vI 0), (vI 0), nS, nS], setI 67 107 sb2 sc2 us2, mapI str (fun n : Nat => Value.int .i64 (n : Int)) mm5 (keyZ (psN a v (i + 1)))]) (by subst hz9; exact Sub.rf) ?_
  refine T.sub (O' := [oI z1 25 (dC a k), oI z2 25 [(vI 0), (vI 0), nS, nS], setI 67 107 sb2 sc2 us2, mapI str (fun n : Nat => Value.int .i64 (n : Int)) mm5 (keyZ (psN a v (i + 1))), oI z6 25 (dC (pdN a v (i + 1)) z9), dI 37 4 3 (pdN a v (i + 1)) z9]) (by exact Sub.pull [dI 37 4 3 (pdN a v (i + 1)) z9, oI z6 25 (dC (pdN a v (i + 1)) z9)] _ (.pull [dI 37 4 3 (pdN a v (i + 1)) z9, oI z6 25 (dC (pdN a v (i + 1)) z9)] _ (.pull [dI 37 4 3 (pdN a v (i + 1)) z9, oI z6 25 (dC (pdN a v (i + 1)) z9)] _ (.pull [dI 37 4 3 (pdN a v (i + 1)) z9, oI z6 25 (dC (pdN a v (i + 1)) z9)] _ (.pull [dI 37 4 3 (pdN a v (i + 1)) z9] _ (.k .z)))))) ?_
  refine T.rg (TO.qm rfl (TO.q (q_addN (a := i) (b := 1) rfl rfl (by omega)) (TO.qa rfl (TO.nl ?_))))
  exact ⟨i + 1, by omega, sb2, sc2, us2, z9, rfl, by omega, hus3, by omega, (.of rfl)⟩
 have hge57 : ¬ i < us.length := by omega
 refine T.exit ?_
 refine T.s ?_
 have hie : us.length = i := by omega
 obtain ⟨e1, e2⟩ := ex_end (d := a) (v := (v : Int)) (B := B) (i := i) hve hB1 hB2 (by show (psN a v i).length ≤ i; omega) (by omega) (by show ((psN a v i).length : Int) ≤ B; omega)
 have hpe9 : pdN a v i = exM a v (psN a v i) := pdN_end (by omega)
 obtain ⟨Tz, hT⟩ : ∃ T, T = pdN a v i := ⟨_, rfl⟩
 have hTv : Valid Tz := by
  refine ⟨?_, by rw [hT, pdN_nl]; omega⟩
  rw [hT, hpe9]; exact ex_val hv.toVal (exL_of hv.toVal hn hvv (by omega))
 have hTn : Tz.next.length = i := by rw [hT, pdN_nl]
 refine T.rg (TO.q (q_la 4 uT25 rfl inf25 rfl rfl rfl) ?_)
 have hk156 := fun (w1 : World) (hI : Inv w [oI z1 25 (dC a k), oI z2 25 [(vI 0), (vI 0), nS, nS], setI 67 107 sb sc us, mapI str (fun n : Nat => Value.int .i64 (n : Int)) mm5 (keyZ (psN a v i)), oI z6 25 (dC (pdN a v i) km), dI 37 4 3 (pdN a v i) km] w1) => (haveI := tbz hI; minKE w1 (pdN a v i) km (hI.at (k := km) (mG 5 rfl)) (hT ▸ hTv) (by rw [pdN_nl]; omega) (M := xsV a (v : Int) B) (by rw [e2, hpe9]; rfl))
 refine TO.l rfl (l_call ent34 (CallT.op hk156) rfl ?_)
 clear hk156
 rintro vr O' ⟨N, rfl, k9, rfl, rfl⟩
 refine TO.q (q_extract (vs := _) rfl rfl) (TO.q (q_extract (vs := _) rfl rfl) (TO.l rfl (l_sb (v := (dV (xsV a (v : Int) B) k9)) (vs := (dC (xsV a (v : Int) B) k9)) 2 inf25 rfl rfl rfl rfl rfl rfl (by simp [putL]) ?_)))
 refine TO.qa rfl (TO.nl (T.ret (Res.drop ?_)))
 refine Res.cell1b (vI 0) (i := 2) Tryz.results16 uT25 rfl inf25 rfl rfl rfl rfl ?_
 rw [e1]
 exact ⟨[dI 37 4 3 (xsV a (v : Int) B) k9], (by exact Sub.k .z), k9, rfl, rfl⟩
theorem exC (w : World) [Tab Tryz.prog w] (a : DFA) (k : DK) (ha : At w a k) (v B : Int) (haa : a.next.length < 9223372036854775807) (haar : ∀ r ∈ a.next, r.length < 9223372036854775807) (haaf : a.final.length < 9223372036854775807) (hn : vE a v = 0 → a.next.length ≤ 64) :
  PureT Tryz.prog 16 [dV a k, vI v, vI B] w fun r N => ∃ k9 : DK, r = .tuple #[dV (xsV a v B) k9, vI (xsE a v B : Int)] ∧ N = [dI 37 4 3 (xsV a v B) k9] := by
 by_cases he : vE a v = 0
 ·by_cases hB : B < 1 ∨ 4096 < B
  ·have e1 := xsE_arg (B := B) he hB
   have e2 : xsV a v B = noD := xsV_bad (by omega)
   rw [e1, e2]
   by_cases h1 : B < 1
   ·refine (CallT.nilD 37 4 3 (exLo w a k ha haa haar haaf v B he h1)).mono ?_
    rintro v9 N ⟨O2, rfl, rfl, rfl⟩
    exact ⟨k00, rfl, rfl⟩
   ·refine (CallT.nilD 37 4 3 (exHi w a k ha haa haar haaf v B he (by omega))).mono ?_
    rintro v9 N ⟨O2, rfl, rfl, rfl⟩
    exact ⟨k00, rfl, rfl⟩
  ·obtain ⟨hv, h0, h1⟩ := vE_zero.1 he
   obtain ⟨n, rfl⟩ : ∃ n : Nat, v = n := ⟨v.toNat, by omega⟩
   exact exOk w a k ha hv (hn he) n h1 B (by omega) (by omega)
 ·have e1 : xsE a v B = vE a v := xsE_bad he
  have e2 : xsV a v B = noD := xsV_bad (by omega)
  rw [e1, e2]
  refine (CallT.nilD 37 4 3 (exBad w a k ha haa haar haaf v B he)).mono ?_
  rintro v9 N ⟨O2, rfl, rfl, rfl⟩
  exact ⟨k00, rfl, rfl⟩
end Go.Proofs.YtohkmggbfcnapaaGreatDoor


namespace Go.Proofs.YtohkmggbfcnapaaGreatDoor
open Go.Lx Go.RowKit _root_.Go.Proofs.Tryz
theorem notM (w : World) [Tab Tryz.prog w] (a : DFA) (k : DK) (ha : At w a k) (haa : a.next.length < 9223372036854775807) (haar : ∀ r ∈ a.next, r.length < 9223372036854775807) (haaf : a.final.length < 9223372036854775807) :
  PureT Tryz.prog 31 [dV a k] w fun v N => ∃ k' : DK, v = .tuple #[dV (minV (flipD a)) k', vI (checkD a : Int)] ∧ N = [dI 37 4 3 (minV (flipD a)) k'] := by
 have h := notC w a k ha haa haar haaf
 rwa [notV_eq] at h
theorem notMK (w : World) [Tab Tryz.prog w] (a : DFA) (k : DK) (ha : At w a k) (hv : Valid a) {M : DFA} (hM : minD (flipD a) = M) :
  PureT Tryz.prog 31 [dV a k] w fun v N => ∃ k' : DK, v = .tuple #[dV M k', vI 0] ∧ N = [dI 37 4 3 M k'] := by
 have h := notM w a k ha (by have := hv.n4; omega) hv.bound (by have := hv.fin; have := hv.n4; omega)
 rw [minV_valid (flip_valid hv), hM, checkD_zero.2 hv] at h
 exact h
theorem alBad (w : World) [Tab Tryz.prog w] (a : DFA) (k : DK) (ha : At w a k) (haa : a.next.length < 9223372036854775807) (haar : ∀ r ∈ a.next, r.length < 9223372036854775807) (haaf : a.final.length < 9223372036854775807) (v B : Int) (he : checkD a ≠ 0) :
  PureT Tryz.prog 17 [dV a k, vI v, vI B] w fun v9 N => v9 = .tuple #[dV noD ⟨none, 0, none, 0, []⟩, vI (checkD a : Int)] ∧ N = [] := by
 refine CallT.enter func17 rfl ntmps17 rfl ?_
 refine T.s (T.rg (TO.l rfl (l_box (v := (dV a k)) (cs := (dC a k)) rfl rfl (fun bx1 => ?_))))
 refine TO.l rfl (l_alloc inf25 rfl (fun bx2 => ?_))
 refine TO.qa rfl (TO.nl (T.s (T.rg (TO.q (q_la 1 uT25 rfl inf25 rfl rfl rfl) ?_))))
 have hk13 := fun (w1 : World) (hI : Inv w [oI bx2 25 [(vI 0), (vI 0), nS, nS], oI bx1 25 (dC a k)] w1) => (haveI := tbz hI; notM w1 a k (hI.atB ha) haa haar haaf)
 refine TO.l rfl (l_call ent31 (CallT.op hk13) rfl ?_)
 clear hk13
 rintro vr O' ⟨N, rfl, k1, rfl, rfl⟩
 refine TO.qm rfl (TO.q (q_extract (vs := _) rfl rfl) (TO.q (q_extract (vs := _) rfl rfl) (TO.l rfl (l_alloc inf25 rfl (fun bx3 => ?_)))))
 refine TO.l rfl (l_sb (v := (dV (minV (flipD a)) k1)) (vs := (dC (minV (flipD a)) k1)) 0 inf25 rfl rfl rfl rfl rfl rfl (by simp [putL]) ?_)
 refine TO.qa rfl (TO.nl ?_)
 refine T.reset [oI bx3 25 (dC (minV (flipD a)) k1), dI 37 4 3 (minV (flipD a)) k1, oI bx2 25 [(vI 0), (vI 0), nS, nS], oI bx1 25 (dC a k)] [(0, (dV a k)), (1, vI v), (2, vI B), (3, (.pointer (aD bx1))), (6, (.pointer (aD bx2))), (7, vI 0), (8, (.pointer (aD bx3))), (9, vI (checkD a : Int))] rfl (.of rfl) (fun ρ0 => ?_)
 refine T.s (T.s (T.rg (TO.qm rfl (TO.q (QT.toB (q_neq rfl rfl) (decide_eq_true (by omega))) (TO.nl ?_)))))
 refine T.cond1 rfl ?_
 refine T.s (T.rg (TO.q (q_build plan25 inf25 rfl) (TO.qm rfl (TO.l rfl (l_sb (v := (.agg #[(vI 0), (vI 0), nS, nS])) (vs := [(vI 0), (vI 0), nS, nS]) 2 inf25 rfl rfl rfl rfl rfl rfl (by simp [putL]) ?_)))))
 refine TO.qa rfl (TO.nl (T.ret (Res.drop ?_)))
 refine Res.cell1b (vI (checkD a : Int)) (i := 2) Tryz.results17 uT25 rfl inf25 rfl rfl rfl rfl ?_
 exact ⟨[], Sub.z, rfl, rfl⟩
theorem alOk (w : World) [Tab Tryz.prog w] (a : DFA) (k : DK) (ha : At w a k) (hv : Valid a) (hn : a.next.length ≤ 64) (v B : Int) :
  PureT Tryz.prog 17 [dV a k, vI v, vI B] w fun r N => ∃ k9 : DK, r = .tuple #[dV (alV a v B) k9, vI (alE a v B : Int)] ∧ N = [dI 37 4 3 (alV a v B) k9] := by
 refine CallT.enter func17 rfl ntmps17 rfl ?_
 obtain ⟨N1, hN1⟩ : ∃ m, minD (flipD a) = m := ⟨_, rfl⟩
 have hNv : Valid N1 := hN1 ▸ minD_valid (flip_valid hv)
 have hNn : N1.next.length ≤ 64 := by rw [← hN1]; exact Nat.le_trans (minD_len (flip_val hv.toVal)) hn
 have e1 : alE a v B = xsE N1 v B := by rw [← hN1]; exact alE_val hv
 obtain ⟨X, hX⟩ : ∃ m, xsV N1 v B = m := ⟨_, rfl⟩
 obtain ⟨e, hE⟩ : ∃ m, xsE N1 v B = m := ⟨_, rfl⟩
 refine T.s (T.rg (TO.l rfl (l_box (v := (dV a k)) (cs := (dC a k)) rfl rfl (fun z1 => ?_))))
 refine TO.l rfl (l_alloc inf25 rfl (fun z2 => ?_))
 refine TO.qa rfl (TO.nl (T.s (T.rg (TO.q (q_la 1 uT25 rfl inf25 rfl rfl rfl) ?_))))
 have hk13 := fun (w1 : World) (hI : Inv w [oI z2 25 [(vI 0), (vI 0), nS, nS], oI z1 25 (dC a k)] w1) => (haveI := tbz hI; notMK w1 a k (hI.atB ha) hv hN1)
 refine TO.l rfl (l_call ent31 (CallT.op hk13) rfl ?_)
 clear hk13
 rintro vr O' ⟨N, rfl, k1, rfl, rfl⟩
 refine TO.qm rfl (TO.q (q_extract (vs := _) rfl rfl) (TO.q (q_extract (vs := _) rfl rfl) (TO.l rfl (l_alloc inf25 rfl (fun z3 => ?_)))))
 refine TO.l rfl (l_sb (v := (dV N1 k1)) (vs := (dC N1 k1)) 0 inf25 rfl rfl rfl rfl rfl rfl (by simp [putL]) ?_)
 refine TO.qa rfl (TO.nl ?_)
 refine T.reset [oI z3 25 (dC N1 k1), dI 37 4 3 N1 k1, oI z2 25 [(vI 0), (vI 0), nS, nS], oI z1 25 (dC a k)] [(0, (dV a k)), (1, vI v), (2, vI B), (3, (.pointer (aD z1))), (6, (.pointer (aD z2))), (7, vI 0), (8, (.pointer (aD z3))), (9, vI 0)] rfl (.of rfl) (fun ρ0 => ?_)
 refine T.s (T.s (T.rg (TO.qm rfl (TO.q (QT.toB (q_neq rfl rfl) (decide_eq_false (fun h => h rfl))) (TO.nl (T.cond0 rfl (T.skip (T.s (T.rg (TO.q (q_la 0 uT25 rfl inf25 rfl rfl rfl) (TO.qm rfl (TO.qm rfl ?_))))))))))))
 have hk24 := fun (w1 : World) (hI : Inv w [oI z3 25 (dC N1 k1), dI 37 4 3 N1 k1, oI z2 25 [(vI 0), (vI 0), nS, nS], oI z1 25 (dC a k)] w1) => (haveI := tbz hI; (show PureT _ _ _ _ _ from by
   have h9 := exC w1 N1 k1 (hI.at (k := k1) (mG 1 rfl)) v B (by have := hNv.n4; omega) hNv.bound (by have := hNv.fin; have := hNv.n4; omega) (fun _ => hNn)
   rw [hX, hE] at h9
   exact h9))
 refine TO.l rfl (l_call ent16 (CallT.op hk24) rfl ?_)
 clear hk24
 rintro vr O' ⟨N, rfl, k2, rfl, rfl⟩
 refine TO.qm rfl (TO.q (q_extract (vs := _) rfl rfl) (TO.q (q_extract (vs := _) rfl rfl) (TO.l rfl (l_alloc inf25 rfl (fun z4 => ?_)))))
 refine TO.l rfl (l_sb (v := (dV X k2)) (vs := (dC X k2)) 0 inf25 rfl rfl rfl rfl rfl rfl (by simp [putL]) ?_)
 refine TO.qa rfl (TO.nl (T.s (T.s (T.rg (TO.qm rfl (TO.q (q_neq rfl rfl) (TO.nl (T.condP rfl (fun hc => ?_) (fun hc => ?_)))))))))
 ·have hlt28 : e ≠ 0 := by omega
  have he0 : e ≠ 0 := by omega
  refine T.s ?_
  refine T.nilD 37 4 3 ?_
  refine T.rg (TO.q (q_build plan25 inf25 rfl) (TO.qm rfl (TO.l rfl (l_sb (v := (.agg #[(vI 0), (vI 0), nS, nS])) (vs := [(vI 0), (vI 0), nS, nS]) 5 inf25 rfl rfl rfl rfl rfl rfl (by simp [putL]) ?_))))
  refine TO.qa rfl (TO.nl (T.ret (Res.drop ?_)))
  refine Res.cell1b (vI (e : Int)) (i := 5) Tryz.results17 uT25 rfl inf25 rfl rfl rfl rfl ?_
  rw [show alV a v B = noD from if_neg (by omega), e1, hE]
  exact ⟨[dI 37 4 3 noD k00], (by exact Sub.k .z), k00, rfl, rfl⟩
 have hge28 : ¬ e ≠ 0 := by omega
 have he0 : e = 0 := by omega
 have hXv := (xsV_valid hNn (v := v) (B := B) (by omega)).1
 rw [hX] at hXv
 obtain ⟨Y, hY⟩ : ∃ m, minD (flipD X) = m := ⟨_, rfl⟩
 refine T.skip (T.s (T.rg (TO.q (q_la 0 uT25 rfl inf25 rfl rfl rfl) ?_)))
 have hk32 := fun (w1 : World) (hI : Inv w [oI z4 25 (dC X k2), dI 37 4 3 X k2, oI z3 25 (dC N1 k1), dI 37 4 3 N1 k1, oI z2 25 [(vI 0), (vI 0), nS, nS], oI z1 25 (dC a k)] w1) => (haveI := tbz hI; notMK w1 X k2 (hI.at (k := k2) (mG 1 rfl)) hXv hY)
 refine TO.l rfl (l_call ent31 (CallT.op hk32) rfl ?_)
 clear hk32
 rintro vr O' ⟨N, rfl, k3, rfl, rfl⟩
 refine TO.q (q_extract (vs := _) rfl rfl) (TO.q (q_extract (vs := _) rfl rfl) (TO.l rfl (l_sb (v := (dV Y k3)) (vs := (dC Y k3)) 5 inf25 rfl rfl rfl rfl rfl rfl (by simp [putL]) ?_)))
 refine TO.qa rfl (TO.nl (T.ret (Res.drop ?_)))
 refine Res.cell1b (vI 0) (i := 5) Tryz.results17 uT25 rfl inf25 rfl rfl rfl rfl ?_
 rw [show alV a v B = Y by unfold alV; rw [if_pos (by omega), hN1, hX, hY], e1, hE, he0]
 exact ⟨[dI 37 4 3 Y k3], (by exact Sub.k .z), k3, rfl, rfl⟩
theorem alC (w : World) [Tab Tryz.prog w] (a : DFA) (k : DK) (ha : At w a k) (v B : Int) (haa : a.next.length < 9223372036854775807) (haar : ∀ r ∈ a.next, r.length < 9223372036854775807) (haaf : a.final.length < 9223372036854775807) (hn : Valid a → a.next.length ≤ 64) :
  PureT Tryz.prog 17 [dV a k, vI v, vI B] w fun r N => ∃ k9 : DK, r = .tuple #[dV (alV a v B) k9, vI (alE a v B : Int)] ∧ N = [dI 37 4 3 (alV a v B) k9] := by
 by_cases he : checkD a = 0
 ·have hv := checkD_zero.1 he
  exact alOk w a k ha hv (hn hv) v B
 ·obtain ⟨e1, e2⟩ := alE_bad (v := v) (B := B) he
  rw [e1, e2]
  refine (CallT.nilD 37 4 3 (alBad w a k ha haa haar haaf v B he)).mono ?_
  rintro v9 N ⟨O2, rfl, rfl, rfl⟩
  exact ⟨k00, rfl, rfl⟩
theorem drBad (w : World) [Tab Tryz.prog w] (a : DFA) (k : DK) (ha : At w a k) (haa : a.next.length < 9223372036854775807) (haar : ∀ r ∈ a.next, r.length < 9223372036854775807) (haaf : a.final.length < 9223372036854775807) (v : Int) (he : vE a v ≠ 0) :
  PureT Tryz.prog 26 [dV a k, vI v] w fun v9 N => v9 = .tuple #[dV noD ⟨none, 0, none, 0, []⟩, vI (vE a v : Int)] ∧ N = [] := by
 refine CallT.enter func26 rfl ntmps26 rfl ?_
 refine T.s (T.rg (TO.l rfl (l_box (v := (dV a k)) (cs := (dC a k)) rfl rfl (fun bx1 => ?_))))
 refine TO.l rfl (l_alloc inf25 rfl (fun bx2 => ?_))
 refine TO.qa rfl (TO.nl (T.s (T.rg (TO.q (q_la 1 uT25 rfl inf25 rfl rfl rfl) (TO.qm rfl ?_)))))
 have hk12 := fun (w1 : World) (hI : Inv w [oI bx2 25 [(vI 0), (vI 0), nS, nS], oI bx1 25 (dC a k)] w1) => (haveI := tbz hI; ignC w1 a k (hI.atB ha) haa haar haaf v)
 refine TO.l rfl (l_call ent18 (CallT.op hk12) rfl ?_)
 clear hk12
 rintro vr O' ⟨N, rfl, rfl, rfl⟩
 refine TO.qm rfl (TO.q (q_extract (vs := _) rfl rfl) (TO.q (q_extract (vs := _) rfl rfl) (TO.qa rfl (TO.qa rfl (TO.nl ?_)))))
 refine T.reset [oI bx2 25 [(vI 0), (vI 0), nS, nS], oI bx1 25 (dC a k)] [(0, (dV a k)), (1, vI v), (2, (.pointer (aD bx1))), (4, (.pointer (aD bx2))), (5, vI 0), (6, .bool (igV a v)), (7, vI (vE a v : Int))] rfl (.of rfl) (fun ρ0 => ?_)
 refine T.s (T.block (T.s (T.rg (TO.qm rfl (TO.q (QT.toB (q_neq rfl rfl) (decide_eq_true (by omega))) (TO.qa rfl (TO.nl ?_)))))))
 refine T.cond1 rfl ?_
 refine T.s (T.rg (TO.q (q_build plan25 inf25 rfl) (TO.qm rfl (TO.l rfl (l_sb (v := (.agg #[(vI 0), (vI 0), nS, nS])) (vs := [(vI 0), (vI 0), nS, nS]) 0 inf25 rfl rfl rfl rfl rfl rfl (by simp [putL]) ?_)))))
 refine TO.qa rfl (TO.nl (T.ret (Res.drop ?_)))
 refine Res.cell1b (vI (vE a v : Int)) (i := 0) Tryz.results26 uT25 rfl inf25 rfl rfl rfl rfl ?_
 exact ⟨[], Sub.z, rfl, rfl⟩
theorem drNo (w : World) [Tab Tryz.prog w] (a : DFA) (k : DK) (ha : At w a k) (haa : a.next.length < 9223372036854775807) (haar : ∀ r ∈ a.next, r.length < 9223372036854775807) (haaf : a.final.length < 9223372036854775807) (v : Int) (he : vE a v = 0) (hi : igV a v = false) :
  PureT Tryz.prog 26 [dV a k, vI v] w fun v9 N => v9 = .tuple #[dV noD ⟨none, 0, none, 0, []⟩, vI 7] ∧ N = [] := by
 refine CallT.enter func26 rfl ntmps26 rfl ?_
 refine T.s (T.rg (TO.l rfl (l_box (v := (dV a k)) (cs := (dC a k)) rfl rfl (fun bx1 => ?_))))
 refine TO.l rfl (l_alloc inf25 rfl (fun bx2 => ?_))
 refine TO.qa rfl (TO.nl (T.s (T.rg (TO.q (q_la 1 uT25 rfl inf25 rfl rfl rfl) (TO.qm rfl ?_)))))
 have hk12 := fun (w1 : World) (hI : Inv w [oI bx2 25 [(vI 0), (vI 0), nS, nS], oI bx1 25 (dC a k)] w1) => (haveI := tbz hI; (show PureT _ _ _ _ _ from by
   have h9 := ignC w1 a k (hI.atB ha) haa haar haaf v
   rw [hi, he] at h9
   exact h9))
 refine TO.l rfl (l_call ent18 (CallT.op hk12) rfl ?_)
 clear hk12
 rintro vr O' ⟨N, rfl, rfl, rfl⟩
 refine TO.qm rfl (TO.q (q_extract (vs := _) rfl rfl) (TO.q (q_extract (vs := _) rfl rfl) (TO.qa rfl (TO.qa rfl (TO.nl ?_)))))
 refine T.reset [oI bx2 25 [(vI 0), (vI 0), nS, nS], oI bx1 25 (dC a k)] [(0, (dV a k)), (1, vI v), (2, (.pointer (aD bx1))), (4, (.pointer (aD bx2))), (5, vI 0), (6, .bool false), (7, vI 0)] rfl (.of rfl) (fun ρ0 => ?_)
 refine T.s (T.block (T.s (T.rg (TO.qm rfl (TO.q (QT.toB (q_neq rfl rfl) (decide_eq_false (fun h => h rfl))) (TO.qa rfl (TO.nl (T.cond0 rfl (T.s (T.rg (TO.qm rfl (TO.q (q_not rfl) (TO.qa rfl (TO.nl ?_))))))))))))))
 refine T.cond1 rfl ?_
 refine T.s (T.rg (TO.q (q_build plan25 inf25 rfl) (TO.l rfl (l_sb (v := (.agg #[(vI 0), (vI 0), nS, nS])) (vs := [(vI 0), (vI 0), nS, nS]) 0 inf25 rfl rfl rfl rfl rfl rfl (by simp [putL]) ?_))))
 refine TO.qa rfl (TO.nl (T.ret (Res.drop ?_)))
 refine Res.cell1b (vI 7) (i := 0) Tryz.results26 uT25 rfl inf25 rfl rfl rfl rfl ?_
 exact ⟨[], Sub.z, rfl, rfl⟩
theorem drOk (w : World) [Tab Tryz.prog w] (a : DFA) (k : DK) (ha : At w a k) (hv : Valid a) (v : Nat) (hva : (v : Int) < a.vars) (hi : igV a v = true) {M : DFA} (hM : ∀ m : Nat, a.vars = ((m + 1 : Nat) : Int) → minD (reD a ((m : Nat) : Int) (drp v)) = M) :
  PureT Tryz.prog 26 [dV a k, vI ((v : Nat) : Int)] w fun v9 N => ∃ k9 : DK, v9 = .tuple #[dV M k9, vI 0] ∧ N = [dI 37 4 3 M k9] := by
 refine CallT.enter func26 rfl ntmps26 rfl ?_
 have he := checkD_zero.2 hv
 have h4 := hv.n4
 have hww : letN a ≤ 64 := hv.width
 have hfin := hv.fin
 have hvl := ha.rows.1
 have hsl := start_lt hv.toVal
 have hs0 := hv.s0
 have hs1 := hv.s1
 have hv6 := hv.v6
 have hve : vE a v = 0 := vE_zero.2 ⟨hv, by omega, hva⟩
 obtain ⟨m, hm⟩ : ∃ m : Nat, a.vars = ((m + 1 : Nat) : Int) := ⟨a.vars.toNat - 1, by omega⟩
 have hmn : a.vars.toNat = m + 1 := by omega
 have hl : letN a = 2 ^ (m + 1) := by unfold letN; rw [hmn]
 have hm32 : 2 ^ m ≤ 2 ^ 5 := Nat.pow_le_pow_right (by decide) (by omega)
 have hp : 2 ^ v ≤ 2 ^ 5 := Nat.pow_le_pow_right (by decide) (by omega)
 have hp0 : 0 < 2 ^ v := Nat.pow_pos (by decide)
 refine T.s (T.rg (TO.l rfl (l_box (v := (dV a k)) (cs := (dC a k)) rfl rfl (fun z1 => ?_))))
 refine TO.l rfl (l_alloc inf25 rfl (fun z2 => ?_))
 refine TO.qa rfl (TO.nl (T.s (T.rg (TO.q (q_la 1 uT25 rfl inf25 rfl rfl rfl) (TO.qm rfl ?_)))))
 have hk12 := fun (w1 : World) (hI : Inv w [oI z2 25 [(vI 0), (vI 0), nS, nS], oI z1 25 (dC a k)] w1) => (haveI := tbz hI; (show PureT _ _ _ _ _ from by
   have h9 := ignC w1 a k (hI.atB ha) (by omega) hv.bound (by omega) (v : Int)
   rw [hi, hve] at h9
   exact h9))
 refine TO.l rfl (l_call ent18 (CallT.op hk12) rfl ?_)
 clear hk12
 rintro vr O' ⟨N, rfl, rfl, rfl⟩
 refine TO.qm rfl (TO.q (q_extract (vs := _) rfl rfl) (TO.q (q_extract (vs := _) rfl rfl) (TO.qa rfl (TO.qa rfl (TO.nl ?_)))))
 refine T.reset [oI z2 25 [(vI 0), (vI 0), nS, nS], oI z1 25 (dC a k)] [(0, (dV a k)), (1, vI ((v : Nat) : Int)), (2, (.pointer (aD z1))), (4, (.pointer (aD z2))), (5, vI 0), (6, .bool true), (7, vI 0)] rfl (.of rfl) (fun ρ0 => ?_)
 refine T.s (T.block (T.s (T.rg (TO.qm rfl (TO.q (QT.toB (q_neq rfl rfl) (decide_eq_false (fun h => h rfl))) (TO.qa rfl (TO.nl (T.cond0 rfl (T.s (T.rg (TO.qm rfl (TO.q (q_not rfl) (TO.qa rfl (TO.nl (T.cond0 rfl ?_)))))))))))))))
 refine T.skip (T.s (T.rg (TO.qm rfl (TO.q (QT.cast (q_shlU (a := 1) (b := v) .u8 rfl rfl (by simp only [IntKind.bits]; omega) (by simp only [IntKind.bits]; omega)) (v' := .int .u8 ((2 ^ v : Nat) : Int)) (by rw [Nat.one_mul])) (TO.q (q_subU (a := 2 ^ v) (b := 1) .u8 rfl rfl (by simp only [IntKind.bits]; omega) (by omega)) (TO.l rfl (l_alloc inf5 rfl (fun z3 => ?_))))))))
 refine TO.l rfl (l_sb (v := .int .u8 ((2 ^ v - 1 : Nat) : Int)) (vs := [(.int .u8 ((2 ^ v - 1 : Nat) : Int))]) 0 inf5 rfl rfl rfl rfl rfl rfl (by simp [putL]) ?_)
 refine TO.nl (T.s (T.rg (TO.q (q_la 2 uT25 rfl inf25 rfl rfl rfl) (TO.q (q_fa uT25 rfl inf3 rfl rfl) (TO.q (q_lb 2 uT3 rfl rfl rfl rfl) (TO.q (QT.cast (q_sub64 rfl rfl (by omega)) (v' := vI ((m : Nat) : Int)) (congrArg (Value.int .i64) (by omega))) (TO.q (q_makeFunc) (TO.l rfl (l_call ent62 (CallT.un [0] (rebF w a k ha hv m (by omega) _ rfl (drp v) (fun x hx => by rw [hl]; exact drp_lt m (by omega) v (by omega) x hx) (.func (.func 63) #[] #[(.pointer (aD z3))]) [oI z3 5 [(.int .u8 ((2 ^ v - 1 : Nat) : Int))]] (fun x hx => CallV.of_fn (first := []) (args := [.int .u8 ((x : Nat) : Int)]) (caps := [(.pointer (aD z3))]) ent63 (dropF w z3 v x (by omega) (by omega))) (hM m hm))) rfl ?_)))))))))
 rintro vr O' ⟨A1, rfl, k9, rfl, rfl⟩
 refine TO.q (q_extract (vs := _) rfl rfl) (TO.q (q_extract (vs := _) rfl rfl) (TO.l rfl (l_sb (v := (dV M k9)) (vs := (dC M k9)) 1 inf25 rfl rfl rfl rfl rfl rfl (by simp [putL]) ?_)))
 refine TO.qa rfl (TO.nl (T.ret (Res.drop ?_)))
 refine Res.cell1b (vI 0) (i := 1) Tryz.results26 uT25 rfl inf25 rfl rfl rfl rfl ?_
 exact ⟨[dI 37 4 3 M k9], (by exact Sub.k .z), k9, rfl, rfl⟩
theorem drC (w : World) [Tab Tryz.prog w] (a : DFA) (k : DK) (ha : At w a k) (haa : a.next.length < 9223372036854775807) (haar : ∀ r ∈ a.next, r.length < 9223372036854775807) (haaf : a.final.length < 9223372036854775807) (v : Int) :
  PureT Tryz.prog 26 [dV a k, vI v] w fun v9 N => ∃ k9 : DK, v9 = .tuple #[dV (drV a v) k9, vI (drE a v : Int)] ∧ N = [dI 37 4 3 (drV a v) k9] := by
 by_cases he : vE a v = 0
 ·cases hi : igV a v with
  | false =>
   obtain ⟨e1, e2⟩ := drE_no he hi
   rw [e1, e2]
   refine (CallT.nilD 37 4 3 (drNo w a k ha haa haar haaf v he hi)).mono ?_
   rintro v9 N ⟨O2, rfl, rfl, rfl⟩
   exact ⟨k00, rfl, rfl⟩
  | true =>
   obtain ⟨e1, e2⟩ := drE_ok he hi
   rw [e1, e2]
   obtain ⟨hv, h0, h1⟩ := vE_zero.1 he
   obtain ⟨n, rfl⟩ : ∃ n : Nat, v = n := ⟨v.toNat, by omega⟩
   exact drOk w a k ha hv n h1 hi (fun m hm => by rw [hm, show ((m + 1 : Nat) : Int) - 1 = (m : Int) by omega]; rfl)
 ·obtain ⟨e1, e2⟩ := drE_bad he
  rw [e1, e2]
  refine (CallT.nilD 37 4 3 (drBad w a k ha haa haar haaf v he)).mono ?_
  rintro v9 N ⟨O2, rfl, rfl, rfl⟩
  exact ⟨k00, rfl, rfl⟩
end Go.Proofs.YtohkmggbfcnapaaGreatDoor


namespace Go.Lx
open Go.RowKit Go.Sort
theorem putCells_size {α : Type} [Inhabited α] (enc : α → Value) (off : Nat) (d : Array α) (c : Array Value) : (putCells enc off d c).size = c.size := by simp [putCells]
theorem putCells_at {α : Type} [Inhabited α] (enc : α → Value) (off : Nat) (d : Array α) (c : Array Value) {i : Nat} (hi : i < d.size) (hc : off + i < c.size) : (putCells enc off d c)[off + i]? = some (enc d[i]!) := by
 simp only [putCells, Array.getElem?_mapIdx, Array.getElem?_eq_getElem hc, Option.map_some]
 rw [if_pos ⟨by omega, by omega⟩, show off + i - off = i by omega]
theorem Inv.sorted {base w : World} {O : List Item} {i blk off cap : Nat} {T : TypeId} {zs ys : List Int} (hI : Inv base O w) (hO : O[i]? = some (rowI (some ⟨blk, off, none⟩) cap T 1 (ints zs))) (hl : ys.length = zs.length) (n : Nat) (os : Array Obj) :
  Inv base (O.set i (rowI (some ⟨blk, off, none⟩) cap T 1 (ints ys))) (Go.Sort.grow (putRow (Value.int .i64) (Sort.ahead w n) blk off ys.toArray) os) := by
 obtain ⟨_, full, hb, hcl, hfu, hat⟩ := hI.row hO
 have hlt : blk < w.heap.size := (Array.getElem?_eq_some_iff.1 hb).1
 have hheap : (Go.Sort.grow (putRow (Value.int .i64) (Sort.ahead w n) blk off ys.toArray) os).heap = (w.heap.modify blk (onCells (putCells (Value.int .i64) off ys.toArray))) ++ os := rfl
 refine hI.stepAt hO rfl rfl rfl ?_ (fun b hlb hk => ?_) ⟨rfl, putCells (Value.int .i64) off ys.toArray full, ?_, ?_, ?_, fun j hj => ?_⟩ (fun k hk => .inl hk) (by simp [rowI])
 ·rw [hheap]; simp
 ·rw [hheap, Array.getElem?_append_left (by simpa using hlb), Array.getElem?_modify, if_neg (fun e => hk (by simp [rowI, e]))]
 ·rw [hheap, Array.getElem?_append_left (by simpa using hlt), Array.getElem?_modify, if_pos rfl, hb]; rfl
 ·simp only [List.length_map] at hcl ⊢; omega
 ·rw [putCells_size]; exact hfu
 ·have hj2 : j < ys.length := by simpa using hj
  have hcl2 : zs.length ≤ cap * 1 := by simpa using hcl
  have hfu2 : off + cap * 1 ≤ full.size := hfu
  show (putCells (Value.int .i64) off ys.toArray full)[off + j]? = _
  rw [putCells_at _ _ _ _ (by simpa using hj2) (by omega)]
  simp [hj2]
theorem row_holds {base w : World} {O : List Item} {i blk off cap : Nat} {T : TypeId} {zs : List Int} (hI : Inv base O w) (hO : O[i]? = some (rowI (some ⟨blk, off, none⟩) cap T 1 (ints zs))) : Holds (Value.int .i64) w blk off zs.toArray ∧ blk < w.heap.size := by
 obtain ⟨_, full, hb, hcl, hfu, hat⟩ := hI.row hO
 refine ⟨fun j hj => ?_, (Array.getElem?_eq_some_iff.1 hb).1⟩
 have hj2 : j < zs.length := by simpa using hj
 have h9 := hat j (by simpa using hj2)
 constructor
 ·simp only [World.cell?, hb]
  simp at h9
  simp [h9, hj2]
 ·simp [World.frozen?, hb]
end Go.Lx


namespace Go.Proofs
open Go.Shelf
def Tryz.lays189_ren : Go.Shelf.Ren := ⟨fun | 189 => 91 | 125 => 115 | 257 => 114 | 128 => 140 | 129 => 141 | 294 => 131 | 295 => 132 | 296 => 133 | 297 => 134 | 298 => 135 | 299 => 136 | 216 => 137 | 300 => 138 | 301 => 139 | 328 => 151 | 329 => 152 | 330 => 153 | 331 => 154 | 332 => 155 | 215 => 156 | 343 => 159 | n => n, fun | 28 => 37 | 3 => 3 | 46 => 52 | 0 => 0 | 51 => 173 | 53 => 107 | 4 => 4 | 183 => 166 | 182 => 165 | 131 => 76 | 5 => 5 | 9 => 9 | 218 => 181 | 222 => 185 | 228 => 187 | 229 => 188 | n => n, fun | n => n⟩
theorem Tryz.lays189 : Go.Proofs.Lays.n189 Tryz.prog Tryz.lays189_ren := {
 mixed := by kernel_rfl
 f125 := func115.trans (congrArg some (by kernel_rfl))
 f128 := func140.trans (congrArg some (by kernel_rfl))
 f129 := func141.trans (congrArg some (by kernel_rfl))
 f189 := func91.trans (congrArg some (by kernel_rfl))
 f215 := func156.trans (congrArg some (by kernel_rfl))
 f216 := func137.trans (congrArg some (by kernel_rfl))
 f257 := func114.trans (congrArg some (by kernel_rfl))
 f294 := func131.trans (congrArg some (by kernel_rfl))
 f295 := func132.trans (congrArg some (by kernel_rfl))
 f296 := func133.trans (congrArg some (by kernel_rfl))
 f297 := func134.trans (congrArg some (by kernel_rfl))
 f298 := func135.trans (congrArg some (by kernel_rfl))
 f299 := func136.trans (congrArg some (by kernel_rfl))
 f300 := func138.trans (congrArg some (by kernel_rfl))
 f301 := func139.trans (congrArg some (by kernel_rfl))
 f328 := func151.trans (congrArg some (by kernel_rfl))
 f329 := func152.trans (congrArg some (by kernel_rfl))
 f330 := func153.trans (congrArg some (by kernel_rfl))
 f331 := func154.trans (congrArg some (by kernel_rfl))
 f332 := func155.trans (congrArg some (by kernel_rfl))
 f343 := func159.trans (congrArg some (by kernel_rfl))
 t0 := underlying0
 a0 := Tryz.isAgg0
 z0 := Tryz.sizeOf0
 v0 := Tryz.zeroValue0
 t3 := underlying3
 a3 := Tryz.isAgg3
 z3 := Tryz.sizeOf3
 v3 := Tryz.zeroValue3
 t4 := underlying4
 a4 := Tryz.isAgg4
 z4 := Tryz.sizeOf4
 v4 := Tryz.zeroValue4
 t5 := underlying5
 a5 := Tryz.isAgg5
 z5 := Tryz.sizeOf5
 v5 := Tryz.zeroValue5
 t9 := underlying9
 a9 := Tryz.isAgg9
 z9 := Tryz.sizeOf9
 v9 := Tryz.zeroValue9
 t28 := underlying37
 a28 := Tryz.isAgg37
 z28 := Tryz.sizeOf37
 v28 := Tryz.zeroValue37
 t46 := underlying52
 a46 := Tryz.isAgg52
 z46 := Tryz.sizeOf52
 v46 := Tryz.zeroValue52
 t51 := underlying173
 a51 := Tryz.isAgg173
 z51 := Tryz.sizeOf173
 v51 := Tryz.zeroValue173
 t53 := underlying107
 a53 := Tryz.isAgg107
 z53 := Tryz.sizeOf107
 v53 := Tryz.zeroValue107
 t131 := underlying76
 a131 := Tryz.isAgg76
 z131 := Tryz.sizeOf76
 v131 := Tryz.zeroValue76
 t182 := underlying165
 a182 := Tryz.isAgg165
 z182 := Tryz.sizeOf165
 v182 := Tryz.zeroValue165
 t183 := underlying166
 a183 := Tryz.isAgg166
 z183 := Tryz.sizeOf166
 v183 := Tryz.zeroValue166
 t218 := underlying181
 a218 := Tryz.isAgg181
 z218 := Tryz.sizeOf181
 v218 := Tryz.zeroValue181
 t222 := underlying185
 a222 := Tryz.isAgg185
 z222 := Tryz.sizeOf185
 v222 := Tryz.zeroValue185
 t228 := underlying187
 a228 := Tryz.isAgg187
 z228 := Tryz.sizeOf187
 v228 := Tryz.zeroValue187
 t229 := underlying188
 a229 := Tryz.isAgg188
 z229 := Tryz.sizeOf188
 v229 := Tryz.zeroValue188 }
open Go.RowKit Go.Sort Go.Lib in
theorem Tryz.slices_Sort_int (blk off cap : Nat) (zs : List Int) (w : World) (hH : Holds (Value.int .i64) w blk off zs.toArray) (hblk : blk < w.heap.size) (hsz : zs.length < 4611686018427387904) :
  Calls Tryz.prog 91 #[.slice (some ⟨blk, off, none⟩) zs.length cap] w fun e w' =>
   e = .returned (.tuple #[]) ∧ ∃ n os, w' = grow (putRow (Value.int .i64) (Sort.ahead w n) blk off (zs.mergeSort fun x y => decide (x ≤ y)).toArray) os := Any.slices_Sort_int Tryz.lays189 blk off cap zs w hH hblk hsz
end Go.Proofs
namespace Go.Proofs.YtohkmggbfcnapaaGreatDoor
open Go.Lx Go.RowKit Go.Proofs _root_.Go.Proofs.Tryz
theorem sortC (base : World) (b : Option Addr) (c : Nat) (zs : List Int) (hsz : zs.length < 4611686018427387904) : CallT Tryz.prog base 91 [.slice b zs.length c] [rowI b c 3 1 (ints zs)] (fun v O' => v = .tuple #[] ∧ O' = [rowI b c 3 1 (ints (sortZ zs))]) := fun w M hI => by
 have hO : (([rowI b c 3 1 (ints zs)] ++ M : List Lx.Item))[0]? = some (rowI b c 3 1 (ints zs)) := rfl
 cases b with
 | none =>
  have hz : zs = [] := by
   have h := (hI.row hO).1
   cases zs with
   | nil => rfl
   | cons _ _ => cases h
  subst hz
  refine (Any.slices_Sort_int_none Tryz.lays189 none c w).mono ?_
  rintro e w' ⟨rfl, rfl⟩
  refine ⟨_, _, rfl, ?_, rfl, rfl⟩
  have h9 : sortZ [] = [] := by simp [sortZ]
  rw [h9]; exact hI
 | some a =>
  obtain ⟨blk, off, sp⟩ := a
  have hsp : sp = none := (hI.row hO).1
  subst hsp
  obtain ⟨hH, hb⟩ := row_holds hI hO
  refine (Tryz.slices_Sort_int blk off c zs w hH hb hsz).mono ?_
  rintro e w' ⟨rfl, n, os, rfl⟩
  refine ⟨_, _, rfl, ?_, rfl, rfl⟩
  exact hI.sorted (ys := sortZ zs) hO (List.length_mergeSort zs) n os
end Go.Proofs.YtohkmggbfcnapaaGreatDoor


namespace Go.Proofs.YtohkmggbfcnapaaGreatDoor
open Go.Lx Go.RowKit _root_.Go.Proofs.Tryz
theorem valsC (w : World) [Tab Tryz.prog w] (b : Option Addr) (c : Nat) (l : List Int) :
  PureT Tryz.prog 66 [.slice b l.length c] w fun v N => ∃ xb : Nat, v = (.func (.func 92) #[] #[(.pointer (aD xb))]) ∧ N = [oI xb 37 [(.slice b l.length c)]] := by
 refine CallT.enter func66 rfl ntmps66 rfl ?_
 refine T.s (T.rg (TO.l rfl (l_box (v := (.slice b l.length c)) (cs := [(.slice b l.length c)]) rfl rfl (fun bx1 => ?_))))
 refine TO.qa rfl (TO.nl (T.s (T.rg (TO.q (q_makeFunc) (TO.qa rfl (TO.nl (T.ret ?_)))))))
 refine Res.one (.func (.func 92) #[] #[(.pointer (aD bx1))]) Tryz.results66 rfl ?_
 exact ⟨bx1, rfl, rfl⟩
theorem valsF (base : World) [Tab Tryz.prog base] (xb c : Nat) (b : Option Addr) (l : List Int) (hb : Sl base b (ints l)) (hll : l.length < 1000000) (yv : Value) (J : Nat → List Lx.Item → Prop)
  (hy : ∀ (i : Nat) (q : Int) (O : List Lx.Item), l[i]? = some q → J i O → CallV Tryz.prog base yv [vI q] O (fun v O' => v = .bool true ∧ J (i + 1) O'))
  (O : List Lx.Item) (h0 : J 0 O) :
  CallT Tryz.prog base 92 [yv, .pointer (aD xb)] ([oI xb 37 [(.slice b l.length c)]] ++ O) (fun _ O' => J l.length O') := by
 refine CallT.enter func92 rfl ntmps92 rfl ?_
 refine T.s (T.rg (TO.q (q_lb 0 uT37 rfl rfl rfl rfl) (TO.q (q_len uT37 rfl) (TO.qm rfl (TO.nl (T.block ?_))))))
 refine T.loop (fun (i : Nat) ρ O => ∃ (O1 : List Lx.Item), O = ([oI xb 37 [(.slice b l.length c)]] ++ O1) ∧ i ≤ l.length ∧ J i O1 ∧ Heads [(0, yv), (1, (.pointer (aD xb))), (5, (.slice b l.length c)), (6, vI (l.length : Int)), (7, vI ((i : Nat) : Int))] ρ) (fun i => l.length - i) 0 ?_ ?_
 ·exact ⟨O, rfl, Nat.zero_le _, h0, (.of rfl)⟩
 rintro i ρ O ⟨O1, rfl, hi, hJ, hH⟩
 obtain ⟨ρ0, rfl⟩ := hH.elim
 clear hH
 refine T.s (T.rg (TO.q (q_lss rfl rfl) (TO.nl (T.s (T.condP rfl (fun hc => ?_) (fun hc => ?_))))))
 ·have hlt8 : i < l.length := by omega
  have hil : i < l.length := by omega
  obtain ⟨q, hiq⟩ : ∃ q, l[i]? = some q := ⟨_, List.getElem?_eq_getElem hil⟩
  have hiq2 : (ints l)[i]? = some (vI q) := by rw [List.getElem?_map, hiq]; rfl
  refine T.skip (T.s (T.block (T.s (T.rg (TO.q (q_ix (i := i) uT37 inf3 rfl rfl (Sl.o hb) hil (by rw [List.length_map]; exact hil)) (TO.q (q_ld uT3 rfl rfl (Sl.o hb) hiq2) (TO.qa rfl (TO.nl (T.s (T.rg (TO.qm rfl (TO.qm rfl ?_))))))))))))
  have hk13 := CallV.under (B := [oI xb 37 [(.slice b l.length c)]]) (O := ([oI xb 37 [(.slice b l.length c)]] ++ O1)) (hy i q O1 hiq hJ) (Sub.ca [])
  refine TO.l rfl (l_callG hk13 rfl rfl ?_)
  clear hk13
  rintro vr O' ⟨A1, rfl, rfl, hJ2⟩
  refine TO.sub (O' := ([oI xb 37 [(.slice b l.length c)]] ++ A1)) (Sub.ca []) ?_
  refine TO.q (q_not rfl) (TO.nl (T.cond0 rfl (T.skip (T.rg (TO.q (q_addN (a := i) (b := 1) rfl rfl (by omega)) (TO.qm rfl (TO.nl ?_)))))))
  exact ⟨i + 1, by omega, A1, rfl, by omega, hJ2, (.of rfl)⟩
 have hge8 : ¬ i < l.length := by omega
 refine T.exit ?_
 refine Res.drop ?_
 refine Res.zero Tryz.results92 ?_
 have hie : i = l.length := by omega
 exact ⟨O1, Sub.ca [oI xb 37 [(.slice b l.length c)]], by rw [← hie]; exact hJ⟩
theorem appSeqF (w : World) [Tab Tryz.prog w] (xb c : Nat) (b : Option Addr) (l : List Int) (hb : Sl w b (ints l)) (hll : l.length < 1000000) :
  CallT Tryz.prog w 113 [nS, (.func (.func 92) #[] #[(.pointer (aD xb))])] [oI xb 37 [(.slice b l.length c)]] (fun v O' => ∃ b2 c2, v = .slice b2 l.length c2 ∧ O' = [rowI b2 c2 3 1 (ints l)]) := by
 refine CallT.enter func113 rfl ntmps113 rfl ?_
 refine T.s (T.rg (TO.l rfl (l_box (v := nS) (cs := [nS]) rfl rfl (fun z1 => ?_))))
 refine TO.qa rfl (TO.nl (T.s (T.s (T.rg (TO.qm rfl (TO.nl (T.block (T.nilRow 3 1 ?_))))))))
 refine T.sub (O' := [oI xb 37 [(.slice b l.length c)], oI z1 37 [nS], rowI none 0 3 1 []]) (by exact Sub.pull [rowI none 0 3 1 [], oI z1 37 [nS]] _ (.pull [rowI none 0 3 1 []] _ (.k .z))) ?_
 refine T.rangeFunc (first := []) (caps := [(.pointer (aD xb))]) rfl ent92 (fun yl yq yhq => ?_)
 refine CallT.mono (CallT.sub (O' := oI xb 37 [(.slice b l.length c)] :: (objI yl (lp yq none) :: [oI z1 37 [nS], rowI none 0 3 1 []])) (Sub.pick [1, 0, 0, 0] rfl) (valsF w xb c b l hb hll (.func (.yield yl) #[] #[]) (fun i9 O => ∃ (lb : Option Addr) (lc : Nat), O = objI yl (lp yq none) :: [oI z1 37 [(.slice lb i9 lc)], rowI lb lc 3 1 (ints (l.take i9))] ∧ i9 ≤ l.length) ?_ _ ?_)) ?_
 ·intro i9 q9 O hq hJ
  obtain ⟨lb, lc, rfl, hi9⟩ := hJ
  refine CallV.yield yhq rfl rfl ?_
  have hil := (List.getElem?_eq_some_iff.1 hq).1
  have htk : (ints (l.take i9)) ++ [Value.int .i64 q9] = ints (l.take (i9 + 1)) := by rw [List.take_add_one, hq]; simp
  refine T.rg (TO.qa rfl (TO.nl (T.block (T.rg (TO.q (q_lb 0 uT37 rfl rfl rfl rfl) (TO.qm rfl (TO.l rfl (l_build1 (v := vI q9) uT37 inf3 rfl rfl rfl (fun z2 => ?_)))))))))
  refine TO.l rfl (l_append 2 uT37 uT37 inf3 rfl rfl rfl rfl (by rw [List.length_map, List.length_take]; omega) (by decide) (Src.row (j := 0) rfl (by simp)) (by simp [oneB]) (by omega) (by decide) (by decide) (fun z3 zc4 => ?_))
  refine TO.l rfl (l_sb (v := (.slice z3 (i9 + 1) zc4)) (vs := [(.slice z3 (i9 + 1) zc4)]) 1 inf37 rfl rfl rfl rfl rfl rfl (by simp [putL]) ?_)
  refine TO.sub (O' := [oI z1 37 [(.slice z3 (i9 + 1) zc4)], rowI z3 zc4 3 1 ((ints (l.take i9)) ++ [vI q9])]) (by exact Sub.d (.k (.k .z))) ?_
  refine TO.nl ?_
  exact ⟨rfl, z3, zc4, by rw [htk], hil⟩
 ·exact ⟨none, 0, rfl, Nat.zero_le _⟩
 rintro v O' ⟨lb, lc, rfl, _⟩
 rw [List.take_of_length_le (Nat.le_refl _)]
 refine ⟨none, _, rfl, ?_⟩
 refine T.s (T.rg (TO.q (q_lb 0 uT37 rfl rfl rfl rfl) (TO.qa rfl (TO.nl (T.ret (Res.drop ?_))))))
 refine Res.one (.slice lb l.length lc) Tryz.results113 rfl ?_
 exact ⟨[rowI lb lc 3 1 (ints l)], (by exact Sub.d (.k .z)), _, _, rfl, rfl⟩
theorem collF (w : World) [Tab Tryz.prog w] (xb c : Nat) (b : Option Addr) (l : List Int) (hb : Sl w b (ints l)) (hll : l.length < 1000000) :
  CallT Tryz.prog w 90 [(.func (.func 92) #[] #[(.pointer (aD xb))])] [oI xb 37 [(.slice b l.length c)]] (fun v O' => ∃ b2 c2, v = .slice b2 l.length c2 ∧ O' = [rowI b2 c2 3 1 (ints l)]) := by
 refine CallT.enter func90 rfl ntmps90 rfl ?_
 refine T.s (T.rg (TO.qa rfl (TO.nl (T.s (T.rg (TO.qm rfl ?_))))))
 have hk4 := appSeqF w xb c b l hb hll
 refine TO.l rfl (l_call ent113 hk4 rfl ?_)
 clear hk4
 rintro vr O' ⟨b2, c2, rfl, rfl⟩
 refine TO.qa rfl (TO.nl (T.ret ?_))
 refine Res.one (.slice b2 l.length c2) Tryz.results90 rfl ?_
 exact ⟨_, _, rfl, rfl⟩
theorem sortedF (w : World) [Tab Tryz.prog w] (xb c : Nat) (b : Option Addr) (l : List Int) (hb : Sl w b (ints l)) (hll : l.length < 1000000) :
  CallT Tryz.prog w 65 [(.func (.func 92) #[] #[(.pointer (aD xb))])] [oI xb 37 [(.slice b l.length c)]] (fun v O' => ∃ b2 c2, v = .slice b2 l.length c2 ∧ O' = [rowI b2 c2 3 1 (ints (sortZ l))]) := by
 refine CallT.enter func65 rfl ntmps65 rfl ?_
 refine T.s (T.rg (TO.qa rfl (TO.nl (T.s (T.rg (TO.qm rfl ?_))))))
 have hk5 := collF w xb c b l hb hll
 refine TO.l rfl (l_call ent90 hk5 rfl ?_)
 clear hk5
 rintro vr O' ⟨b2, c2, rfl, rfl⟩
 refine TO.qa rfl (TO.nl (T.s (T.rg (TO.qm rfl ?_))))
 have hk7 := sortC w b2 c2 l (by omega)
 refine TO.l rfl (l_call ent91 hk7 rfl ?_)
 clear hk7
 rintro vr O' ⟨rfl, rfl⟩
 refine TO.nl (T.s (T.rg (TO.qm rfl (TO.qa rfl (TO.nl (T.ret ?_))))))
 refine Res.one (.slice b2 l.length c2) Tryz.results65 rfl ?_
 exact ⟨_, _, rfl, rfl⟩
theorem rnBad (w : World) [Tab Tryz.prog w] (a : DFA) (k : DK) (ha : At w a k) (haa : a.next.length < 9223372036854775807) (haar : ∀ r ∈ a.next, r.length < 9223372036854775807) (haaf : a.final.length < 9223372036854775807) (he : checkD a ≠ 0) (pb : Option Addr) (pc : Nat) (l : List Int) :
  PureT Tryz.prog 28 [dV a k, .slice pb l.length pc] w fun v9 N => v9 = .tuple #[dV noD ⟨none, 0, none, 0, []⟩, vI (checkD a : Int)] ∧ N = [] := by
 refine CallT.enter func28 rfl ntmps28 rfl ?_
 refine T.s (T.rg (TO.l rfl (l_box (v := (dV a k)) (cs := (dC a k)) rfl rfl (fun bx1 => ?_))))
 refine TO.l rfl (l_box (v := (.slice pb l.length pc)) (cs := [(.slice pb l.length pc)]) rfl rfl (fun bx2 => ?_))
 refine TO.l rfl (l_alloc inf25 rfl (fun bx3 => ?_))
 refine TO.qa rfl (TO.nl (T.s (T.s (T.rg (TO.q (q_la 2 uT25 rfl inf25 rfl rfl rfl) ?_)))))
 have hk11 := fun (w1 : World) (hI : Inv w [oI bx3 25 [(vI 0), (vI 0), nS, nS], oI bx2 37 [(.slice pb l.length pc)], oI bx1 25 (dC a k)] w1) => (haveI := tbz hI; subsetCheck w1 a k.nb k.fb k.nc k.fc (vals k.qs) (hI.dfa ha) haa haar haaf)
 refine TO.l rfl (l_call ent35 (CallT.op hk11) rfl ?_)
 clear hk11
 rintro vr O' ⟨N, rfl, rfl, rfl⟩
 refine TO.qa rfl (TO.nl (T.s (T.rg (TO.qm rfl (TO.q (QT.toB (q_neq rfl rfl) (decide_eq_true (by omega))) (TO.nl ?_))))))
 refine T.cond1 rfl ?_
 refine T.s (T.rg (TO.q (q_build plan25 inf25 rfl) (TO.qm rfl (TO.l rfl (l_sb (v := (.agg #[(vI 0), (vI 0), nS, nS])) (vs := [(vI 0), (vI 0), nS, nS]) 0 inf25 rfl rfl rfl rfl rfl rfl (by simp [putL]) ?_)))))
 refine TO.qa rfl (TO.nl (T.ret (Res.drop ?_)))
 refine Res.cell1b (vI (checkD a : Int)) (i := 0) Tryz.results28 uT25 rfl inf25 rfl rfl rfl rfl ?_
 exact ⟨[], Sub.z, rfl, rfl⟩
theorem rnOk (w : World) [Tab Tryz.prog w] (a : DFA) (k : DK) (ha : At w a k) (hv : Valid a) (pb : Option Addr) (pc : Nat) (l : List Int) (hp : Sl w pb (ints l)) (hll : l.length < 1000000) :
  PureT Tryz.prog 28 [dV a k, .slice pb l.length pc] w fun v9 N => ∃ k9 : DK, v9 = .tuple #[dV (rnV a l) k9, vI (rnE a l : Int)] ∧ N = [dI 37 4 3 (rnV a l) k9] := by
 refine CallT.enter func28 rfl ntmps28 rfl ?_
 have he := checkD_zero.2 hv
 have h4 := hv.n4
 have hww : letN a ≤ 64 := hv.width
 have hfin := hv.fin
 have hvl := ha.rows.1
 have hsl := start_lt hv.toVal
 have hs0 := hv.s0
 have hs1 := hv.s1
 have hv6 := hv.v6
 have hv0 := hv.v0
 obtain ⟨n, hn⟩ : ∃ n : Nat, a.vars = ((n : Nat) : Int) := ⟨a.vars.toNat, by omega⟩
 have hnl := natL_len l
 refine T.s (T.rg (TO.l rfl (l_box (v := (dV a k)) (cs := (dC a k)) rfl rfl (fun z1 => ?_))))
 refine TO.l rfl (l_box (v := (.slice pb l.length pc)) (cs := [(.slice pb l.length pc)]) rfl rfl (fun z2 => ?_))
 refine TO.l rfl (l_alloc inf25 rfl (fun z3 => ?_))
 refine TO.qa rfl (TO.nl (T.s (T.s (T.rg (TO.q (q_la 2 uT25 rfl inf25 rfl rfl rfl) ?_)))))
 have hk11 := fun (w1 : World) (hI : Inv w [oI z3 25 [(vI 0), (vI 0), nS, nS], oI z2 37 [(.slice pb l.length pc)], oI z1 25 (dC a k)] w1) => (haveI := tbz hI; (show PureT _ _ _ _ _ from by
   have h9 := subsetCheck w1 a k.nb k.fb k.nc k.fc (vals k.qs) (hI.dfa ha) (by omega) hv.bound (by omega)
   rw [he] at h9
   exact h9))
 refine TO.l rfl (l_call ent35 (CallT.op hk11) rfl ?_)
 clear hk11
 rintro vr O' ⟨N, rfl, rfl, rfl⟩
 refine TO.qa rfl (TO.nl (T.s (T.rg (TO.qm rfl (TO.q (QT.toB (q_neq rfl rfl) (decide_eq_false (by omega))) (TO.nl (T.cond0 rfl (T.skip (T.s (T.rg (TO.q (q_lb 1 uT37 rfl rfl rfl rfl) ?_)))))))))))
 have hk17 := fun (w1 : World) (hI : Inv w [oI z3 25 [(vI 0), (vI 0), nS, nS], oI z2 37 [(.slice pb l.length pc)], oI z1 25 (dC a k)] w1) => (haveI := tbz hI; valsC w1 pb pc l)
 refine TO.l rfl (l_call ent66 (CallT.op hk17) rfl ?_)
 clear hk17
 rintro vr O' ⟨N, rfl, xb, rfl, rfl⟩
 refine TO.l rfl (l_call ent65 (CallT.un [0] (sortedF w xb pc pb l hp hll)) rfl ?_)
 rintro vr O' ⟨A1, rfl, rb, rc, rfl, rfl⟩
 refine TO.qa rfl (TO.nl ?_)
 refine T.reset [rowI rb rc 3 1 (ints (sortZ l)), oI z3 25 [(vI 0), (vI 0), nS, nS], oI z2 37 [(.slice pb l.length pc)], oI z1 25 (dC a k)] [(0, (dV a k)), (1, (.slice pb l.length pc)), (2, (.pointer (aD z1))), (3, (.pointer (aD z2))), (4, (.pointer (aD z3))), (5, vI 0), (6, vI 0), (7, (.slice rb l.length rc))] rfl (.of rfl) (fun ρ0 => ?_)
 refine T.s (T.s (T.rg (TO.qm rfl (TO.q (q_len uT37 rfl) (TO.qm rfl (TO.nl (T.block ?_)))))))
 refine T.loop (fun (i : Nat) ρ O => O = [rowI rb rc 3 1 (ints (sortZ l)), oI z3 25 [(vI 0), (vI 0), nS, nS], oI z2 37 [(.slice pb l.length pc)], oI z1 25 (dC a k)] ∧ i ≤ l.length ∧ (∀ j, j < i → (sortZ l)[j]? = some (j : Int)) ∧ Heads [(0, (dV a k)), (1, (.slice pb l.length pc)), (2, (.pointer (aD z1))), (3, (.pointer (aD z2))), (4, (.pointer (aD z3))), (6, vI 0), (7, (.slice rb l.length rc)), (19, (.slice rb l.length rc)), (20, vI (l.length : Int)), (21, vI ((i : Nat) : Int))] ρ) (fun i => l.length - i) 0 ?_ ?_
 ·exact ⟨rfl, Nat.zero_le _, fun j h => absurd h (by omega), (.of rfl)⟩
 rintro i ρ O ⟨rfl, hi, hall, hH⟩
 obtain ⟨ρ0, rfl⟩ := hH.elim
 clear hH
 refine T.s (T.rg (TO.q (q_lss rfl rfl) (TO.nl (T.s (T.condP rfl (fun hc => ?_) (fun hc => ?_))))))
 ·have hlt22 : i < l.length := by omega
  have hil : i < l.length := by omega
  have hsz := sortZ_len l
  obtain ⟨x, hxi0⟩ : ∃ x, (sortZ l)[i]? = some x := ⟨_, List.getElem?_eq_getElem (by omega)⟩
  have hxi : (ints (sortZ l))[i]? = some (vI x) := by rw [List.getElem?_map, hxi0]; rfl
  refine T.skip (T.s (T.block (T.s (T.rg (TO.qm rfl (TO.q (q_ix (i := i) uT37 inf3 rfl rfl (rowO (mG 0 rfl)) (by omega) (by rw [List.length_map]; omega)) (TO.q (q_ld uT3 rfl rfl (rowO (mG 0 rfl)) hxi) (TO.qa rfl (TO.qa rfl (TO.nl (T.s (T.rg (TO.qm rfl (TO.qm rfl (TO.q (q_neq rfl rfl) (TO.nl (T.condP rfl (fun hc => ?_) (fun hc => ?_))))))))))))))))))
  ·refine T.s ?_
   refine T.nilD 37 4 3 ?_
   obtain ⟨e1, e2⟩ := rn_no hv (l := l) (.inl (sort_ne hil hxi0 hc))
   refine T.rg (TO.q (q_build plan25 inf25 rfl) (TO.l rfl (l_sb (v := (.agg #[(vI 0), (vI 0), nS, nS])) (vs := [(vI 0), (vI 0), nS, nS]) 2 inf25 rfl rfl rfl rfl rfl rfl (by simp [putL]) ?_)))
   refine TO.qa rfl (TO.nl (T.ret (Res.drop ?_)))
   refine Res.cell1b (vI 7) (i := 2) Tryz.results28 uT25 rfl inf25 rfl rfl rfl rfl ?_
   rw [e1, e2]
   exact ⟨[dI 37 4 3 noD k00], (by exact Sub.k .z), k00, rfl, rfl⟩
  refine T.skip (T.rg (TO.q (q_addN (a := i) (b := 1) rfl rfl (by omega)) (TO.qm rfl (TO.nl ?_))))
  exact ⟨i + 1, by omega, rfl, by omega, fun j hj => (Nat.lt_succ_iff_lt_or_eq.1 hj).elim (fun h => hall j h) (fun h => by rw [h, hxi0, show x = (i : Int) from Classical.not_not.1 hc]), (.of rfl)⟩
 have hge22 : ¬ i < l.length := by omega
 refine T.exit ?_
 refine T.s (T.s (T.rg (TO.q (q_lb 2 uT37 rfl rfl rfl rfl) (TO.q (q_len uT37 rfl) (TO.q (q_fa uT25 rfl inf3 rfl rfl) (TO.q (q_lb 3 uT3 rfl rfl rfl rfl) (TO.q (q_neq rfl rfl) (TO.nl (T.condP rfl (fun hc => ?_) (fun hc => ?_))))))))))
 ·have hle : (l.length : Int) ≠ a.vars := hc
  refine T.s ?_
  refine T.nilD 37 4 3 ?_
  obtain ⟨e1, e2⟩ := rn_no hv (l := l) (.inr hle)
  refine T.rg (TO.q (q_build plan25 inf25 rfl) (TO.l rfl (l_sb (v := (.agg #[(vI 0), (vI 0), nS, nS])) (vs := [(vI 0), (vI 0), nS, nS]) 2 inf25 rfl rfl rfl rfl rfl rfl (by simp [putL]) ?_)))
  refine TO.qa rfl (TO.nl (T.ret (Res.drop ?_)))
  refine Res.cell1b (vI 7) (i := 2) Tryz.results28 uT25 rfl inf25 rfl rfl rfl rfl ?_
  rw [e1, e2]
  exact ⟨[dI 37 4 3 noD k00], (by exact Sub.k .z), k00, rfl, rfl⟩
 have hle : (l.length : Int) = a.vars := Classical.not_not.1 hc
 obtain ⟨e1, e2, hpn, hin⟩ := rn_yes hv (sort_eq fun j hj => hall j (by omega)) hle
 have hln : l.length = n := by omega
 obtain ⟨M, hM⟩ : ∃ m, rnV a l = m := ⟨_, rfl⟩
 have hla : letN a = 2 ^ n := by unfold letN; rw [hn]; rfl
 have hn64 : 2 ^ n ≤ 2 ^ 6 := Nat.pow_le_pow_right (by decide) (by omega)
 refine T.skip (T.s (T.rg (TO.q (q_la 3 uT25 rfl inf25 rfl rfl rfl) (TO.q (q_fa uT25 rfl inf3 rfl rfl) (TO.q (QT.cast (q_lb 3 uT3 rfl rfl rfl rfl) (v' := vI ((n : Nat) : Int)) (congrArg (Value.int .i64) hn)) (TO.q (q_makeFunc) ?_))))))
 have hk41 := CallT.under (A := [oI z2 37 [(.slice pb l.length pc)]]) (B := [rowI rb rc 3 1 (ints (sortZ l)), oI z3 25 [(vI 0), (vI 0), nS, nS], oI z1 25 (dC a k)]) (O := [rowI rb rc 3 1 (ints (sortZ l)), oI z3 25 [(vI 0), (vI 0), nS, nS], oI z2 37 [(.slice pb l.length pc)], oI z1 25 (dC a k)]) (rebF w a k ha hv n (by omega) _ rfl (fun y => imF (natL l) y l.length) (fun x hx => by rw [hla, ← hln]; exact imF_lt _ _ _) (.func (.func 67) #[] #[(.pointer (aD z2))]) [oI z2 37 [(.slice pb l.length pc)]] (fun x hx => by
   have h9 := CallV.of_fn (first := []) (args := [.int .u8 ((x : Nat) : Int)]) (caps := [(.pointer (aD z2))]) ent67 (renF w z2 pc x pb (natL l) (hin ▸ hp) (fun p hp => by have := hpn.lt p hp; omega) (by omega) (by omega))
   rw [hnl] at h9
   exact h9) (M := M) (by rw [← hM, e2, hn])) (by exact Sub.pull [rowI rb rc 3 1 (ints (sortZ l)), oI z3 25 [(vI 0), (vI 0), nS, nS]] _ (.k (.k (.k .z))))
 refine TO.l rfl (l_call ent62 hk41 rfl ?_)
 clear hk41
 rintro vr O' ⟨A1, rfl, k9, rfl, rfl⟩
 refine TO.q (q_extract (vs := _) rfl rfl) (TO.q (q_extract (vs := _) rfl rfl) (TO.l rfl (l_sb (v := (dV M k9)) (vs := (dC M k9)) 2 inf25 rfl rfl rfl rfl rfl rfl (by simp [putL]) ?_)))
 refine TO.qa rfl (TO.nl (T.ret (Res.drop ?_)))
 refine Res.cell1b (vI 0) (i := 2) Tryz.results28 uT25 rfl inf25 rfl rfl rfl rfl ?_
 rw [e1, hM]
 exact ⟨[dI 37 4 3 M k9], (by exact Sub.k .z), k9, rfl, rfl⟩
theorem rnC (w : World) [Tab Tryz.prog w] (a : DFA) (k : DK) (ha : At w a k) (haa : a.next.length < 9223372036854775807) (haar : ∀ r ∈ a.next, r.length < 9223372036854775807) (haaf : a.final.length < 9223372036854775807) (pb : Option Addr) (pc : Nat) (l : List Int) (hp : Sl w pb (ints l)) (hll : l.length < 1000000) :
  PureT Tryz.prog 28 [dV a k, .slice pb l.length pc] w fun v9 N => ∃ k9 : DK, v9 = .tuple #[dV (rnV a l) k9, vI (rnE a l : Int)] ∧ N = [dI 37 4 3 (rnV a l) k9] := by
 by_cases he : checkD a = 0
 ·exact rnOk w a k ha (checkD_zero.1 he) pb pc l hp hll
 ·obtain ⟨e1, e2⟩ := rn_bad (l := l) he
  rw [e1, e2]
  refine (CallT.nilD 37 4 3 (rnBad w a k ha haa haar haaf he pb pc l)).mono ?_
  rintro v9 N ⟨O2, rfl, rfl, rfl⟩
  exact ⟨k00, rfl, rfl⟩
end Go.Proofs.YtohkmggbfcnapaaGreatDoor


namespace Go.Proofs.YtohkmggbfcnapaaGreatDoor
open Go.Lx Go.RowKit _root_.Go.Proofs.Tryz
theorem equalDFA0 (w : World) [Tab Tryz.prog w] (d e : DFA) (nb1 nb2 fb1 fb2 : Option Addr) (nc1 nc2 fc1 fc2 : Nat) (vs us : List Value) (h1 : DfaAt w d nb1 vs fb1) (h2 : DfaAt w e nb2 us fb2) (hb : d.next.length < 9223372036854775807) (hbr : ∀ r ∈ d.next, r.length < 9223372036854775807) (hbf : d.final.length < 9223372036854775807) :
  PureT Tryz.prog 19 [.agg (dfaCells d nb1 nc1 fb1 fc1).toArray, .agg (dfaCells e nb2 nc2 fb2 fc2).toArray] w fun v N => v = .bool (decide (d = e)) ∧ N = [] :=
 (CallT.none (equalDFA w d e nb1 nb2 fb1 fb2 nc1 nc2 fc1 fc2 vs us h1 h2 hb hbr hbf)).mono fun v N ⟨h1, O2, h2, _⟩ => ⟨h2, h1⟩
theorem equalDFAT (w : World) [Tab Tryz.prog w] (d : DFA) (nb1 nb2 fb1 fb2 : Option Addr) (nc1 nc2 fc1 fc2 : Nat) (vs us : List Value) (h1 : DfaAt w d nb1 vs fb1) (h2 : DfaAt w d nb2 us fb2) (hb : d.next.length < 9223372036854775807) (hbr : ∀ r ∈ d.next, r.length < 9223372036854775807) (hbf : d.final.length < 9223372036854775807) :
  PureT Tryz.prog 19 [.agg (dfaCells d nb1 nc1 fb1 fc1).toArray, .agg (dfaCells d nb2 nc2 fb2 fc2).toArray] w fun v N => v = .bool true ∧ N = [] :=
 (equalDFA0 w d d nb1 nb2 fb1 fb2 nc1 nc2 fc1 fc2 vs us h1 h2 hb hbr hbf).mono fun v N ⟨h1, h2⟩ => ⟨h1.trans (congrArg Value.bool (decide_eq_true rfl)), h2⟩
theorem longC (w : World) [Tab Tryz.prog w] (b : Option Addr) (c : Nat) (L : List DRec) (hS : Sl w b (dcells L)) (hD : ∀ r ∈ L, DfaAt w r.d r.nb r.vs r.fb) (hL : L.length < 9223372036854775807) (hB : ∀ r ∈ L, r.d.next.length < 9223372036854775807) :
  PureT Tryz.prog 37 [.slice b L.length c] w fun v N => v = .bool (L.any fun r => longD r.d) ∧ N = [] := by
 refine CallT.enter func37 rfl ntmps37 rfl ?_
 refine T.s (T.rg (TO.qa rfl (TO.nl (T.s (T.s (T.rg (TO.qa rfl (TO.nl (T.block ?_)))))))))
 refine T.loop (fun (i : Nat) ρ O => O = [] ∧ i ≤ L.length ∧ (L.take i).any (fun r => longD r.d) = false ∧ Heads [(0, (.slice b L.length c)), (3, vI (i : Int))] ρ) (fun i => L.length - i) 0 ?_ ?_
 ·exact ⟨rfl, Nat.zero_le _, rfl, ⟨rfl, rfl, trivial⟩⟩
 rintro i ρ O ⟨rfl, hi, hany, hH⟩
 obtain ⟨ρ0, rfl⟩ := hH.elim
 clear hH
 refine T.s (T.s (T.rg (TO.qm rfl (TO.qm rfl (TO.q (q_len uT56 rfl) (TO.q (q_lss rfl rfl) (TO.nl (T.condP rfl (fun hc => ?_) (fun hc => ?_)))))))))
 ·have hlt8 : i < L.length := by omega
  refine T.skip (T.s (T.block (T.s (T.s (T.rg (TO.qm rfl (TO.qm rfl (TO.q (q_ixK (i := i) uT56 inf25 rfl rfl (Sl.o hS) hlt8 (by rw [dcells_len]; omega)) (TO.q (q_fieldEl uT25 rfl inf22 rfl rfl (Sl.o hS) (by rw [dcells_len]; omega)) (TO.q (q_ld uT22 rfl rfl (Sl.o hS) (show (dcells L)[i * 4 + 2]? = some (.slice L[i].nb L[i].d.next.length L[i].nc) by rw [dcells_get hlt8 (by decide)]; rfl)) (TO.q (q_len uT22 rfl) ?_)))))))))))
  by_cases h1 : (L[i].d.next.length : Int) > 40
  ·refine TO.q (QT.toB (q_gtr rfl rfl) (decide_eq_true h1)) ?_
   refine TO.qm rfl (TO.pd rfl rfl (TO.pd rfl rfl (TO.pd rfl rfl (TO.pd rfl rfl (TO.pd rfl rfl (TO.pd rfl rfl (TO.pd rfl rfl ?_)))))))
   refine TO.q (q_pick1 rfl rfl) (TO.nl ?_)
   refine T.cond1 rfl ?_
   refine T.s (T.rg (TO.qa rfl (TO.nl (T.ret ?_))))
   refine Res.one (.bool true) Tryz.results37 rfl ?_
   exact ⟨congrArg Value.bool (any_at hlt8 (by simp only [longD, Bool.or_eq_true, decide_eq_true_eq]; exact .inl (.inl (by omega)))).symm, rfl⟩
  refine TO.q (QT.toB (q_gtr rfl rfl) (decide_eq_false h1)) (TO.qm rfl (TO.gq rfl rfl (q_move rfl) (TO.gq rfl rfl (q_move rfl) (TO.gq rfl rfl (q_ixK (i := i) uT56 inf25 rfl rfl (Sl.o hS) hlt8 (by rw [dcells_len]; omega)) (TO.gq rfl rfl (q_fieldEl uT25 rfl inf23 rfl rfl (Sl.o hS) (by rw [dcells_len]; omega)) (TO.gq rfl rfl (q_ld uT23 rfl rfl (Sl.o hS) (show (dcells L)[i * 4 + 3]? = some (.slice L[i].fb L[i].d.final.length L[i].fc) by rw [dcells_get hlt8 (by decide)]; rfl)) (TO.gq rfl rfl (q_len uT23 rfl) ?_)))))))
  by_cases h2 : (L[i].d.final.length : Int) > 40
  ·refine TO.gq rfl rfl (QT.toB (q_gtr rfl rfl) (decide_eq_true h2)) ?_
   refine TO.q (q_pick0 rfl rfl) (TO.nl ?_)
   refine T.cond1 rfl ?_
   refine T.s (T.rg (TO.qa rfl (TO.nl (T.ret ?_))))
   refine Res.one (.bool true) Tryz.results37 rfl ?_
   exact ⟨congrArg Value.bool (any_at hlt8 (by simp only [longD, Bool.or_eq_true, decide_eq_true_eq]; exact .inl (.inr (by omega)))).symm, rfl⟩
  refine TO.gq rfl rfl (QT.toB (q_gtr rfl rfl) (decide_eq_false h2)) (TO.q (q_pick0 rfl rfl) (TO.nl (T.cond0 rfl (T.skip (T.s (T.rg (TO.qa rfl (TO.nl (T.block ?_)))))))))
  refine T.loop (fun (s : Nat) ρ O => O = [] ∧ s ≤ L[i].d.next.length ∧ (L[i].d.next.take s).any (fun r => decide (100 < r.length)) = false ∧ Heads [(0, (.slice b L.length c)), (3, vI (i : Int)), (4, vI (s : Int))] ρ) (fun s => L[i].d.next.length - s) 0 ?_ ?_
  ·exact ⟨rfl, Nat.zero_le _, rfl, ⟨rfl, rfl, rfl, trivial⟩⟩
  rintro s ρ O ⟨rfl, hs, hany2, hH⟩
  obtain ⟨ρ0, rfl⟩ := hH.elim
  clear hH
  refine T.s (T.s (T.rg (TO.qm rfl (TO.qm rfl (TO.qm rfl (TO.q (q_ixK (i := i) uT56 inf25 rfl rfl (Sl.o hS) hlt8 (by rw [dcells_len]; omega)) (TO.q (q_fieldEl uT25 rfl inf22 rfl rfl (Sl.o hS) (by rw [dcells_len]; omega)) (TO.q (q_ld uT22 rfl rfl (Sl.o hS) (show (dcells L)[i * 4 + 2]? = some (.slice L[i].nb L[i].d.next.length L[i].nc) by rw [dcells_get hlt8 (by decide)]; rfl)) (TO.q (q_len uT22 rfl) (TO.q (q_lss rfl rfl) (TO.nl (T.condP rfl (fun hc => ?_) (fun hc => ?_)))))))))))))
  ·have hlt34 : s < L[i].d.next.length := by omega
   obtain ⟨vb, vc, g1, s1⟩ := (hD _ (List.getElem_mem hlt8)).rows.get hlt34
   have hB9 := hB _ (List.getElem_mem hlt8)
   refine T.skip (T.s (T.block (T.s (T.rg (TO.qm rfl (TO.qm rfl (TO.q (q_ixK (i := i) uT56 inf25 rfl rfl (Sl.o hS) hlt8 (by rw [dcells_len]; omega)) (TO.q (q_fieldEl uT25 rfl inf22 rfl rfl (Sl.o hS) (by rw [dcells_len]; omega)) (TO.q (q_ld uT22 rfl rfl (Sl.o hS) (show (dcells L)[i * 4 + 2]? = some (.slice L[i].nb L[i].d.next.length L[i].nc) by rw [dcells_get hlt8 (by decide)]; rfl)) (TO.qm rfl (TO.q (q_ix (i := s) uT22 inf37 rfl rfl (Sl.o (hD _ (List.getElem_mem hlt8)).outer) hlt34 (by rw [(hD _ (List.getElem_mem hlt8)).rows.1]; exact hlt34)) (TO.q (q_ld uT37 rfl rfl (Sl.o (hD _ (List.getElem_mem hlt8)).outer) g1) (TO.q (q_len uT37 rfl) (TO.q (q_gtr rfl rfl) (TO.nl (T.condP rfl (fun hc => ?_) (fun hc => ?_)))))))))))))))))
   ·have hlt46 : L[i].d.next[s].length > 100 := by omega
    refine T.s (T.rg (TO.qa rfl (TO.nl (T.ret ?_))))
    refine Res.one (.bool true) Tryz.results37 rfl ?_
    exact ⟨congrArg Value.bool (any_at hlt8 (by simp only [longD, Bool.or_eq_true, decide_eq_true_eq]; exact .inr (any_at hlt34 (by simp; omega)))).symm, rfl⟩
   have hge46 : ¬ L[i].d.next[s].length > 100 := by omega
   refine T.skip (T.rg (TO.qm rfl (TO.q (q_inc rfl rfl (by omega)) (TO.qa rfl (TO.nl ?_)))))
   exact ⟨s + 1, by omega, rfl, by omega, any_take hlt34 hany2 (by simp; omega), ⟨rfl, rfl, rfl, trivial⟩⟩
  have hge34 : ¬ s < L[i].d.next.length := by omega
  refine T.exit ?_
  refine T.rg (TO.qm rfl (TO.q (q_inc rfl rfl (by omega)) (TO.qa rfl (TO.nl ?_))))
  have hLi : longD L[i].d = false := by
   simp only [longD, Bool.or_eq_false_iff, decide_eq_false_iff_not]
   exact ⟨⟨by omega, by omega⟩, by rwa [List.take_of_length_le (by omega)] at hany2⟩
  exact ⟨i + 1, by omega, rfl, by omega, any_take hlt8 hany hLi, ⟨rfl, rfl, trivial⟩⟩
 have hge8 : ¬ i < L.length := by omega
 refine T.exit ?_
 refine T.s (T.rg (TO.qa rfl (TO.nl (T.ret ?_))))
 refine Res.one (.bool false) Tryz.results37 rfl ?_
 exact ⟨congrArg Value.bool (by rw [List.take_of_length_le (by omega)] at hany; exact hany.symm), rfl⟩
theorem long1 (w : World) [Tab Tryz.prog w] (b : Option Addr) (c : Nat) (d : DFA) (nb fb : Option Addr) (nc fc : Nat) (vs : List Value) (hS : Sl w b (dfaCells d nb nc fb fc)) (hD : DfaAt w d nb vs fb) (hB : d.next.length < 9223372036854775807) :
  PureT Tryz.prog 37 [.slice b 1 c] w fun v N => v = .bool (decide (longD d = true)) ∧ N = [] :=
 (longC w b c [⟨d, nb, fb, nc, fc, vs⟩] hS (allC hD allN) (show 1 < 9223372036854775807 by decide) (allC hB allN)).mono fun v N ⟨h1, h2⟩ => ⟨by rw [h1]; simp, h2⟩
end Go.Proofs.YtohkmggbfcnapaaGreatDoor


namespace Go.Proofs.YtohkmggbfcnapaaGreatDoor
open Go.Lx Go.RowKit _root_.Go.Proofs.Tryz
theorem long9C (w : World) [Tab Tryz.prog w] (b : Option Addr) (c : Nat) (L : List DRec) (hS : Sl w b (dcells L)) (hD : ∀ r ∈ L, DfaAt w r.d r.nb r.vs r.fb) (hL : L.length < 1000) (hB : ∀ r ∈ L, r.d.next.length < 9223372036854775807) :
  PureT Tryz.prog 10 [.slice b L.length c] w fun v N => v = .bool (longB (L.map DRec.d)) ∧ N = [] := by
 refine CallT.enter func10 rfl ntmps10 rfl ?_
 refine T.s (T.rg (TO.qa rfl (TO.nl (T.s (T.s (T.rg (TO.qa rfl (TO.nl (T.block ?_)))))))))
 refine T.loopS (fun (i : Nat) ρ O => O = [] ∧ i ≤ L.length ∧ longB ((L.map DRec.d).take i) = false ∧ Heads [(0, (.slice b L.length c)), (3, vI ((i : Nat) : Int))] ρ) (fun i => L.length - i) 0 ?_ ?_
 ·exact ⟨rfl, Nat.zero_le _, rfl, ⟨rfl, rfl, trivial⟩⟩
 rintro i ρ O ⟨rfl, hi, hany, hH⟩
 obtain ⟨ρ0, rfl⟩ := hH.elim
 clear hH
 refine T.s (T.s (T.rg (TO.qm rfl (TO.qm rfl (TO.q (q_len uT56 rfl) (TO.q (q_lss rfl rfl) (TO.nl (T.condP rfl (fun hc => ?_) (fun hc => ?_)))))))))
 ·have hlt7 : i < L.length := by omega
  have hD9 := hD _ (List.getElem_mem hlt7)
  have hB9 := hB _ (List.getElem_mem hlt7)
  refine T.skip (T.s (T.block (T.s (T.rg ?_))))
  refine TO.qm rfl (TO.qm rfl (TO.q (q_ixK (i := i) uT56 inf25 rfl rfl (Sl.o hS) hlt7 (by rw [dcells_len]; omega)) (TO.q (q_ldK (vs := [(vI L[i].d.vars), (vI L[i].d.start), (.slice L[i].nb L[i].d.next.length L[i].nc), (.slice L[i].fb L[i].d.final.length L[i].fc)]) uT25 rfl inf25 rfl rfl (Nat.succ_pos _) (Sl.o hS) (fun j hj => by rw [dcells_get hlt7 hj]; exact List.getElem?_eq_getElem hj)) ?_)))
  refine TO.l rfl (l_buildSlice (m := 1) (parts := [(0, _)]) (cs := [(vI L[i].d.vars), (vI L[i].d.start), (.slice L[i].nb L[i].d.next.length L[i].nc), (.slice L[i].fb L[i].d.final.length L[i].fc)]) uT56 inf25 (by decide) (by kernel_rfl) rfl (fun bx1 => ?_))
  have hk15 := fun (w1 : World) (hI : Inv w [rowI (aD bx1) 1 25 4 [(vI L[i].d.vars), (vI L[i].d.start), (.slice L[i].nb L[i].d.next.length L[i].nc), (.slice L[i].fb L[i].d.final.length L[i].fc)]] w1) => (haveI := tbz hI; long1 w1 (aD bx1) 1 L[i].d L[i].nb L[i].fb L[i].nc L[i].fc L[i].vs (hI.slOf (mG 0 rfl)) (hI.dfa hD9) hB9)
  refine TO.l rfl (l_call ent37 (CallT.op hk15) rfl ?_)
  clear hk15
  rintro vr O' ⟨N, rfl, rfl, rfl⟩
  by_cases hs16 : longD L[i].d = true
  ·refine TO.q (QT.toB (q_move rfl) (decide_eq_true hs16)) ?_
   refine TO.pd rfl rfl (TO.pd rfl rfl (TO.pd rfl rfl (TO.pd rfl rfl (TO.pd rfl rfl (TO.pd rfl rfl (TO.pd rfl rfl (TO.q (q_pick1 rfl rfl) ?_)))))))
   refine TO.nl ?_
   refine T.cond1 rfl ?_
   refine T.s (T.rg (TO.qa rfl (TO.nl (T.ret (Res.drop ?_)))))
   refine Res.one (.bool true) Tryz.results10 rfl ?_
   exact ⟨[], Sub.z, congrArg Value.bool (Eq.symm (List.any_eq_true.2 ⟨L[i].d, List.mem_map_of_mem (List.getElem_mem hlt7), by simp_all⟩)), rfl⟩
  refine TO.q (QT.toB (q_move rfl) (decide_eq_false hs16)) (TO.gq rfl rfl (q_move rfl) (TO.gq rfl rfl (q_move rfl) (TO.gq rfl rfl (q_ixK (i := i) uT56 inf25 rfl rfl (Sl.o hS) hlt7 (by rw [dcells_len]; omega)) (TO.gq rfl rfl (q_fieldEl uT25 rfl inf22 rfl rfl (Sl.o hS) (by rw [dcells_len]; omega)) (TO.gq rfl rfl (q_ld uT22 rfl rfl (Sl.o hS) (show (dcells L)[i * 4 + 2]? = some (.slice L[i].nb L[i].d.next.length L[i].nc) by rw [dcells_get hlt7 (by decide)]; rfl)) (TO.gq rfl rfl (q_len uT22 rfl) (TO.gq rfl rfl (q_gtr rfl rfl) ?_)))))))
  refine TO.q (q_pick0 rfl rfl) (TO.nl (T.condP rfl (fun hc => ?_) (fun hc => ?_)))
  ·have hlt24 : L[i].d.next.length > 8 := by omega
   refine T.s (T.rg (TO.qa rfl (TO.nl (T.ret (Res.drop ?_)))))
   refine Res.one (.bool true) Tryz.results10 rfl ?_
   exact ⟨[], Sub.z, congrArg Value.bool (Eq.symm (List.any_eq_true.2 ⟨L[i].d, List.mem_map_of_mem (List.getElem_mem hlt7), by simp_all⟩)), rfl⟩
  have hge24 : ¬ L[i].d.next.length > 8 := by omega
  refine T.skip (T.rg (TO.qm rfl (TO.q (q_addN (a := i) (b := 1) rfl rfl (by omega)) (TO.qa rfl (TO.nl ?_)))))
  refine ⟨i + 1, by omega, [], (by exact Sub.z), rfl, by omega, ?_, ⟨rfl, rfl, trivial⟩⟩
  rw [List.take_succ_eq_append_getElem (by rw [List.length_map]; exact hlt7), List.getElem_map]
  unfold longB at hany ⊢
  rw [List.any_append, hany]
  first | (simp_all; done) | (simp_all; omega)
 have hge7 : ¬ i < L.length := by omega
 refine T.exit ?_
 refine T.s (T.rg (TO.qa rfl (TO.nl (T.ret (Res.drop ?_)))))
 refine Res.one (.bool false) Tryz.results10 rfl ?_
 exact ⟨[], Sub.z, congrArg Value.bool (by rw [List.take_of_length_le (by rw [List.length_map]; omega)] at hany; exact hany.symm), rfl⟩
theorem long1K (w : World) [Tab Tryz.prog w] (b : Option Addr) (a1 : DFA) (k1 : DK) (hS : Sl w b (dC a1 k1)) (h1 : At w a1 k1) (b1 : a1.next.length < 9223372036854775807) :
  PureT Tryz.prog 10 [.slice b 1 1] w fun v N => v = .bool (longB [a1]) ∧ N = [] :=
 long9C w b 1 [⟨a1, k1.nb, k1.fb, k1.nc, k1.fc, vals k1.qs⟩] hS (allC h1 allN) (show 1 < 1000 by decide) (allC b1 allN)
theorem equalK (w : World) [Tab Tryz.prog w] (d : DFA) (j k : DK) (h1 : At w d j) (h2 : At w d k) (hb : d.next.length < 9223372036854775807) (hbr : ∀ r ∈ d.next, r.length < 9223372036854775807) (hbf : d.final.length < 9223372036854775807) :
  PureT Tryz.prog 19 [dV d j, dV d k] w fun v N => v = .bool true ∧ N = [] := equalDFAT w d j.nb k.nb j.fb k.fb j.nc k.nc j.fc k.fc (vals j.qs) (vals k.qs) h1 h2 hb hbr hbf
end Go.Proofs.YtohkmggbfcnapaaGreatDoor


namespace Go.Proofs.YtohkmggbfcnapaaGreatDoor
open Go.Lx Go.RowKit _root_.Go.Proofs.Tryz
theorem indexFunc (base : World) [Tab Tryz.prog base] (b : Option Addr) (c : Nat) (xs : List Nat) (hS : Sl base b (byts xs)) (hb : xs.length < 9223372036854775807) (fv : Value) (p : Nat → Bool) (OO : List Lx.Item) (hy : ∀ x ∈ xs, CallV Tryz.prog base fv [.int .u8 (x : Int)] OO (fun v O' => v = .bool (p x) ∧ O' = OO)) :
  CallT Tryz.prog base 118 [.slice b xs.length c, fv] OO (fun v O' => ∃ i : Int, v = vI i ∧ decide (i ≥ 0) = xs.any p ∧ O' = OO) := by
 refine CallT.enter func118 rfl ntmps118 rfl ?_
 refine T.s (T.rg (TO.qa rfl (TO.nl (T.s (T.s (T.rg (TO.qm rfl (TO.q (q_len underlying46 rfl) (TO.qm rfl (TO.nl (T.block ?_)))))))))))
 refine T.loop (fun (k : Nat) ρ O => O = OO ∧ k ≤ xs.length ∧ (xs.take k).any p = false ∧ Heads [(0, (.slice b xs.length c)), (1, fv), (7, vI (xs.length : Int)), (8, vI (k : Int))] ρ) (fun k => xs.length - k) 0 ?_ ?_
 ·exact ⟨rfl, Nat.zero_le _, rfl, ⟨rfl, rfl, rfl, rfl, trivial⟩⟩
 rintro k ρ O ⟨rfl, hk, hany, hH⟩
 obtain ⟨ρ0, rfl⟩ := hH.elim
 clear hH
 refine T.s (T.rg (TO.q (q_lss rfl rfl) (TO.nl (T.s (T.condP rfl (fun hc => ?_) (fun hc => ?_))))))
 ·have hlt9 : k < xs.length := by omega
  refine T.skip (T.s (T.block (T.s (T.rg (TO.qm rfl (TO.qa rfl (TO.nl (T.s (T.rg (TO.qm rfl (TO.qm rfl (TO.qm rfl (TO.q (q_ix (i := k) underlying46 inf5 rfl rfl (Sl.o hS) hlt9 (by rw [List.length_map]; exact hlt9)) (TO.q (q_ld underlying5 rfl rfl (Sl.o hS) (byts_get hlt9)) ?_))))))))))))))
  have hk16 := hy xs[k] (List.getElem_mem hlt9)
  refine TO.l rfl (l_callG hk16 rfl rfl ?_)
  clear hk16
  rintro v O' ⟨rfl, rfl⟩
  refine TO.nl (T.cond rfl (fun hc => ?_) (fun hc => ?_))
  ·refine T.s ?_
   refine T.rg (TO.qm rfl (TO.qa rfl (TO.nl (T.ret (Res.drop ?_)))))
   refine Res.one (vI (k : Int)) Tryz.results118 rfl ?_
   exact ⟨_, Sub.of (List.Sublist.refl _), k, rfl, by rw [any_at hlt9 hc]; exact decide_eq_true (by omega), rfl⟩
  refine T.skip (T.rg (TO.q (q_inc rfl rfl (by omega)) (TO.qm rfl (TO.nl ?_))))
  exact ⟨k + 1, by omega, rfl, by omega, any_take hlt9 hany hc, ⟨rfl, rfl, rfl, rfl, trivial⟩⟩
 have hge9 : ¬ k < xs.length := by omega
 refine T.exit ?_
 refine T.s (T.rg (TO.qa rfl (TO.nl (T.ret (Res.drop ?_)))))
 refine Res.one (vI (-1)) Tryz.results118 rfl ?_
 exact ⟨_, Sub.of (List.Sublist.refl _), -1, rfl, by rw [List.take_of_length_le (by omega)] at hany; rw [hany]; decide, rfl⟩
theorem containsFunc (base : World) [Tab Tryz.prog base] (b : Option Addr) (c : Nat) (xs : List Nat) (hS : Sl base b (byts xs)) (hb : xs.length < 9223372036854775807) (fv : Value) (p : Nat → Bool) (OO : List Lx.Item) (hy : ∀ x ∈ xs, CallV Tryz.prog base fv [.int .u8 (x : Int)] OO (fun v O' => v = .bool (p x) ∧ O' = OO)) :
  CallT Tryz.prog base 95 [.slice b xs.length c, fv] OO (fun v O' => v = .bool (xs.any p) ∧ O' = OO) := by
 refine CallT.enter func95 rfl ntmps95 rfl ?_
 refine T.s (T.rg (TO.qa rfl (TO.nl (T.s (T.rg (TO.qm rfl (TO.qm rfl ?_)))))))
 have hk7 := indexFunc base b c xs hS hb fv p OO hy
 refine TO.l rfl (l_call ent118 hk7 rfl ?_)
 clear hk7
 rintro v O' ⟨i, rfl, hi, rfl⟩
 refine TO.q (q_geq rfl rfl) (TO.qa rfl (TO.nl (T.ret (Res.drop ?_))))
 refine Res.one (.bool (decide (i ≥ 0))) Tryz.results95 rfl ?_
 exact ⟨_, Sub.of (List.Sublist.refl _), congrArg Value.bool hi, rfl⟩
theorem tooGreat (base : World) [Tab Tryz.prog base] (d : DFA) (nb fb : Option Addr) (nc fc : Nat) (hv0 : 0 ≤ d.vars) (hv6 : d.vars ≤ 6) (bx x : Nat) (hx : x < 256) :
  CallT Tryz.prog base 96 [.int .u8 (x : Int), .pointer (aD bx)] [oI bx 25 [(vI d.vars), (vI d.start), (.slice nb d.next.length nc), (.slice fb d.final.length fc)]] (fun v O' => v = .bool (decide (2 ^ d.vars.toNat ≤ x)) ∧ O' = [oI bx 25 [(vI d.vars), (vI d.start), (.slice nb d.next.length nc), (.slice fb d.final.length fc)]]) := by
 refine CallT.enter func96 rfl ntmps96 rfl ?_
 refine T.s (T.rg (TO.qa rfl (TO.nl (T.s (T.rg (TO.qm rfl (TO.q (q_conv_id underlying5 underlying3 rfl (wrap64_id ⟨by omega, by omega⟩)) (TO.q (q_fa underlying25 rfl inf3 rfl rfl) (TO.q (q_lb 0 underlying3 rfl rfl rfl rfl) (TO.q (q_shl1 (v := d.vars.toNat) rfl (by show Value.int _ d.vars = _; rw [Int.toNat_of_nonneg hv0]) (by omega)) (TO.q (q_geq rfl rfl) (TO.qa rfl (TO.nl (T.ret ?_))))))))))))))
 refine Res.one (.bool (decide ((x : Int) ≥ ((2 ^ d.vars.toNat : Nat) : Int)))) Tryz.results96 rfl ?_
 exact ⟨congrArg Value.bool (decide_eq_decide.2 (by omega)), rfl⟩
theorem runM (w : World) [Tab Tryz.prog w] (d : DFA) (nb fb : Option Addr) (nc fc : Nat) (vs : List Value) (h : DfaAt w d nb vs fb) (hv : Valid d) (wb : Option Addr) (wc : Nat) (l : List Nat) (hW : Sl w wb (byts l)) (hwb : l.length < 9223372036854775807) (hwd : Wd d l) :
  PureT Tryz.prog 97 [.agg (dfaCells d nb nc fb fc).toArray, .slice wb l.length wc] w fun v N => v = vI ((Lx.runN d d.start.toNat l : Nat) : Int) ∧ N = [] := by
 refine CallT.enter func97 rfl ntmps97 rfl ?_
 have hs0 := hv.s0
 have hs1 := hv.s1
 have hvl := h.rows.1
 refine T.s (T.rg (TO.l rfl (l_box (v := (.agg #[(vI d.vars), (vI d.start), (.slice nb d.next.length nc), (.slice fb d.final.length fc)])) (cs := [(vI d.vars), (vI d.start), (.slice nb d.next.length nc), (.slice fb d.final.length fc)]) rfl rfl (fun b1 => ?_))))
 refine TO.qa rfl (TO.nl (T.s (T.rg (TO.q (q_fa underlying127 rfl inf25 rfl rfl) (TO.q (q_fa underlying25 rfl inf3 rfl rfl) (TO.q (QT.cast (q_lb 0 underlying3 rfl rfl rfl rfl) (v' := vI ((Lx.runN d d.start.toNat (l.take 0) : Nat) : Int)) (by show Value.int _ d.start = _; rw [show Lx.runN d d.start.toNat (l.take 0) = d.start.toNat from rfl, Int.toNat_of_nonneg hs0])) (TO.qa rfl (TO.nl (T.s (T.s (T.rg (TO.qm rfl (TO.q (q_len underlying46 rfl) (TO.qm rfl (TO.nl (T.block ?_))))))))))))))))
 refine T.loop (fun (k : Nat) ρ O => O = [oI b1 127 [(vI d.vars), (vI d.start), (.slice nb d.next.length nc), (.slice fb d.final.length fc)]] ∧ k ≤ l.length ∧ Heads [(0, (.agg #[(vI d.vars), (vI d.start), (.slice nb d.next.length nc), (.slice fb d.final.length fc)])), (1, (.slice wb l.length wc)), (2, (.pointer (aD b1))), (4, vI 0), (5, vI ((Lx.runN d d.start.toNat (l.take k) : Nat) : Int)), (11, (.slice wb l.length wc)), (12, vI (l.length : Int)), (13, vI (k : Int))] ρ) (fun k => l.length - k) 0 ?_ ?_
 ·exact ⟨rfl, Nat.zero_le _, (.of rfl)⟩
 rintro k ρ O ⟨rfl, hk, hH⟩
 obtain ⟨ρ0, rfl⟩ := hH.elim
 clear hH
 refine T.s (T.rg (TO.q (q_lss rfl rfl) (TO.nl (T.s (T.condP rfl (fun hc => ?_) (fun hc => ?_))))))
 ·have hlt14 : k < l.length := by omega
  obtain ⟨o, ho⟩ : ∃ o, Lx.runN d d.start.toNat (l.take k) = o := ⟨_, rfl⟩
  have ho9 : o < d.next.length := by rw [← ho]; exact runN_lt hv.toVal (by omega) _ (fun x hx => hwd x (List.mem_of_mem_take hx))
  have hlx : l[k] < 2 ^ d.vars.toNat := hwd _ (List.getElem_mem hlt14)
  obtain ⟨vb, vc, g1, s1⟩ := h.rows.get ho9
  have hl1 : d.next[o].length = 2 ^ d.vars.toNat := hv.len _ (List.getElem_mem ho9)
  obtain ⟨hta, _, hxk1, hx1⟩ := hv.toN_lt ho9 hlx
  have hx1 : (ints d.next[o])[l[k]]? = some (vI ((toN d o l[k] : Nat) : Int)) := by rw [ints_get hxk1, hx1]
  refine T.skip (T.s (T.block (T.s (T.rg (TO.q (q_ix (i := k) underlying46 inf5 rfl rfl (Sl.o hW) hlt14 (by rw [List.length_map]; exact hlt14)) (TO.q (q_ld underlying5 rfl rfl (Sl.o hW) (byts_get hlt14)) (TO.qa rfl (TO.nl (T.rg (TO.q (q_fa underlying127 rfl inf25 rfl rfl) (TO.q (q_fa underlying25 rfl inf22 rfl rfl) (TO.q (q_lb 0 underlying22 rfl rfl rfl rfl) (TO.q (QT.cast (q_move rfl) (v' := vI ((o : Nat) : Int)) (by show Value.int _ _ = _; rw [ho])) (TO.q (q_ix (i := o) underlying22 inf37 rfl rfl (Sl.o h.outer) ho9 (hvl ▸ ho9)) (TO.q (q_ld underlying37 rfl rfl (Sl.o h.outer) g1) (TO.qm rfl (TO.q (q_ix (i := l[k]) underlying37 inf3 rfl rfl (Sl.o s1) (by rw [hl1]; exact hlx) (by rw [List.length_map, hl1]; exact hlx)) (TO.q (q_ld underlying3 rfl rfl (Sl.o s1) hx1) (TO.qa rfl (TO.nl (T.rg (TO.q (q_inc rfl rfl (by omega)) (TO.qm rfl ?_)))))))))))))))))))))))
  refine TO.nl ?_
  refine ⟨k + 1, by omega, rfl, by omega, ?_⟩
  rw [runN_take hlt14, ho]; exact (.of rfl)
 have hge14 : ¬ k < l.length := by omega
 refine T.exit ?_
 refine T.s (T.rg (TO.qm rfl (TO.qa rfl (TO.nl (T.ret (Res.drop ?_))))))
 refine Res.one (vI ((Lx.runN d d.start.toNat (l.take k) : Nat) : Int)) Tryz.results97 rfl ?_
 have hke : k = l.length := by omega
 exact ⟨[], Sub.of (List.nil_sublist _), by rw [List.take_of_length_le (by omega)], rfl⟩
theorem runA (w : World) [Tab Tryz.prog w] (d : DFA) (nb fb : Option Addr) (nc fc : Nat) (vs : List Value) (h : DfaAt w d nb vs fb) (hb : d.next.length < 9223372036854775807) (hbr : ∀ r ∈ d.next, r.length < 9223372036854775807) (hbf : d.final.length < 9223372036854775807) (wb : Option Addr) (wc : Nat) (l : List Nat) (hW : Sl w wb (byts l)) (hwb : l.length < 9223372036854775807) (hw8 : ∀ x ∈ l, x < 256) :
  PureT Tryz.prog 70 [.agg (dfaCells d nb nc fb fc).toArray, .slice wb l.length wc] w fun v N => v = .tuple #[vI ((runV d l : Nat) : Int), vI ((runE d l : Nat) : Int)] ∧ N = [] := by
 refine CallT.enter func70 rfl ntmps70 rfl ?_
 refine T.s (T.rg (TO.l rfl (l_box (v := (.agg #[(vI d.vars), (vI d.start), (.slice nb d.next.length nc), (.slice fb d.final.length fc)])) (cs := [(vI d.vars), (vI d.start), (.slice nb d.next.length nc), (.slice fb d.final.length fc)]) rfl rfl (fun b1 => ?_))))
 refine TO.qa rfl (TO.qa rfl (TO.nl (T.s (T.s (T.rg (TO.q (q_la 0 underlying25 rfl inf25 rfl rfl rfl) ?_))))))
 have hk9 := fun (w1 : World) (hI : Inv w [oI b1 25 [(vI d.vars), (vI d.start), (.slice nb d.next.length nc), (.slice fb d.final.length fc)]] w1) => (haveI := Inv.tab (P := Tryz.prog) hI; subsetCheck w1 d nb fb nc fc vs (hI.dfa h) hb hbr hbf)
 refine TO.l rfl (l_call ent35 (CallT.op hk9) rfl ?_)
 clear hk9
 rintro v O' ⟨N, rfl, rfl, rfl⟩
 refine TO.qa rfl (TO.nl (T.s (T.rg (TO.qm rfl ?_))))
 by_cases hE : (checkD d : Int) ≠ 0
 ·refine TO.q (QT.toB (q_neq rfl rfl) (decide_eq_true hE)) ?_
  refine TO.nl ?_
  refine T.cond1 rfl ?_
  refine T.s (T.rg (TO.qm rfl (TO.qa rfl (TO.qa rfl (TO.nl (T.ret (Res.drop ?_)))))))
  refine Res.two (vI 0) (vI (checkD d : Int)) Tryz.results70 rfl rfl ?_
  have hE1 : runE d l = checkD d := by unfold runE; rw [if_pos (by omega)]
  have hE0 : ¬ runE d l = 0 := by omega
  exact ⟨[], Sub.of (List.nil_sublist _), by unfold runV; rw [if_neg hE0, hE1]; try rfl, rfl⟩
 refine TO.q (QT.toB (q_neq rfl rfl) (decide_eq_false hE)) (TO.nl (T.cond0 rfl (T.skip (T.s (T.block (T.s ?_))))))
 have he : checkD d = 0 := by omega
 have hv : Valid d := checkD_zero.1 he
 refine T.rg (TO.qm rfl (TO.q (q_len underlying46 rfl) ?_))
 by_cases h64 : (l.length : Int) > 64
 ·refine TO.q (QT.toB (q_gtr rfl rfl) (decide_eq_true h64)) ?_
  refine TO.qa rfl (TO.nl ?_)
  refine T.cond1 rfl ?_
  refine T.s (T.rg (TO.qa rfl (TO.qa rfl (TO.nl (T.ret (Res.drop ?_))))))
  refine Res.two (vI 0) (vI 4) Tryz.results70 rfl rfl ?_
  have hE1 : runE d l = 4 := by unfold runE; rw [if_neg (by simp [he]), if_pos (by omega)]
  have hE0 : ¬ runE d l = 0 := by omega
  exact ⟨[], Sub.of (List.nil_sublist _), by unfold runV; rw [if_neg hE0, hE1]; try rfl, rfl⟩
 refine TO.q (QT.toB (q_gtr rfl rfl) (decide_eq_false h64)) (TO.qa rfl (TO.nl (T.cond0 rfl (T.s (T.rg (TO.qm rfl (TO.q (q_makeFunc) ?_)))))))
 by_cases hany : l.any (fun x => decide (2 ^ d.vars.toNat ≤ x)) = true
 ·have hk20 := (containsFunc w wb wc l hW hwb (.func (.func 96) #[] #[.pointer (aD b1)]) (fun x => decide (2 ^ d.vars.toNat ≤ x)) [oI b1 25 [(vI d.vars), (vI d.start), (.slice nb d.next.length nc), (.slice fb d.final.length fc)]] (fun x hx => CallV.of_fn (first := []) (args := [.int .u8 (x : Int)]) (caps := [.pointer (aD b1)]) ent96 (tooGreat w d nb fb nc fc hv.v0 hv.v6 b1 x (hw8 x hx)))).mono (fun v O' hh => (⟨hh.1.trans (congrArg Value.bool ((show ∀ b : Bool, b = decide (b = true) from fun b => by cases b <;> rfl) _)), hh.2⟩ : v = .bool (decide (l.any (fun x => decide (2 ^ d.vars.toNat ≤ x)) = true)) ∧ O' = [oI b1 25 [(vI d.vars), (vI d.start), (.slice nb d.next.length nc), (.slice fb d.final.length fc)]]))
  refine TO.l rfl (l_call ent95 hk20 rfl ?_)
  clear hk20
  rintro v O' ⟨rfl, rfl⟩
  rw [decide_eq_true hany]
  refine TO.qa rfl (TO.nl ?_)
  refine T.cond1 rfl ?_
  refine T.s (T.rg (TO.qa rfl (TO.qa rfl (TO.nl (T.ret (Res.drop ?_))))))
  refine Res.two (vI 0) (vI 1) Tryz.results70 rfl rfl ?_
  have hE1 : runE d l = 1 := by unfold runE; rw [if_neg (by simp [he]), if_neg (by omega), if_pos hany]
  have hE0 : ¬ runE d l = 0 := by omega
  exact ⟨[], Sub.of (List.nil_sublist _), by unfold runV; rw [if_neg hE0, hE1]; try rfl, rfl⟩
 have hk20 := (containsFunc w wb wc l hW hwb (.func (.func 96) #[] #[.pointer (aD b1)]) (fun x => decide (2 ^ d.vars.toNat ≤ x)) [oI b1 25 [(vI d.vars), (vI d.start), (.slice nb d.next.length nc), (.slice fb d.final.length fc)]] (fun x hx => CallV.of_fn (first := []) (args := [.int .u8 (x : Int)]) (caps := [.pointer (aD b1)]) ent96 (tooGreat w d nb fb nc fc hv.v0 hv.v6 b1 x (hw8 x hx)))).mono (fun v O' hh => (⟨hh.1.trans (congrArg Value.bool ((show ∀ b : Bool, b = decide (b = true) from fun b => by cases b <;> rfl) _)), hh.2⟩ : v = .bool (decide (l.any (fun x => decide (2 ^ d.vars.toNat ≤ x)) = true)) ∧ O' = [oI b1 25 [(vI d.vars), (vI d.start), (.slice nb d.next.length nc), (.slice fb d.final.length fc)]]))
 refine TO.l rfl (l_call ent95 hk20 rfl ?_)
 clear hk20
 rintro v O' ⟨rfl, rfl⟩
 rw [decide_eq_false hany]
 refine TO.qa rfl (TO.nl (T.cond0 rfl (T.skip (T.s ?_))))
 have hE0 : runE d l = 0 := by unfold runE; rw [if_neg (by simp [he]), if_neg (by omega), if_neg hany]
 have hwd : Wd d l := (runE_zero.1 hE0).2.2
 refine T.rg (TO.q (q_la 0 underlying25 rfl inf25 rfl rfl rfl) (TO.q (q_build (cs := [(vI d.vars), (vI d.start), (.slice nb d.next.length nc), (.slice fb d.final.length fc)]) plan127 inf127 (by kernel_rfl)) (TO.q (q_makeFunc) (TO.qa rfl (TO.nl (T.s (T.rg (TO.qm rfl (TO.qm rfl ?_)))))))))
 have hk26 := CallV.of_fn (first := [.agg (dfaCells d nb nc fb fc).toArray]) (args := [.slice wb l.length wc]) (caps := []) ent97 (CallT.op (fun w1 (hI : Inv w [oI b1 25 [(vI d.vars), (vI d.start), (.slice nb d.next.length nc), (.slice fb d.final.length fc)]] w1) => haveI := Inv.tab (P := Tryz.prog) hI; runM w1 d nb fb nc fc vs (hI.dfa h) hv wb wc l (hI.sl hW) hwb hwd))
 refine TO.l rfl (l_callG hk26 rfl rfl ?_)
 clear hk26
 rintro v O' ⟨N, rfl, rfl, rfl⟩
 refine TO.qa rfl (TO.qa rfl (TO.nl (T.ret (Res.drop ?_))))
 refine Res.two (vI ((Lx.runN d d.start.toNat l : Nat) : Int)) (vI 0) Tryz.results70 rfl rfl ?_
 have hE1 := hE0
 exact ⟨[], Sub.of (List.nil_sublist _), by unfold runV; rw [if_pos hE0, hE1]; try rfl, rfl⟩
theorem acceptsA (w : World) [Tab Tryz.prog w] (d : DFA) (nb fb : Option Addr) (nc fc : Nat) (vs : List Value) (h : DfaAt w d nb vs fb) (hb : d.next.length < 9223372036854775807) (hbr : ∀ r ∈ d.next, r.length < 9223372036854775807) (hbf : d.final.length < 9223372036854775807) (wb : Option Addr) (wc : Nat) (l : List Nat) (hW : Sl w wb (byts l)) (hwb : l.length < 9223372036854775807) (hw8 : ∀ x ∈ l, x < 256) :
  PureT Tryz.prog 32 [.agg (dfaCells d nb nc fb fc).toArray, .slice wb l.length wc] w fun v N => v = .tuple #[.bool (accV d l), vI ((runE d l : Nat) : Int)] ∧ N = [] := by
 refine CallT.enter func32 rfl ntmps32 rfl ?_
 refine T.s (T.rg (TO.l rfl (l_box (v := (.agg #[(vI d.vars), (vI d.start), (.slice nb d.next.length nc), (.slice fb d.final.length fc)])) (cs := [(vI d.vars), (vI d.start), (.slice nb d.next.length nc), (.slice fb d.final.length fc)]) rfl rfl (fun b1 => ?_))))
 refine TO.qa rfl (TO.qa rfl (TO.nl (T.s (T.rg (TO.q (q_la 0 underlying25 rfl inf25 rfl rfl rfl) (TO.qm rfl ?_))))))
 have hk11 := fun (w1 : World) (hI : Inv w [oI b1 25 [(vI d.vars), (vI d.start), (.slice nb d.next.length nc), (.slice fb d.final.length fc)]] w1) => (haveI := Inv.tab (P := Tryz.prog) hI; runA w1 d nb fb nc fc vs (hI.dfa h) hb hbr hbf wb wc l (hI.sl hW) hwb hw8)
 refine TO.l rfl (l_call ent70 (CallT.op hk11) rfl ?_)
 clear hk11
 rintro v O' ⟨N, rfl, rfl, rfl⟩
 refine TO.qm rfl (TO.q (q_extract (vs := _) rfl rfl) (TO.q (q_extract (vs := _) rfl rfl) (TO.qa rfl (TO.qa rfl (TO.nl (T.s ?_))))))
 have hfin : runE d l = 0 → runV d l < d.final.length := fun h0 => by
  obtain ⟨hv, _, hwd⟩ := runE_zero.1 h0
  unfold runV; rw [if_pos h0, hv.fin]
  exact runN_lt hv.toVal (by have := hv.s0; have := hv.s1; omega) _ hwd
 refine T.rg (TO.qm rfl ?_)
 by_cases h0 : ((runE d l : Nat) : Int) = 0
 ·refine TO.q (QT.toB (q_eql rfl rfl) (decide_eq_true h0)) ?_
  refine TO.qm rfl (TO.gq rfl rfl (q_fa underlying25 rfl inf23 rfl rfl) (TO.gq rfl rfl (q_lb 0 underlying23 rfl rfl rfl rfl) (TO.gq rfl rfl (q_move rfl) (TO.gq rfl rfl (q_ix (i := (runV d l)) underlying23 inf4 rfl rfl (Sl.o h.final) (hfin (by omega)) (by rw [List.length_map]; exact hfin (by omega))) (TO.gq rfl rfl (q_ld underlying4 rfl rfl (Sl.o h.final) (show (bools d.final)[runV d l]? = some (.bool (finN d (runV d l))) by rw [bools_get (hfin (by omega))]; simp [finN, hfin (by omega)])) (TO.q (q_pick1 rfl rfl) (TO.qm rfl (TO.qa rfl (TO.qa rfl (TO.nl (T.ret (Res.drop ?_))))))))))))
  refine Res.two (.bool (finN d (runV d l))) (vI ((runE d l : Nat) : Int)) Tryz.results32 rfl rfl ?_
  have h9 : runE d l = 0 := by omega
  exact ⟨[], Sub.of (List.nil_sublist _), by unfold accV runV; rw [if_pos h9, if_pos h9], rfl⟩
 refine TO.q (QT.toB (q_eql rfl rfl) (decide_eq_false h0)) (TO.qm rfl (TO.pd rfl rfl (TO.pd rfl rfl (TO.pd rfl rfl (TO.pd rfl rfl (TO.pd rfl rfl (TO.q (q_pick0 rfl rfl) (TO.qm rfl (TO.qa rfl (TO.qa rfl (TO.nl (T.ret (Res.drop ?_)))))))))))))
 refine Res.two (.bool false) (vI ((runE d l : Nat) : Int)) Tryz.results32 rfl rfl ?_
 have h9 : ¬ runE d l = 0 := by omega
 exact ⟨[], Sub.of (List.nil_sublist _), by unfold accV; rw [if_neg h9], rfl⟩
end Go.Proofs.YtohkmggbfcnapaaGreatDoor


namespace Go.Lx
theorem HasL.accW {n : Int} {N : Nat} {d : DFA} {p : List Nat → Bool} (h : HasL n N d p) {w : List Nat} (hw : WdV n w) (hl : w.length ≤ 64) : Lx.accV d w = p w := by
 have e : runE d w = 0 := runE_zero.2 ⟨h.valid, hl, h.wd.2 hw⟩
 rw [accV_zero e, h.acc w hw]
def exZ : DFA := ⟨1, 0, [[2, 1], [2, 2], [2, 2]], [false, true, false]⟩
theorem exZ_ok : checkD exZ = 0 := by decide
theorem exZ_valid : Valid exZ := checkD_zero.1 exZ_ok
theorem hX : HasL 2 8 exX (acc exX) := HasL.of exX_valid (by decide)
theorem hZ : HasL 1 8 exZ (acc exZ) := HasL.of exZ_valid (by decide)
theorem aw_vE : vE exX 0 = 0 := by decide
theorem aw_xsE : xsE exX 0 16 = 0 := by decide +kernel
theorem HasL.few {n : Int} {d : DFA} {p : List Nat → Bool} (h : HasL n 8 d p) : HasL n 64 d p := ⟨h.valid, Nat.le_trans h.len (by decide), h.vars, h.acc⟩
theorem aw_xs : MinL 2 16 (xsV exX 0 16) (exP 0 (acc exX)) := MinL.xsV hX.few (Nat.le_refl _) aw_xsE
theorem wd1 {x : Nat} (hx : x < 4) : WdV 2 [x] := fun y hy => by
 have := List.mem_singleton.1 hy; subst this; exact hx
theorem aw_smX : ∀ x, x < 4 → smF exX 0 1 [x] 0 = true := by decide
theorem run1 {x : Nat} (hx : x < 4) : runE exX [x] = 0 := runE_zero.2 ⟨exX_valid, by simp, hX.wd.2 (wd1 hx)⟩
theorem aw_some {x : Nat} (hx : x < 4) : accV (xsV exX 0 16) [x] = true := by
 rw [(xs_some hX (v := 0) (by decide) aw_xs.toHasL (run1 hx)).2]; exact aw_smX x hx
theorem aw_none : accV (xsV exX 0 16) [] = false := by
 rw [(xs_some hX (v := 0) (by decide) aw_xs.toHasL (w := []) (runE_zero.2 ⟨exX_valid, by simp, fun x h => by cases h⟩)).2]; decide
theorem nX : MinL 2 8 (minD (flipD exX)) (fun w => !acc exX w) := hX.nV
theorem aw_n16 (i : Nat) : (psN (minD (flipD exX)) 0 i).length ≤ 8 := by
 have hv := nX.valid
 have hl : (minD (flipD exX)).next.length ≤ 3 := minD_len (flip_val exX_valid.toVal)
 refine nodup_bound (gq_nodup _ _ i) fun w hw => ?_
 have := (psN_gd hv.toVal (by omega) (v := 0) (by rw [nX.vars]; decide) i w hw).lt
 exact Nat.lt_of_lt_of_le this (Nat.le_trans (Nat.pow_le_pow_right (by decide) hl) (by decide))
theorem aw_nE : xsE (minD (flipD exX)) 0 16 = 0 := by
 have h0 : vE (minD (flipD exX)) 0 = 0 := vE_of nX.toHasL (by decide) (by decide)
 have := aw_n16 ((16 : Int).toNat + 1)
 unfold xsE
 rw [if_neg (by omega), if_neg (by omega), if_neg (by simp only [Int.toNat_zero]; omega)]
theorem aw_alE : alE exX 0 16 = 0 := by rw [alE_ok hX]; exact aw_nE
theorem aw_al : MinL 2 16 (alV exX 0 16) (fun w => !exP 0 (fun w => !acc exX w) w) := by
 have hm := MinL.xsV nX.toHasL.few (Nat.le_refl _) aw_nE
 unfold alV
 rw [if_pos aw_alE]
 exact hm.toHasL.nV
theorem aw_empty : ∀ w, WdV 2 w → (!exP 0 (fun w => !acc exX w) w) = false := fun w hw => by
 suffices h : ∃ z, Vari 0 w z ∧ acc exX z = false by
  obtain ⟨z, h1, h2⟩ := h
  have : exP 0 (fun w => !acc exX w) w = true := exP_iff.2 ⟨z, h1, by show (!acc exX z) = true; rw [h2]; rfl⟩
  rw [this]; rfl
 match w, hw with
 | [], _ => exact ⟨[], trivial, by decide⟩
 | [x], hw =>
  have hx : x < 4 := hw x (by simp)
  have : x = 0 ∨ x = 1 ∨ x = 2 ∨ x = 3 := by omega
  rcases this with rfl | rfl | rfl | rfl
  ·exact ⟨[0], ⟨by decide, trivial⟩, by decide⟩
  ·exact ⟨[0], ⟨by decide, trivial⟩, by decide⟩
  ·exact ⟨[3], ⟨by decide, trivial⟩, by decide⟩
  ·exact ⟨[3], ⟨by decide, trivial⟩, by decide⟩
 | x :: y :: u, hw =>
  refine ⟨x :: y :: u, Vari.refl (by decide) (hX.l64 hw), ?_⟩
  cases ha : acc exX (x :: y :: u) with
  | false => rfl
  | true => have := exX_words (hX.wd.2 hw) ha; simp only [List.length_cons] at this; omega
theorem aw_one : (alV exX 0 16).next.length = 1 := (aw_al.empty.2 aw_empty).1
theorem aw_every {x : Nat} (hx : x < 4) : accV (alV exX 0 16) [x] = false := by
 rw [aw_al.toHasL.accW (wd1 hx) (by simp)]; exact aw_empty _ (wd1 hx)
theorem aw_ig : igV exX 0 = false := by
 cases h : igV exX 0 with
 | false => rfl
 | true =>
  have h1 := (igV_iff hX aw_vE).1 h [0] [1] (wd1 (by decide)) ⟨by decide, trivial⟩
  exact absurd h1 (by decide)
theorem aw_drE : drE exX 0 = 7 := (drE_no aw_vE aw_ig).1
theorem aw_inE : inE2 exZ 0 = 0 := by decide
theorem aw_in : MinL 2 8 (inV exZ 0) (fun w => acc exZ (w.map (cut 0))) := (in_has hZ aw_inE).2.2.2
theorem aw_inA {x : Nat} (hx : x < 4) : accV (inV exZ 0) [x] = decide (x > 1) := by
 rw [aw_in.toHasL.accW (wd1 hx) (by simp)]
 have : ∀ x, x < 4 → acc exZ ([x].map (cut 0)) = decide (x > 1) := by decide
 exact this x hx
theorem aw_rnE : rnE exX [1, 0] = 0 := rnE_zero.2 ⟨exX_valid, by decide, by decide, by decide⟩
theorem aw_rn : MinL 2 8 (rnV exX [1, 0]) (fun w => acc exX (w.map fun y => imF (natL [1, 0]) y 2)) := (rn_has hX aw_rnE).2.2.2
theorem aw_rnA {x : Nat} (hx : x < 4) : accV (rnV exX [1, 0]) [x] = accV exX [x] := by
 rw [aw_rn.toHasL.accW (wd1 hx) (by simp), hX.accW (wd1 hx) (by simp)]
 have : ∀ x, x < 4 → acc exX ([x].map fun y => imF (natL [1, 0]) y 2) = acc exX [x] := by decide
 exact this x hx
end Go.Lx


namespace Go.Proofs.YtohkmggbfcnapaaGreatDoor
open Go.Lx Go.RowKit _root_.Go.Proofs.Tryz
theorem accF (w : World) [Tab Tryz.prog w] (a : DFA) (j : DK) (ha : At w a j) (haa : a.next.length < 9223372036854775807) (haar : ∀ r ∈ a.next, r.length < 9223372036854775807) (haaf : a.final.length < 9223372036854775807) (wb : Option Addr) (wc : Nat) (l : List Nat) (hW : Sl w wb (byts l)) (hwb : l.length < 9223372036854775807) (hw8 : ∀ x ∈ l, x < 256) :
  PureT Tryz.prog 38 [dV a j, .slice wb l.length wc] w fun v N => v = .bool (accV a l) ∧ N = [] := by
 refine CallT.enter func38 rfl ntmps38 rfl ?_
 refine T.s (T.rg (TO.l rfl (l_box (v := (dV a j)) (cs := (dC a j)) rfl rfl (fun bx1 => ?_))))
 refine TO.qa rfl (TO.nl (T.s (T.rg (TO.q (q_la 0 uT25 rfl inf25 rfl rfl rfl) (TO.qm rfl ?_)))))
 have hk10 := fun (w1 : World) (hI : Inv w [oI bx1 25 (dC a j)] w1) => (haveI := tbz hI; acceptsA w1 a j.nb j.fb j.nc j.fc (vals j.qs) (hI.dfa ha) haa haar haaf wb wc l (hI.sl hW) hwb hw8)
 refine TO.l rfl (l_call ent32 (CallT.op hk10) rfl ?_)
 clear hk10
 rintro vr O' ⟨N, rfl, rfl, rfl⟩
 refine TO.qm rfl (TO.q (q_extract (vs := _) rfl rfl) (TO.q (q_extract (vs := _) rfl rfl) (TO.qa rfl (TO.qa rfl (TO.nl (T.s (T.rg (TO.qm rfl ?_))))))))
 by_cases hs14 : (accV a l) = true
 ·refine TO.q (QT.toB (q_move rfl) (hs14)) ?_
  refine TO.gq rfl rfl (q_move rfl) (TO.gq rfl rfl (q_eql rfl rfl) (TO.q (q_pick1 rfl rfl) (TO.qa rfl (TO.nl (T.ret (Res.drop ?_))))))
  refine Res.one (.bool (decide ((runE a l : Int) = 0))) Tryz.results38 rfl ?_
  exact ⟨[], Sub.z, congrArg Value.bool (by
   by_cases he : runE a l = 0
   ·simp_all
   ·have h9 : accV a l = false := by unfold accV; rw [if_neg he]
    simp_all), rfl⟩
 refine TO.q (QT.toB (q_move rfl) (Bool.eq_false_iff.2 hs14)) (TO.pd rfl rfl (TO.pd rfl rfl (TO.q (q_pick0 rfl rfl) (TO.qa rfl (TO.nl (T.ret (Res.drop ?_)))))))
 refine Res.one (.bool false) Tryz.results38 rfl ?_
 exact ⟨[], Sub.z, congrArg Value.bool (by
  by_cases he : runE a l = 0
  ·simp_all
  ·have h9 : accV a l = false := by unfold accV; rw [if_neg he]
   simp_all), rfl⟩
theorem exactlyK (w : World) [Tab Tryz.prog w] : PureT Tryz.prog 30 [] w fun v N => ∃ k' : DK, v = dV exX k' ∧ N = [dI 37 4 3 exX k'] := by
 refine CallT.enter func30 rfl ntmps30 rfl ?_
 refine T.s (T.rg (TO.l rfl (l_alloc inf25 rfl (fun z1 => ?_))))
 refine TO.nl (T.s (T.rg (TO.l rfl (l_buildSlice (m := 4) (parts := [(0, .const (vI 2)), (1, .const (vI 1)), (2, .const (vI 1)), (3, .const (vI 2))]) (cs := [vI 2, vI 1, vI 1, vI 2]) uT37 inf3 (by decide) (by kernel_rfl) rfl (fun z2 => ?_)))))
 refine TO.l rfl (l_buildSlice (m := 4) (parts := [(0, .const (vI 2)), (1, .const (vI 2)), (2, .const (vI 2)), (3, .const (vI 2))]) (cs := [vI 2, vI 2, vI 2, vI 2]) uT37 inf3 (by decide) (by kernel_rfl) rfl (fun z3 => ?_))
 refine TO.l rfl (l_buildSlice (m := 4) (parts := [(0, .const (vI 2)), (1, .const (vI 2)), (2, .const (vI 2)), (3, .const (vI 2))]) (cs := [vI 2, vI 2, vI 2, vI 2]) uT37 inf3 (by decide) (by kernel_rfl) rfl (fun z4 => ?_))
 refine TO.l rfl (l_buildSlice (m := 3) (parts := [(0, .tmp 1), (1, .tmp 2), (2, .tmp 3)]) (cs := [(.slice (aD z2) 4 4), (.slice (aD z3) 4 4), (.slice (aD z4) 4 4)]) uT22 inf37 (by decide) (by kernel_rfl) rfl (fun z5 => ?_))
 refine TO.l rfl (l_buildSlice (m := 3) (parts := [(0, .const (.bool false)), (1, .const (.bool true)), (2, .const (.bool false))]) (cs := [.bool false, .bool true, .bool false]) uT23 inf4 (by decide) (by kernel_rfl) rfl (fun z6 => ?_))
 refine TO.q (q_build (cs := [vI 2, (vI 0), (.slice (aD z5) 3 3), (.slice (aD z6) 3 3)]) plan25 inf25 (by kernel_rfl)) (TO.l rfl (l_sb (v := (.agg #[vI 2, (vI 0), (.slice (aD z5) 3 3), (.slice (aD z6) 3 3)])) (vs := [vI 2, (vI 0), (.slice (aD z5) 3 3), (.slice (aD z6) 3 3)]) 5 inf25 rfl rfl rfl rfl rfl rfl (by simp [putL]) ?_))
 refine TO.nl ?_
 refine T.sub (O' := [rowI (aD z5) 3 37 1 [(.slice (aD z2) 4 4), (.slice (aD z3) 4 4), (.slice (aD z4) 4 4)], rowI (aD z6) 3 4 1 [.bool false, .bool true, .bool false], rowI (aD z2) 4 3 1 [vI 2, vI 1, vI 1, vI 2], rowI (aD z3) 4 3 1 [vI 2, vI 2, vI 2, vI 2], rowI (aD z4) 4 3 1 [vI 2, vI 2, vI 2, vI 2], oI z1 25 [vI 2, (vI 0), (.slice (aD z5) 3 3), (.slice (aD z6) 3 3)]]) (by exact Sub.pull [rowI (aD z6) 3 4 1 [.bool false, .bool true, .bool false]] _ (.k (.pull [rowI (aD z4) 4 3 1 [vI 2, vI 2, vI 2, vI 2], rowI (aD z3) 4 3 1 [vI 2, vI 2, vI 2, vI 2]] _ (.pull [rowI (aD z4) 4 3 1 [vI 2, vI 2, vI 2, vI 2]] _ (.k (.k .z)))))) ?_
 obtain ⟨k0, hk0⟩ : ∃ k : DK, k = ⟨some ⟨z5, 0, none⟩, 3, some ⟨z6, 0, none⟩, 3, [⟨some ⟨z2, 0, none⟩, 4, [2, 1, 1, 2]⟩, ⟨some ⟨z3, 0, none⟩, 4, [2, 2, 2, 2]⟩, ⟨some ⟨z4, 0, none⟩, 4, [2, 2, 2, 2]⟩]⟩ := ⟨_, rfl⟩
 refine T.sub (O' := (([rowI k0.nb k0.nc 37 1 (vals k0.qs), rowI k0.fb k0.fc 4 1 (bools exX.final)] ++ itms 3 k0.qs) ++ [oI z1 25 [vI 2, (vI 0), (.slice (aD z5) 3 3), (.slice (aD z6) 3 3)]])) (by subst hk0; exact Sub.rf) ?_
 refine T.pack (φ := nums k0.qs = exX.next) (by subst hk0; rfl) ?_
 refine T.sub (O' := [dI 37 4 3 exX k0, oI z1 25 (dC exX k0)]) (by subst hk0; exact Sub.rf) ?_
 refine T.ret (Res.drop ?_)
 refine Res.cell1 (i := 1) Tryz.results30 uT25 rfl inf25 rfl rfl rfl ?_
 exact ⟨[dI 37 4 3 exX k0], (by exact Sub.k .z), k0, rfl, rfl⟩
end Go.Proofs.YtohkmggbfcnapaaGreatDoor


namespace Go.Proofs.YtohkmggbfcnapaaGreatDoor
open Go.Lx Go.RowKit _root_.Go.Proofs.Tryz
theorem awakeC (w : World) [Tab Tryz.prog w] : PureT Tryz.prog 11 [] w fun v N => v = .bool true ∧ N = [] := by
 refine CallT.enter func11 rfl ntmps11 rfl ?_
 obtain ⟨X, eX⟩ : ∃ m, xsV exX 0 16 = m := ⟨_, rfl⟩
 obtain ⟨Y, eY⟩ : ∃ m, alV exX 0 16 = m := ⟨_, rfl⟩
 obtain ⟨Mi, eM⟩ : ∃ m, inV exZ 0 = m := ⟨_, rfl⟩
 obtain ⟨R, eR⟩ : ∃ m, rnV exX [1, 0] = m := ⟨_, rfl⟩
 have fX := fun x (h : x < 4) => @aw_some x h
 have fY := fun x (h : x < 4) => @aw_every x h
 have fM := fun x (h : x < 4) => @aw_inA x h
 have fR := fun x (h : x < 4) => @aw_rnA x h
 have fN := aw_none
 have f1 := aw_one
 have bX := min_bounds aw_xs.toHasL
 have bY := min_bounds aw_al.toHasL
 have bM := min_bounds aw_in.toHasL
 have bR := min_bounds aw_rn.toHasL
 have bE := min_bounds hX
 have bZ := min_bounds hZ
 rw [eX] at fX fN bX
 rw [eY] at fY f1 bY
 rw [eM] at fM bM
 rw [eR] at fR bR
 refine T.s (T.rg (TO.qa rfl (TO.nl (T.s (T.rg ?_)))))
 have hk17 := fun (w1 : World) (hI : Inv w [] w1) => (haveI := tbz hI; exactlyK w1)
 refine TO.l rfl (l_call ent30 (CallT.op hk17) rfl ?_)
 clear hk17
 rintro vr O' ⟨N, rfl, k0, rfl, rfl⟩
 refine TO.l rfl (l_alloc inf25 rfl (fun z1 => ?_))
 refine TO.l rfl (l_sb (v := (dV exX k0)) (vs := (dC exX k0)) 0 inf25 rfl rfl rfl rfl rfl rfl (by simp [putL]) ?_)
 refine TO.sub (O' := [oI z1 25 (dC exX k0), dI 37 4 3 exX k0]) (by exact Sub.rf) ?_
 refine TO.nl (T.s (T.rg (TO.q (q_la 0 uT25 rfl inf25 rfl rfl rfl) ?_)))
 have hk20 := fun (w1 : World) (hI : Inv w [oI z1 25 (dC exX k0), dI 37 4 3 exX k0] w1) => (haveI := tbz hI; (show PureT _ _ _ _ _ from by
   have h9 := exC w1 exX k0 (hI.at (k := k0) (mG 1 rfl)) 0 16 bE.1 bE.2.1 bE.2.2 (fun _ => by decide)
   rw [eX, aw_xsE] at h9
   exact h9))
 refine TO.l rfl (l_call ent16 (CallT.op hk20) rfl ?_)
 clear hk20
 rintro vr O' ⟨N, rfl, k1, rfl, rfl⟩
 refine TO.qm rfl (TO.q (q_extract (vs := _) rfl rfl) (TO.q (q_extract (vs := _) rfl rfl) (TO.l rfl (l_alloc inf25 rfl (fun z2 => ?_)))))
 refine TO.l rfl (l_sb (v := (dV X k1)) (vs := (dC X k1)) 0 inf25 rfl rfl rfl rfl rfl rfl (by simp [putL]) ?_)
 refine TO.qa rfl ?_
 refine TO.sub (O' := [oI z2 25 (dC X k1), oI z1 25 (dC exX k0), dI 37 4 3 X k1, dI 37 4 3 exX k0]) (by exact Sub.k (.pull [dI 37 4 3 X k1] _ (.k (.k .z)))) ?_
 refine TO.nl ?_
 refine T.reset [oI z2 25 (dC X k1), oI z1 25 (dC exX k0), dI 37 4 3 X k1, dI 37 4 3 exX k0] [(0, .bool false), (1, (.pointer (aD z1))), (2, (.pointer (aD z2))), (3, vI 0)] rfl ⟨rfl, rfl, rfl, rfl, trivial⟩ (fun ρ0 => ?_)
 refine T.s (T.rg (TO.q (q_la 1 uT25 rfl inf25 rfl rfl rfl) ?_))
 have hk25 := fun (w1 : World) (hI : Inv w [oI z2 25 (dC X k1), oI z1 25 (dC exX k0), dI 37 4 3 X k1, dI 37 4 3 exX k0] w1) => (haveI := tbz hI; (show PureT _ _ _ _ _ from by
   have h9 := alC w1 exX k0 (hI.at (k := k0) (mG 3 rfl)) 0 16 bE.1 bE.2.1 bE.2.2 (fun _ => by decide)
   rw [eY, aw_alE] at h9
   exact h9))
 refine TO.l rfl (l_call ent17 (CallT.op hk25) rfl ?_)
 clear hk25
 rintro vr O' ⟨N, rfl, k2, rfl, rfl⟩
 refine TO.qm rfl (TO.q (q_extract (vs := _) rfl rfl) (TO.q (q_extract (vs := _) rfl rfl) (TO.l rfl (l_alloc inf25 rfl (fun z3 => ?_)))))
 refine TO.l rfl (l_sb (v := (dV Y k2)) (vs := (dC Y k2)) 0 inf25 rfl rfl rfl rfl rfl rfl (by simp [putL]) ?_)
 refine TO.qa rfl ?_
 refine TO.sub (O' := [oI z3 25 (dC Y k2), oI z2 25 (dC X k1), oI z1 25 (dC exX k0), dI 37 4 3 Y k2, dI 37 4 3 X k1, dI 37 4 3 exX k0]) (by exact Sub.k (.pull [dI 37 4 3 Y k2] _ (.pull [dI 37 4 3 Y k2] _ (.k (.k (.k .z)))))) ?_
 refine TO.nl (T.s (T.rg (TO.q (q_la 2 uT25 rfl inf25 rfl rfl rfl) ?_)))
 have hk30 := fun (w1 : World) (hI : Inv w [oI z3 25 (dC Y k2), oI z2 25 (dC X k1), oI z1 25 (dC exX k0), dI 37 4 3 Y k2, dI 37 4 3 X k1, dI 37 4 3 exX k0] w1) => (haveI := tbz hI; (show PureT _ _ _ _ _ from by
   have h9 := ignC w1 exX k0 (hI.at (k := k0) (mG 5 rfl)) bE.1 bE.2.1 bE.2.2 0
   rw [aw_ig, aw_vE] at h9
   exact h9))
 refine TO.l rfl (l_call ent18 (CallT.op hk30) rfl ?_)
 clear hk30
 rintro vr O' ⟨N, rfl, rfl, rfl⟩
 refine TO.qm rfl (TO.q (q_extract (vs := _) rfl rfl) (TO.q (q_extract (vs := _) rfl rfl) (TO.qa rfl (TO.qa rfl ?_))))
 refine TO.sub (O' := [oI z3 25 (dC Y k2), oI z2 25 (dC X k1), oI z1 25 (dC exX k0), dI 37 4 3 Y k2, dI 37 4 3 X k1, dI 37 4 3 exX k0]) (by exact Sub.rf) ?_
 refine TO.nl ?_
 refine T.reset [oI z3 25 (dC Y k2), oI z2 25 (dC X k1), oI z1 25 (dC exX k0), dI 37 4 3 Y k2, dI 37 4 3 X k1, dI 37 4 3 exX k0] [(0, .bool false), (1, (.pointer (aD z1))), (2, (.pointer (aD z2))), (3, vI 0), (4, (.pointer (aD z3))), (5, vI 0), (6, .bool false), (7, vI 0)] rfl (.of rfl) (fun ρ0 => ?_)
 refine T.s (T.rg (TO.q (q_la 2 uT25 rfl inf25 rfl rfl rfl) ?_))
 have hk35 := fun (w1 : World) (hI : Inv w [oI z3 25 (dC Y k2), oI z2 25 (dC X k1), oI z1 25 (dC exX k0), dI 37 4 3 Y k2, dI 37 4 3 X k1, dI 37 4 3 exX k0] w1) => (haveI := tbz hI; (show PureT _ _ _ _ _ from by
   have h9 := drC w1 exX k0 (hI.at (k := k0) (mG 5 rfl)) bE.1 bE.2.1 bE.2.2 0
   rw [aw_drE] at h9
   exact h9))
 refine TO.l rfl (l_call ent26 (CallT.op hk35) rfl ?_)
 clear hk35
 rintro vr O' ⟨N, rfl, k3, rfl, rfl⟩
 refine TO.qm rfl (TO.q (q_extract (vs := _) rfl rfl) (TO.q (q_extract (vs := _) rfl rfl) (TO.l rfl (l_alloc inf25 rfl (fun z4 => ?_)))))
 refine TO.l rfl (l_sb (v := (dV (drV exX 0) k3)) (vs := (dC (drV exX 0) k3)) 0 inf25 rfl rfl rfl rfl rfl rfl (by simp [putL]) ?_)
 refine TO.qa rfl ?_
 refine TO.sub (O' := [oI z4 25 (dC (drV exX 0) k3), oI z3 25 (dC Y k2), oI z2 25 (dC X k1), oI z1 25 (dC exX k0), dI 37 4 3 (drV exX 0) k3, dI 37 4 3 Y k2, dI 37 4 3 X k1, dI 37 4 3 exX k0]) (by exact Sub.k (.pull [dI 37 4 3 (drV exX 0) k3] _ (.pull [dI 37 4 3 (drV exX 0) k3] _ (.pull [dI 37 4 3 (drV exX 0) k3] _ (.k (.k (.k (.k .z)))))))) ?_
 refine TO.nl (T.s (T.rg (TO.l rfl (l_buildSlice (m := 2) (parts := [(0, .const (vI 2)), (1, .const (vI 1))]) (cs := [vI 2, vI 1]) uT37 inf3 (by decide) (by kernel_rfl) rfl (fun z5 => ?_)))))
 refine TO.l rfl (l_buildSlice (m := 2) (parts := [(0, .const (vI 2)), (1, .const (vI 2))]) (cs := [vI 2, vI 2]) uT37 inf3 (by decide) (by kernel_rfl) rfl (fun z6 => ?_))
 refine TO.l rfl (l_buildSlice (m := 2) (parts := [(0, .const (vI 2)), (1, .const (vI 2))]) (cs := [vI 2, vI 2]) uT37 inf3 (by decide) (by kernel_rfl) rfl (fun z7 => ?_))
 refine TO.l rfl (l_buildSlice (m := 3) (parts := [(0, .tmp 38), (1, .tmp 39), (2, .tmp 40)]) (cs := [(.slice (aD z5) 2 2), (.slice (aD z6) 2 2), (.slice (aD z7) 2 2)]) uT22 inf37 (by decide) (by kernel_rfl) rfl (fun z8 => ?_))
 refine TO.l rfl (l_buildSlice (m := 3) (parts := [(0, .const (.bool false)), (1, .const (.bool true)), (2, .const (.bool false))]) (cs := [.bool false, .bool true, .bool false]) uT23 inf4 (by decide) (by kernel_rfl) rfl (fun z9 => ?_))
 refine TO.q (q_build (cs := [vI 1, (vI 0), (.slice (aD z8) 3 3), (.slice (aD z9) 3 3)]) plan25 inf25 (by kernel_rfl)) (TO.l rfl (l_alloc inf25 rfl (fun z10 => ?_)))
 refine TO.l rfl (l_sb (v := (.agg #[vI 1, (vI 0), (.slice (aD z8) 3 3), (.slice (aD z9) 3 3)])) (vs := [vI 1, (vI 0), (.slice (aD z8) 3 3), (.slice (aD z9) 3 3)]) 0 inf25 rfl rfl rfl rfl rfl rfl (by simp [putL]) ?_)
 refine TO.nl ?_
 refine T.sub (O' := [rowI (aD z8) 3 37 1 [(.slice (aD z5) 2 2), (.slice (aD z6) 2 2), (.slice (aD z7) 2 2)], rowI (aD z9) 3 4 1 [.bool false, .bool true, .bool false], rowI (aD z5) 2 3 1 [vI 2, vI 1], rowI (aD z6) 2 3 1 [vI 2, vI 2], rowI (aD z7) 2 3 1 [vI 2, vI 2], oI z10 25 [vI 1, (vI 0), (.slice (aD z8) 3 3), (.slice (aD z9) 3 3)], oI z4 25 (dC (drV exX 0) k3), oI z3 25 (dC Y k2), oI z2 25 (dC X k1), oI z1 25 (dC exX k0), dI 37 4 3 (drV exX 0) k3, dI 37 4 3 Y k2, dI 37 4 3 X k1, dI 37 4 3 exX k0]) (by exact Sub.pull [oI z10 25 [vI 1, (vI 0), (.slice (aD z8) 3 3), (.slice (aD z9) 3 3)], rowI (aD z9) 3 4 1 [.bool false, .bool true, .bool false]] _ (.pull [oI z10 25 [vI 1, (vI 0), (.slice (aD z8) 3 3), (.slice (aD z9) 3 3)]] _ (.pull [oI z10 25 [vI 1, (vI 0), (.slice (aD z8) 3 3), (.slice (aD z9) 3 3)], rowI (aD z7) 2 3 1 [vI 2, vI 2], rowI (aD z6) 2 3 1 [vI 2, vI 2]] _ (.pull [oI z10 25 [vI 1, (vI 0), (.slice (aD z8) 3 3), (.slice (aD z9) 3 3)], rowI (aD z7) 2 3 1 [vI 2, vI 2]] _ (.pull [oI z10 25 [vI 1, (vI 0), (.slice (aD z8) 3 3), (.slice (aD z9) 3 3)]] _ (.k (.k (.k (.k (.k (.k (.k (.k (.k .z)))))))))))))) ?_
 obtain ⟨kz, hkz⟩ : ∃ k : DK, k = ⟨some ⟨z8, 0, none⟩, 3, some ⟨z9, 0, none⟩, 3, [⟨some ⟨z5, 0, none⟩, 2, [2, 1]⟩, ⟨some ⟨z6, 0, none⟩, 2, [2, 2]⟩, ⟨some ⟨z7, 0, none⟩, 2, [2, 2]⟩]⟩ := ⟨_, rfl⟩
 refine T.sub (O' := (([rowI kz.nb kz.nc 37 1 (vals kz.qs), rowI kz.fb kz.fc 4 1 (bools exZ.final)] ++ itms 3 kz.qs) ++ [oI z10 25 [vI 1, (vI 0), (.slice (aD z8) 3 3), (.slice (aD z9) 3 3)], oI z4 25 (dC (drV exX 0) k3), oI z3 25 (dC Y k2), oI z2 25 (dC X k1), oI z1 25 (dC exX k0), dI 37 4 3 (drV exX 0) k3, dI 37 4 3 Y k2, dI 37 4 3 X k1, dI 37 4 3 exX k0])) (by subst hkz; exact Sub.rf) ?_
 refine T.pack (φ := nums kz.qs = exZ.next) (by subst hkz; rfl) ?_
 refine T.sub (O' := [dI 37 4 3 exZ kz, oI z10 25 (dC exZ kz), oI z4 25 (dC (drV exX 0) k3), oI z3 25 (dC Y k2), oI z2 25 (dC X k1), oI z1 25 (dC exX k0), dI 37 4 3 (drV exX 0) k3, dI 37 4 3 Y k2, dI 37 4 3 X k1, dI 37 4 3 exX k0]) (by subst hkz; exact Sub.rf) ?_
 refine T.reset [dI 37 4 3 exZ kz, oI z10 25 (dC exZ kz), oI z4 25 (dC (drV exX 0) k3), oI z3 25 (dC Y k2), oI z2 25 (dC X k1), oI z1 25 (dC exX k0), dI 37 4 3 (drV exX 0) k3, dI 37 4 3 Y k2, dI 37 4 3 X k1, dI 37 4 3 exX k0] [(0, .bool false), (1, (.pointer (aD z1))), (2, (.pointer (aD z2))), (3, vI 0), (4, (.pointer (aD z3))), (5, vI 0), (6, .bool false), (7, vI 0), (8, (.pointer (aD z4))), (9, vI 7), (10, (.pointer (aD z10)))] rfl (.of rfl) (fun ρ0 => ?_)
 refine T.s (T.rg (TO.q (q_la 1 uT25 rfl inf25 rfl rfl rfl) ?_))
 have hk46 := fun (w1 : World) (hI : Inv w [dI 37 4 3 exZ kz, oI z10 25 (dC exZ kz), oI z4 25 (dC (drV exX 0) k3), oI z3 25 (dC Y k2), oI z2 25 (dC X k1), oI z1 25 (dC exX k0), dI 37 4 3 (drV exX 0) k3, dI 37 4 3 Y k2, dI 37 4 3 X k1, dI 37 4 3 exX k0] w1) => (haveI := tbz hI; (show PureT _ _ _ _ _ from by
   have h9 := insC w1 exZ kz (hI.at (k := kz) (mG 0 rfl)) bZ.1 bZ.2.1 bZ.2.2 0
   rw [eM, aw_inE] at h9
   exact h9))
 refine TO.l rfl (l_call ent27 (CallT.op hk46) rfl ?_)
 clear hk46
 rintro vr O' ⟨N, rfl, k4, rfl, rfl⟩
 refine TO.qm rfl (TO.q (q_extract (vs := _) rfl rfl) (TO.q (q_extract (vs := _) rfl rfl) (TO.l rfl (l_alloc inf25 rfl (fun z11 => ?_)))))
 refine TO.l rfl (l_sb (v := (dV Mi k4)) (vs := (dC Mi k4)) 0 inf25 rfl rfl rfl rfl rfl rfl (by simp [putL]) ?_)
 refine TO.qa rfl ?_
 refine TO.sub (O' := [oI z11 25 (dC Mi k4), oI z10 25 (dC exZ kz), oI z4 25 (dC (drV exX 0) k3), oI z3 25 (dC Y k2), oI z2 25 (dC X k1), oI z1 25 (dC exX k0), dI 37 4 3 Mi k4, dI 37 4 3 exZ kz, dI 37 4 3 (drV exX 0) k3, dI 37 4 3 Y k2, dI 37 4 3 X k1, dI 37 4 3 exX k0]) (by exact Sub.k (.pull [dI 37 4 3 Mi k4, dI 37 4 3 exZ kz] _ (.pull [dI 37 4 3 Mi k4, dI 37 4 3 exZ kz] _ (.pull [dI 37 4 3 Mi k4, dI 37 4 3 exZ kz] _ (.pull [dI 37 4 3 Mi k4, dI 37 4 3 exZ kz] _ (.pull [dI 37 4 3 Mi k4, dI 37 4 3 exZ kz] _ (.k (.k (.k (.k (.k (.k .z)))))))))))) ?_
 refine TO.nl (T.s (T.rg (TO.q (q_la 5 uT25 rfl inf25 rfl rfl rfl) (TO.l rfl (l_buildSlice (m := 2) (parts := [(0, .const (vI 1)), (1, .const (vI 0))]) (cs := [vI 1, vI 0]) uT37 inf3 (by decide) (by kernel_rfl) rfl (fun z12 => ?_))))))
 have hk52 := fun (w1 : World) (hI : Inv w [rowI (aD z12) 2 3 1 [vI 1, vI 0], oI z11 25 (dC Mi k4), oI z10 25 (dC exZ kz), oI z4 25 (dC (drV exX 0) k3), oI z3 25 (dC Y k2), oI z2 25 (dC X k1), oI z1 25 (dC exX k0), dI 37 4 3 Mi k4, dI 37 4 3 exZ kz, dI 37 4 3 (drV exX 0) k3, dI 37 4 3 Y k2, dI 37 4 3 X k1, dI 37 4 3 exX k0] w1) => (haveI := tbz hI; (show PureT _ _ _ _ _ from by
   have h9 := rnC w1 exX k0 (hI.at (k := k0) (mG 12 rfl)) bE.1 bE.2.1 bE.2.2 (aD z12) 2 [1, 0] (hI.slOf (cs := ints [1, 0]) (mG 0 rfl)) (by decide)
   rw [eR, aw_rnE] at h9
   exact h9))
 refine TO.l rfl (l_call ent28 (CallT.op hk52) rfl ?_)
 clear hk52
 rintro vr O' ⟨N, rfl, k5, rfl, rfl⟩
 refine TO.qm rfl (TO.q (q_extract (vs := _) rfl rfl) (TO.q (q_extract (vs := _) rfl rfl) (TO.l rfl (l_alloc inf25 rfl (fun z13 => ?_)))))
 refine TO.l rfl (l_sb (v := (dV R k5)) (vs := (dC R k5)) 0 inf25 rfl rfl rfl rfl rfl rfl (by simp [putL]) ?_)
 refine TO.qa rfl ?_
 refine TO.sub (O' := [oI z13 25 (dC R k5), oI z11 25 (dC Mi k4), oI z10 25 (dC exZ kz), oI z4 25 (dC (drV exX 0) k3), oI z3 25 (dC Y k2), oI z2 25 (dC X k1), oI z1 25 (dC exX k0), dI 37 4 3 R k5, dI 37 4 3 Mi k4, dI 37 4 3 exZ kz, dI 37 4 3 (drV exX 0) k3, dI 37 4 3 Y k2, dI 37 4 3 X k1, dI 37 4 3 exX k0]) (by exact Sub.k (.pull [dI 37 4 3 R k5, rowI (aD z12) 2 3 1 [vI 1, vI 0]] _ (.pull [dI 37 4 3 R k5, rowI (aD z12) 2 3 1 [vI 1, vI 0]] _ (.pull [dI 37 4 3 R k5, rowI (aD z12) 2 3 1 [vI 1, vI 0]] _ (.pull [dI 37 4 3 R k5, rowI (aD z12) 2 3 1 [vI 1, vI 0]] _ (.pull [dI 37 4 3 R k5, rowI (aD z12) 2 3 1 [vI 1, vI 0]] _ (.pull [dI 37 4 3 R k5, rowI (aD z12) 2 3 1 [vI 1, vI 0]] _ (.k (.d (.k (.k (.k (.k (.k (.k .z))))))))))))))) ?_
 refine TO.nl ?_
 refine T.reset [oI z13 25 (dC R k5), oI z11 25 (dC Mi k4), oI z10 25 (dC exZ kz), oI z4 25 (dC (drV exX 0) k3), oI z3 25 (dC Y k2), oI z2 25 (dC X k1), oI z1 25 (dC exX k0), dI 37 4 3 R k5, dI 37 4 3 Mi k4, dI 37 4 3 exZ kz, dI 37 4 3 (drV exX 0) k3, dI 37 4 3 Y k2, dI 37 4 3 X k1, dI 37 4 3 exX k0] [(0, .bool false), (1, (.pointer (aD z1))), (2, (.pointer (aD z2))), (3, vI 0), (4, (.pointer (aD z3))), (5, vI 0), (6, .bool false), (7, vI 0), (8, (.pointer (aD z4))), (9, vI 7), (10, (.pointer (aD z10))), (11, (.pointer (aD z11))), (12, vI 0), (13, (.pointer (aD z13))), (14, vI 0)] rfl (.of rfl) (fun ρ0 => ?_)
 refine T.s (T.s (T.rg (TO.qm rfl (TO.q (QT.toB (q_neq rfl rfl) (decide_eq_false (fun h => h rfl))) (TO.qm rfl (TO.gq rfl rfl (q_move rfl) (TO.gq rfl rfl (QT.toB (q_neq rfl rfl) (decide_eq_false (fun h => h rfl))) (TO.q (q_pick0 rfl rfl) (TO.qm rfl (TO.gq rfl rfl (q_move rfl) (TO.gq rfl rfl (QT.toB (q_neq rfl rfl) (decide_eq_false (fun h => h rfl))) (TO.q (q_pick0 rfl rfl) (TO.qm rfl ?_)))))))))))))
 refine TO.gq rfl rfl (q_move rfl) (TO.gq rfl rfl (QT.toB (q_neq rfl rfl) (decide_eq_false (fun h => h rfl))) (TO.q (q_pick0 rfl rfl) (TO.qm rfl (TO.gq rfl rfl (q_move rfl) (TO.gq rfl rfl (QT.toB (q_neq rfl rfl) (decide_eq_false (fun h => h rfl))) (TO.q (q_pick0 rfl rfl) (TO.qm rfl (TO.gq rfl rfl (q_move rfl) (TO.gq rfl rfl (QT.toB (q_neq rfl rfl) (decide_eq_false (fun h => h rfl))) ?_)))))))))
 refine TO.q (q_pick0 rfl rfl) (TO.qm rfl (TO.gq rfl rfl (q_move rfl) (TO.q (q_pick0 rfl rfl) (TO.nl (T.cond0 rfl (T.skip (T.s (T.s (T.rg (TO.qa rfl (TO.nl (T.block ?_))))))))))))
 refine T.loopS (fun (x : Nat) ρ O => O = [oI z13 25 (dC R k5), oI z11 25 (dC Mi k4), oI z10 25 (dC exZ kz), oI z4 25 (dC (drV exX 0) k3), oI z3 25 (dC Y k2), oI z2 25 (dC X k1), oI z1 25 (dC exX k0), dI 37 4 3 R k5, dI 37 4 3 Mi k4, dI 37 4 3 exZ kz, dI 37 4 3 (drV exX 0) k3, dI 37 4 3 Y k2, dI 37 4 3 X k1, dI 37 4 3 exX k0] ∧ x ≤ 4 ∧ Heads [(1, (.pointer (aD z1))), (2, (.pointer (aD z2))), (3, vI 0), (4, (.pointer (aD z3))), (5, vI 0), (6, .bool false), (7, vI 0), (8, (.pointer (aD z4))), (9, vI 7), (10, (.pointer (aD z10))), (11, (.pointer (aD z11))), (12, vI 0), (13, (.pointer (aD z13))), (14, vI 0), (15, vI ((x : Nat) : Int))] ρ) (fun x => 4 - x) 0 ?_ ?_
 ·exact ⟨rfl, Nat.zero_le _, (.of rfl)⟩
 rintro x ρ O ⟨rfl, hx4, hH⟩
 obtain ⟨ρ0, rfl⟩ := hH.elim
 clear hH
 refine T.s (T.s (T.rg (TO.qm rfl (TO.q (q_lss rfl rfl) (TO.nl (T.condP rfl (fun hc => ?_) (fun hc => ?_)))))))
 ·have hlt81 : x < 4 := by omega
  have hxl : x < 4 := by omega
  have hw8 : ∀ y ∈ [x], y < 256 := fun y hy => by have := List.mem_singleton.1 hy; omega
  refine T.skip (T.s (T.block (T.s (T.rg (TO.qm rfl (TO.q (q_conv_id uT3 uT5 rfl (wrap8 (by omega))) (TO.l rfl (l_build1 (v := .int .u8 ((x : Nat) : Int)) uT46 inf5 rfl rfl rfl (fun z14 => ?_)))))))))
  refine TO.qa rfl (TO.nl (T.s ?_))
  refine T.draws _ [(0, 0), (1, 0), (2, 1), (3, 0), (4, 0), (5, 0), (6, 0), (7, 1), (8, 0), (9, 0), (10, 0), (11, 0), (13, 0), (14, 0), (12, 1), (15, 0), (16, 0), (17, 0), (18, 0), (19, 0), (21, 0), (22, 0), (20, 1), (23, 2), (24, 2), (25, 2)] mixed (drawF_ok (by kernel_rfl)) (Sub.of (List.Sublist.refl _)) (fun _ _ _ h => h) ?_
  refine DO.q rfl (q_la 6 uT25 rfl inf25 rfl rfl rfl) (DO.q rfl (q_move rfl) ?_)
  have hk89 := fun (w1 : World) (hI : Inv w [rowI (aD z14) 1 5 1 [.int .u8 ((x : Nat) : Int)], oI z13 25 (dC R k5), oI z11 25 (dC Mi k4), oI z10 25 (dC exZ kz), oI z4 25 (dC (drV exX 0) k3), oI z3 25 (dC Y k2), oI z2 25 (dC X k1), oI z1 25 (dC exX k0), dI 37 4 3 R k5, dI 37 4 3 Mi k4, dI 37 4 3 exZ kz, dI 37 4 3 (drV exX 0) k3, dI 37 4 3 Y k2, dI 37 4 3 X k1, dI 37 4 3 exX k0] w1) => (haveI := tbz hI; (show PureT _ _ _ _ _ from by
    have h9 := accF w1 X k1 (hI.at (k := k1) (mG 13 rfl)) bX.1 bX.2.1 bX.2.2 (aD z14) 1 [x] (hI.slOf (cs := byts [x]) (mG 0 rfl)) (show 1 < _ by decide) hw8
    rw [fX x hxl] at h9
    exact h9))
  refine DO.loud rfl rfl (l_call ent38 (CallT.op hk89) rfl ?_)
  clear hk89
  rintro vr O' ⟨N, rfl, rfl, rfl⟩
  refine ⟨by exact Sub.rf, ?_⟩
  refine DO.q rfl (q_not rfl) (DO.q rfl (q_move rfl) ?_)
  refine DO.guarded rfl rfl rfl (q_la 5 uT25 rfl inf25 rfl rfl rfl) ?_
  refine DO.guarded rfl rfl rfl (q_move rfl) ?_
  have hk94 := fun (w1 : World) (hI : Inv w [rowI (aD z14) 1 5 1 [.int .u8 ((x : Nat) : Int)], oI z13 25 (dC R k5), oI z11 25 (dC Mi k4), oI z10 25 (dC exZ kz), oI z4 25 (dC (drV exX 0) k3), oI z3 25 (dC Y k2), oI z2 25 (dC X k1), oI z1 25 (dC exX k0), dI 37 4 3 R k5, dI 37 4 3 Mi k4, dI 37 4 3 exZ kz, dI 37 4 3 (drV exX 0) k3, dI 37 4 3 Y k2, dI 37 4 3 X k1, dI 37 4 3 exX k0] w1) => (haveI := tbz hI; (show PureT _ _ _ _ _ from by
    have h9 := accF w1 Y k2 (hI.at (k := k2) (mG 12 rfl)) bY.1 bY.2.1 bY.2.2 (aD z14) 1 [x] (hI.slOf (cs := byts [x]) (mG 0 rfl)) (show 1 < _ by decide) hw8
    rw [fY x hxl] at h9
    exact h9))
  refine DO.loudG rfl rfl rfl rfl (l_call ent38 (CallT.op hk94) rfl ?_)
  clear hk94
  rintro vr O' ⟨N, rfl, rfl, rfl⟩
  refine ⟨by exact Sub.rf, ?_⟩
  refine DO.q rfl (q_pick0 rfl rfl) (DO.q rfl (q_move rfl) ?_)
  refine DO.guarded rfl rfl rfl (q_la 2 uT25 rfl inf25 rfl rfl rfl) ?_
  refine DO.guarded rfl rfl rfl (q_move rfl) ?_
  refine DO.guarded rfl rfl rfl (q_move rfl) ?_
  refine DO.guarded rfl rfl rfl (QT.cast (q_gtr rfl rfl) (v' := .bool (decide (x > 1))) (congrArg Value.bool (decide_eq_decide.2 (by omega)))) ?_
  have hk99 := fun (w1 : World) (hI : Inv w [rowI (aD z14) 1 5 1 [.int .u8 ((x : Nat) : Int)], oI z13 25 (dC R k5), oI z11 25 (dC Mi k4), oI z10 25 (dC exZ kz), oI z4 25 (dC (drV exX 0) k3), oI z3 25 (dC Y k2), oI z2 25 (dC X k1), oI z1 25 (dC exX k0), dI 37 4 3 R k5, dI 37 4 3 Mi k4, dI 37 4 3 exZ kz, dI 37 4 3 (drV exX 0) k3, dI 37 4 3 Y k2, dI 37 4 3 X k1, dI 37 4 3 exX k0] w1) => (haveI := tbz hI; (show PureT _ _ _ _ _ from by
    have h9 := accF w1 Mi k4 (hI.at (k := k4) (mG 9 rfl)) bM.1 bM.2.1 bM.2.2 (aD z14) 1 [x] (hI.slOf (cs := byts [x]) (mG 0 rfl)) (show 1 < _ by decide) hw8
    rw [fM x hxl] at h9
    exact h9))
  refine DO.loudG rfl rfl rfl rfl (l_call ent38 (CallT.op hk99) rfl ?_)
  clear hk99
  rintro vr O' ⟨N, rfl, rfl, rfl⟩
  refine ⟨by exact Sub.rf, ?_⟩
  refine DO.guarded rfl rfl rfl (QT.cast (q_bneq uT4 rfl rfl) (v' := .bool false) (by simp)) ?_
  refine DO.q rfl (q_pick0 rfl rfl) (DO.q rfl (q_move rfl) ?_)
  refine DO.guarded rfl rfl rfl (q_la 1 uT25 rfl inf25 rfl rfl rfl) ?_
  refine DO.guarded rfl rfl rfl (q_move rfl) ?_
  refine DO.guarded rfl rfl rfl (q_la 7 uT25 rfl inf25 rfl rfl rfl) ?_
  refine DO.guarded rfl rfl rfl (q_move rfl) ?_
  have hk107 := fun (w1 : World) (hI : Inv w [rowI (aD z14) 1 5 1 [.int .u8 ((x : Nat) : Int)], oI z13 25 (dC R k5), oI z11 25 (dC Mi k4), oI z10 25 (dC exZ kz), oI z4 25 (dC (drV exX 0) k3), oI z3 25 (dC Y k2), oI z2 25 (dC X k1), oI z1 25 (dC exX k0), dI 37 4 3 R k5, dI 37 4 3 Mi k4, dI 37 4 3 exZ kz, dI 37 4 3 (drV exX 0) k3, dI 37 4 3 Y k2, dI 37 4 3 X k1, dI 37 4 3 exX k0] w1) => (haveI := tbz hI; (show PureT _ _ _ _ _ from by
    have h9 := accF w1 R k5 (hI.at (k := k5) (mG 8 rfl)) bR.1 bR.2.1 bR.2.2 (aD z14) 1 [x] (hI.slOf (cs := byts [x]) (mG 0 rfl)) (show 1 < _ by decide) hw8
    rw [fR x hxl] at h9
    exact h9))
  refine DO.loudG rfl rfl rfl rfl (l_call ent38 (CallT.op hk107) rfl ?_)
  clear hk107
  rintro vr O' ⟨N, rfl, rfl, rfl⟩
  refine ⟨by exact Sub.rf, ?_⟩
  have hk110 := fun (w1 : World) (hI : Inv w [rowI (aD z14) 1 5 1 [.int .u8 ((x : Nat) : Int)], oI z13 25 (dC R k5), oI z11 25 (dC Mi k4), oI z10 25 (dC exZ kz), oI z4 25 (dC (drV exX 0) k3), oI z3 25 (dC Y k2), oI z2 25 (dC X k1), oI z1 25 (dC exX k0), dI 37 4 3 R k5, dI 37 4 3 Mi k4, dI 37 4 3 exZ kz, dI 37 4 3 (drV exX 0) k3, dI 37 4 3 Y k2, dI 37 4 3 X k1, dI 37 4 3 exX k0] w1) => (haveI := tbz hI; (show PureT _ _ _ _ _ from by
    have h9 := accF w1 exX k0 (hI.at (k := k0) (mG 14 rfl)) bE.1 bE.2.1 bE.2.2 (aD z14) 1 [x] (hI.slOf (cs := byts [x]) (mG 0 rfl)) (show 1 < _ by decide) hw8
    exact h9))
  refine DO.lastG rfl rfl rfl rfl (l_call ent38 (CallT.op hk110) rfl ?_)
  clear hk110
  rintro vr O' ⟨N, rfl, rfl, rfl⟩
  refine DO.lastG rfl rfl rfl rfl (LT.oq rfl rfl (QT.cast (q_bneq uT4 rfl rfl) (v' := .bool false) (by simp)) ?_)
  refine DO.last rfl rfl (LT.oq rfl rfl (q_pick0 rfl rfl) ?_)
  refine DO.done ?_
  refine T.cond0 rfl (T.skip (T.rg (TO.qm rfl (TO.q (q_addN (a := x) (b := 1) rfl rfl (by omega)) (TO.qa rfl (TO.nl ?_))))))
  exact ⟨x + 1, by omega, [oI z13 25 (dC R k5), oI z11 25 (dC Mi k4), oI z10 25 (dC exZ kz), oI z4 25 (dC (drV exX 0) k3), oI z3 25 (dC Y k2), oI z2 25 (dC X k1), oI z1 25 (dC exX k0), dI 37 4 3 R k5, dI 37 4 3 Mi k4, dI 37 4 3 exZ kz, dI 37 4 3 (drV exX 0) k3, dI 37 4 3 Y k2, dI 37 4 3 X k1, dI 37 4 3 exX k0], (by exact Sub.d (.k (.k (.k (.k (.k (.k (.k (.k (.k (.k (.k (.k (.k (.k .z))))))))))))))), rfl, by omega, (.of rfl)⟩
 have hge81 : ¬ x < 4 := by omega
 refine T.exit ?_
 refine T.s (T.rg (TO.q (q_la 5 uT25 rfl inf25 rfl rfl rfl) ?_))
 have hk114 := fun (w1 : World) (hI : Inv w [oI z13 25 (dC R k5), oI z11 25 (dC Mi k4), oI z10 25 (dC exZ kz), oI z4 25 (dC (drV exX 0) k3), oI z3 25 (dC Y k2), oI z2 25 (dC X k1), oI z1 25 (dC exX k0), dI 37 4 3 R k5, dI 37 4 3 Mi k4, dI 37 4 3 exZ kz, dI 37 4 3 (drV exX 0) k3, dI 37 4 3 Y k2, dI 37 4 3 X k1, dI 37 4 3 exX k0] w1) => (haveI := tbz hI; (show PureT _ _ _ _ _ from by
   have h9 := accF w1 X k1 (hI.at (k := k1) (mG 12 rfl)) bX.1 bX.2.1 bX.2.2 none 0 [] (Sl.nil _ none) (by decide) (fun x hx => by cases hx)
   rw [fN] at h9
   exact h9))
 refine TO.l rfl (l_call ent38 (CallT.op hk114) rfl ?_)
 clear hk114
 rintro vr O' ⟨N, rfl, rfl, rfl⟩
 refine TO.q (q_not rfl) (TO.qm rfl (TO.gq rfl rfl (q_fa uT25 rfl inf22 rfl rfl) (TO.gq rfl rfl (q_lb 4 uT22 rfl rfl rfl rfl) (TO.gq rfl rfl (q_len uT22 rfl) (TO.gq rfl rfl (QT.toB (q_eql rfl rfl) (decide_eq_true (by rw [f1]; rfl))) (TO.q (q_pick1 rfl rfl) (TO.qa rfl (TO.nl (T.ret (Res.drop ?_))))))))))
 refine Res.one (.bool true) Tryz.results11 rfl ?_
 exact ⟨[], Sub.z, rfl, rfl⟩
end Go.Proofs.YtohkmggbfcnapaaGreatDoor


namespace Go.Lx
theorem longB_one {a : DFA} (h : ¬ longB [a] = true) : Sh a := sh_of (fun h2 => h (by simpa [longB] using h2))
theorem bdVal {d : DFA} (hv : Valid d) : Bd9 d := min_bounds (HasL.of hv (Nat.le_refl _))
theorem bdX {d : DFA} {v B : Int} (hn : vE d v = 0 → d.next.length ≤ 64) : Bd9 (xsV d v B) := by
 by_cases he : xsE d v B = 0
 ·exact bdVal (xsV_valid (hn (xsE_zero he).1) he).1
 ·rw [xsV_bad he]; exact bd_noD
theorem bdAl {d : DFA} {v B : Int} (hn : Valid d → d.next.length ≤ 64) : Bd9 (alV d v B) := by
 by_cases he : alE d v B = 0
 ·have hc : checkD d = 0 := by
   unfold alE at he
   by_cases h : checkD d = 0
   ·exact h
   ·rw [if_pos h] at he; exact he
  have hv := checkD_zero.1 hc
  have hx : xsE (minD (flipD d)) v B = 0 := by rw [← alE_val hv]; exact he
  have hl : (minD (flipD d)).next.length ≤ 64 := Nat.le_trans (minD_len (flip_val hv.toVal)) (hn hv)
  unfold alV
  rw [if_pos he]
  exact bdVal (minD_valid (flip_valid (xsV_valid hl hx).1))
 ·unfold alV; rw [if_neg he]; exact bd_noD
theorem Sh.h8 {a : DFA} (sa : Sh a) (hv : Valid a) : HasL a.vars 8 a (acc a) := HasL.of hv sa.n8
theorem Sh.h6 {a : DFA} (hv : Valid a) (hn : a.next.length ≤ 6) : HasL a.vars 6 a (acc a) := HasL.of hv hn
end Go.Lx


namespace Go.Lx
open Go.RowKit Go.ChangeShapes Go.WideShapes Go.Deep
section
variable {H : Type} {enc : TypeId × Value → H} {P : Program}
theorem TrodAll_stays (hl : laidOutB P = true) {W W' : World} {sp' : Nat → Bool} : ∀ {ts : List TypeId} {vs : List Value} {ds : List (DataW H)} {ps : List MemPlace},
  (∀ t ∈ ts, P.readableRec t = true ∧ t < P.types.size) → DataW.TrodAll enc P W 0 (fun _ => true) true ts vs ds ps → (∀ p ∈ ps, W.sameAt W' p) → (∀ p ∈ ps, sp' p.block = true) → DataW.TrodAll enc P W' 0 sp' true ts vs ds ps
 | [], _, _, _, _, h, _, _ => by
  obtain ⟨rfl, rfl, rfl⟩ := trodAll_nil h
  rfl
 | t :: ts, _, _, _, hr, h, hs, hsp => by
  obtain ⟨v, vs1, d, ds1, p, q, rfl, rfl, rfl, h1, h2⟩ := trodAll_cons h
  have ht := hr t (by simp)
  exact ⟨p, q, WideElems.Trod_stays hl ht.1 ht.2 h1 (fun x hx => hs x (List.mem_append_left _ hx)) (fun x hx => hsp x (List.mem_append_left _ hx)),
   TrodAll_stays hl (fun t ht => hr t (by simp [ht])) h2 (fun x hx => hs x (List.mem_append_right _ hx)) (fun x hx => hsp x (List.mem_append_right _ hx)), rfl⟩
theorem post_law {f : Func} {s : ChangeSpec} {W W' : World} {args : Array Value} {ds gs : List (DataW H)} {before : List MemPlace} {tb : TypeId}
  (hl : laidOutB P = true) (hr : ∀ t ∈ f.params.toList, P.readableRec t = true ∧ t < P.types.size) (hres : f.resultTypes = #[tb]) (hb : P.underlying tb = some .bool) (hv : s.vars = [])
  (hW : DataW.Whole enc P f.params.toList s.vars false W args.toList ds gs before)
  (h1 : (s.fn H ds).results = [.lit (.bool true)]) (h2 : (s.fn H ds).args = ds) (h3 : (s.fn H ds).vars = [])
  (hB : Below W.heap.size W W') : s.post enc P f false true false false W args (.bool true) W' := by
 have hW0 := hW
 obtain ⟨p, q, hA, hV, rfl, hz, hn⟩ := hW
 rw [hv] at hV
 obtain ⟨rfl, rfl⟩ := trodVars_none hV
 simp only [List.append_nil] at hW0 hz hn
 have hlt := hW0.lt
 have hsame : ∀ x ∈ p, W.sameAt W' x := fun x hx => hB.same (hlt x hx)
 have hargs : ∀ sp : Nat → Bool, (∀ x ∈ p, sp x.block = true) → DataW.TrodAll enc P W' 0 sp true f.params.toList args.toList (s.fn H (ds ++ [])).args p := fun sp hsp => by
  rw [List.append_nil, h2]
  exact TrodAll_stays hl hr hA hsame hsp
 have hvars : ∀ sp : Nat → Bool, DataW.TrodVars enc P W' sp s.vars (s.fn H (ds ++ [])).vars [] := fun sp => by
  rw [List.append_nil, hv, h3]; rfl
 have hresult : ∀ (b : Nat) (sp : Nat → Bool) (hd : Bool), DataW.TrodAll enc P W' b sp hd f.resultTypes.toList ((Value.bool true).resultList f.resultTypes.size) (s.fn H (ds ++ [])).results [] := fun b sp hd => by
  rw [List.append_nil, h1, hres]
  exact trodAll_cons_mk (shut_bool hb _) trodAll_mk0
 have hold : ∀ x ∈ p, (fun b => decide (b < W.heap.size)) x.block = true := fun x hx => by simpa using hlt x hx
 refine ⟨ds, [], p, [], p, [], hW0, hresult _ _ _, hargs _ hold, hvars _, World.keptBut_mono (fun x hx => ⟨hx, ?_⟩) (hB.frame _), fun _ => ?_⟩
 ·exact Or.inr (by simpa using hx)
 ·refine ⟨ok_one hres rfl (okWide_bool_mk hb _), _, _, ([] ++ p) ++ [], ⟨[] ++ p, [], trodAll_append (hargs _ (fun _ _ => rfl)) (hresult _ _ _), hvars _, rfl, ?_, ?_⟩, ?_⟩
  ·intro b off hx
   have hx' : MemPlace.cell b off ∈ p := by simpa using hx
   rw [hB.frozen (p := ⟨b, off, none⟩) (hlt _ hx')]
   exact hz b off hx'
  ·intro ha; cases ha
  ·intro x hx _
   simpa using hx
theorem spotNone {w : World} {a : Addr} {v : Value} (h : w.cell? a = some v) : a.spot = none := by
 unfold World.cell? at h
 cases e : a.spot with
 | none => rfl
 | some x => rw [e] at h; split at h <;> simp at h
theorem Sl.ofCells {w : World} {a : Addr} {cs : List Value} (h : ∀ i (hi : i < cs.length), w.cell? (a.add i) = some cs[i]) : Sl w (some a) cs := fun i hi => by
 have h0 := h 0 (by omega)
 have h1 := h i hi
 have h2 : a.spot = none := spotNone (a := a) (by simpa [Addr.add] using h0)
 refine ⟨a, rfl, h2, ?_⟩
 have e : a.add i = ⟨a.block, a.off + i, none⟩ := by
  unfold Addr.add
  split
  ·rename_i h; subst h
   cases a with
   | mk b o s => simp at h2; subst h2; rfl
  ·rfl
 rw [← e]; exact h1
structure DfaIn (P : Program) (W : World) (v : Value) (d : DFA) (nb fb : Option Addr) (nc fc : Nat) (vs : List Value) : Prop where
 val : v = .agg (dfaCells d nb nc fb fc).toArray
 at_ : DfaAt W d nb vs fb
 n : d.next.length ≤ reachBytes
 r : ∀ r ∈ d.next, r.length ≤ reachBytes
 f : d.final.length ≤ reachBytes
 fcap : d.final.length ≤ fc
 rcap : ∀ (i : Nat) (b : Option Addr) (n c : Nat), vs[i]? = some (Value.slice b n c) → n ≤ c
theorem weights_all (e : TypeId) : ∀ {l : List (DataW H)} {d : DataW H}, d ∈ l → ∀ m ∈ d.weights P e, m ∈ DataW.weightsAll P e l
 | [], _, h, _, _ => by cases h
 | x :: l, d, h, m, hm => by
  rw [DataW.weightsAll, List.mem_append]
  rcases List.mem_cons.1 h with rfl | h
  ·exact .inl hm
  ·exact .inr (weights_all e h m hm)
theorem slice_bound {t e : TypeId} {elems spare : List (DataW H)} (ht : P.underlying t = some (.slice e)) (he : 0 < P.bytesOf e) (h : ∀ m ∈ (DataW.slice elems spare).weights P t, m ≤ reachBytes) :
  elems.length ≤ reachBytes ∧ ∀ d ∈ elems, ∀ m ∈ d.weights P e, m ≤ reachBytes := by
 have hw : (DataW.slice elems spare).weights P t = (elems.length + spare.length) * P.bytesOf e :: (DataW.weightsAll P e elems ++ DataW.weightsAll P e spare) := by
  rw [DataW.weights, ht]
 rw [hw] at h
 refine ⟨?_, fun d hd m hm => h m (List.mem_cons_of_mem _ (List.mem_append_left _ (weights_all e hd m hm)))⟩
 have h1 := h _ List.mem_cons_self
 have h2 := Nat.mul_le_mul_left (elems.length + spare.length) (show 1 ≤ P.bytesOf e from he)
 omega
theorem intsOf {w : World} {A : Option Addr} {L C : Nat} {Z : List Int} (hL : L ≤ C) (hZ : Z.length = C) (h0 : A = none → C = 0) (h : ∀ a', A = some a' → 0 ≤ a'.block ∧ ∀ c, c < C → w.cell? (a'.add c) = some (.int .i64 (Z.getD c 0))) :
  (Z.take L).length = L ∧ Sl w A (ints (Z.take L)) := by
 have hl : (Z.take L).length = L := by rw [List.length_take]; omega
 refine ⟨hl, ?_⟩
 cases A with
 | none =>
  have := h0 rfl
  have : Z.take L = [] := List.eq_nil_of_length_eq_zero (by omega)
  rw [this]; exact Sl.nil _ _
 | some a =>
  refine Sl.ofCells fun i hi => ?_
  have hi' : i < L := by rw [List.length_map, hl] at hi; exact hi
  have hiz : i < Z.length := by omega
  rw [(h a rfl).2 i (by omega), List.getElem_map, List.getElem_take]
  simp [hiz]
theorem open_dfa {t ti tn tr tf tb : TypeId} {f0 f1 f2 f3 : Field} {W : World} {v : Value} {d : DataW H} {p : List MemPlace}
  (ht : P.underlying t = some (.struct #[f0, f1, f2, f3])) (hc : P.cellsOf t = 4) (h0 : f0.type = ti) (h1 : f1.type = ti) (h2 : f2.type = tn) (h3 : f3.type = tf) (o0 : f0.offset = 0) (o1 : f1.offset = 1) (o2 : f2.offset = 2) (o3 : f3.offset = 3)
  (hi : P.underlying ti = some (.int .i64)) (hn : P.underlying tn = some (.slice tr)) (hrow : P.underlying tr = some (.slice ti)) (hf : P.underlying tf = some (.slice tb)) (hb : P.underlying tb = some .bool)
  (ci : P.cellsOf ti = 1) (cn : P.cellsOf tn = 1) (cr : P.cellsOf tr = 1) (cf : P.cellsOf tf = 1) (cb : P.cellsOf tb = 1) (br : 0 < P.bytesOf tr) (bi : 0 < P.bytesOf ti) (bb : 0 < P.bytesOf tb) (hw : ∀ m ∈ d.weights P t, m ≤ reachBytes)
  (h : DataW.Trod enc P W 0 (fun _ => true) true t v d p) : ∃ D nb fb nc fc vs, DfaIn P W v D nb fb nc fc vs := by
 obtain ⟨fuel, hT⟩ := h
 obtain ⟨xs, n, rfl, hx, hlen, hxl, hfs⟩ := DataW.trod_struct ht hT
 rw [hc] at hlen
 obtain ⟨c0, c1, c2, c3, hcs⟩ : ∃ c0 c1 c2 c3, v.cells.toList = [c0, c1, c2, c3] := by
  match hh : v.cells.toList, hlen with
  | [a, b, c, e], _ => exact ⟨a, b, c, e, rfl⟩
 have hv : v = .agg #[c0, c1, c2, c3] := by
  have hsz : v.cells.size = 4 := by rw [← Array.length_toList, hcs]; rfl
  cases v with
  | agg cs =>
   have : cs.toList = [c0, c1, c2, c3] := hcs
   rw [← Array.toArray_toList (xs := cs), this]
  | _ => simp [Value.cells] at hsz
 rw [hcs] at hfs
 obtain ⟨x0, x1, x2, x3, rfl⟩ : ∃ a b c e, xs = [a, b, c, e] := by
  match xs, hxl with
  | [a, b, c, e], _ => exact ⟨a, b, c, e, rfl⟩
 have g0 := hfs 0 f0 rfl
 have g1 := hfs 1 f1 rfl
 have g2 := hfs 2 f2 rfl
 have g3 := hfs 3 f3 rfl
 rw [h0, o0, ci] at g0
 rw [h1, o1, ci] at g1
 rw [h2, o2, cn] at g2
 rw [h3, o3, cf] at g3
 have hd : d = .agg [x0.1, x1.1, x2.1, x3.1] := congrArg Prod.fst hx
 have hwe : d.weights P t = DataW.weightsEach P [ti, ti, tn, tf] [x0.1, x1.1, x2.1, x3.1] := by
  rw [hd, DataW.weights, ht]
  simp [h0, h1, h2, h3]
 rw [hwe] at hw
 have hw2 : ∀ m ∈ x2.1.weights P tn, m ≤ reachBytes := fun m hm => hw m (DataW.weights_mem_each (j := 2) rfl rfl m hm)
 have hw3 : ∀ m ∈ x3.1.weights P tf, m ≤ reachBytes := fun m hm => hw m (DataW.weights_mem_each (j := 3) rfl rfl m hm)
 obtain ⟨n0, e0, _, _⟩ := DataW.trod_int hi g0
 obtain ⟨n1, e1, _, _⟩ := DataW.trod_int hi g1
 have e0' : c0 = .int .i64 n0 := by simpa using e0
 have e1' : c1 = .int .i64 n1 := by simpa using e1
 subst e0' e1'
 obtain ⟨nb, nc, rows, vs, e2, hnl, hvl, hout, hrows, hrcap⟩ : ∃ (nb : Option Addr) (nc : Nat) (rows : List (List Int)) (vs : List Value), c2 = .slice nb rows.length nc ∧ rows.length ≤ reachBytes ∧ (∀ r ∈ rows, r.length ≤ reachBytes) ∧ Sl W nb vs ∧ RowsR W vs rows ∧ ∀ (i : Nat) (b : Option Addr) (n c : Nat), vs[i]? = some (Value.slice b n c) → n ≤ c := by
  rcases open_int_rows hn hrow hi cr ci g2 with ⟨hcs2, _⟩ | ⟨a, len, cap, A, L, C, Z, hcs2, _, hlc, hcm, hx2, hall⟩
  ·exact ⟨none, 0, [], [], by simpa using hcs2, Nat.zero_le _, fun r hr => (List.not_mem_nil hr).elim, Sl.nil _ _, ⟨rfl, fun i r hr => by simp at hr⟩, fun i b n c hr => by simp at hr⟩
  ·rw [congrArg Prod.fst hx2] at hw2
   obtain ⟨hwl, hwr⟩ := slice_bound hn br hw2
   have hwl' : len ≤ reachBytes := by simpa using hwl
   have hwrow : ∀ r, r < len → L r ≤ reachBytes := fun r hr => by
    obtain ⟨_, a2, _, a4, _, a6, _⟩ := hall r (by omega)
    have hm := hwr _ (List.mem_map.2 ⟨r, List.mem_range.2 hr, rfl⟩)
    cases hA : A r with
    | none => have := a6 hA; omega
    | some b =>
     rw [hA] at hm
     have := (slice_bound hrow bi hm).1
     simp [lits] at this
     omega
   have hrl : ∀ r, r < len → ((Z r).take (L r)).length = L r ∧ Sl W (A r) (ints ((Z r).take (L r))) := fun r hr => by
    obtain ⟨_, a2, a3, a4, _, a6, a7⟩ := hall r (by omega)
    exact intsOf a2 a4 a6 a7
   refine ⟨some a, cap, (List.range len).map fun r => (Z r).take (L r), (List.range len).map fun r => .slice (A r) (L r) (C r), by simpa using hcs2, by simp; omega, ?_, ?_, ⟨by simp, ?_⟩, ?_⟩
   ·intro r hr
    obtain ⟨j, hj, rfl⟩ := List.mem_map.1 hr
    have hj' := List.mem_range.1 hj
    rw [(hrl j hj').1]; exact hwrow j hj'
   ·refine Sl.ofCells fun i hi9 => ?_
    have hi' : i < len := by simpa using hi9
    rw [(hall i (by omega)).1]; simp
   ·intro i r hr
    have hi' : i < len := by
     have := (List.getElem?_eq_some_iff.1 hr).1
     simpa using this
    have er : r = (Z i).take (L i) := by
     rw [List.getElem?_map, List.getElem?_range hi'] at hr
     exact (Option.some.inj hr).symm
    subst er
    refine ⟨A i, C i, ?_, (hrl i hi').2⟩
    rw [List.getElem?_map, List.getElem?_range hi', (hrl i hi').1]; rfl
   ·intro i b n c hr
    by_cases hi' : i < len
    ·rw [List.getElem?_map, List.getElem?_range hi'] at hr
     have h9 := Option.some.inj hr
     obtain ⟨_, a2, _⟩ := hall i (by omega)
     injection h9 with _ h10 h11
     omega
    ·rw [List.getElem?_eq_none (by simpa using hi')] at hr; cases hr
 obtain ⟨fb, fc, fin, e3, hfl, hfin, hfcap⟩ : ∃ (fb : Option Addr) (fc : Nat) (fin : List Bool), c3 = .slice fb fin.length fc ∧ fin.length ≤ reachBytes ∧ Sl W fb (bools fin) ∧ fin.length ≤ fc := by
  rcases open_bools hf hb cb g3 with ⟨hcs3, _⟩ | ⟨a, len, cap, B, hcs3, _, hlc, hcm, hx3, hall⟩
  ·exact ⟨none, 0, [], by simpa using hcs3, Nat.zero_le _, Sl.nil _ _, Nat.zero_le _⟩
  ·rw [congrArg Prod.fst hx3] at hw3
   have hwl := (slice_bound hf bb hw3).1
   have hwl' : len ≤ reachBytes := by simpa using hwl
   refine ⟨some a, cap, (List.range len).map B, by simpa using hcs3, by simp; omega, Sl.ofCells fun i hi9 => ?_, by simp; omega⟩
   have hi' : i < len := by simpa using hi9
   rw [hall i (by omega)]; simp
 exact ⟨⟨n0, n1, rows, fin⟩, nb, fb, nc, fc, vs, by rw [hv, e2, e3], ⟨hout, hrows, hfin⟩, hnl, hvl, hfl, hfcap, hrcap⟩
theorem lt63 {n : Nat} (h : n ≤ reachBytes) : n < 9223372036854775807 := Nat.lt_of_le_of_lt h (by decide)
end
end Go.Lx


namespace Go.Lx
open Go.RowKit Go.ChangeShapes Go.WideShapes Go.Deep
section
variable {H : Type} {enc : TypeId × Value → H} {P : Program}
theorem DfaIn.dk {W : World} {v : Value} {d : DFA} {nb fb : Option Addr} {nc fc : Nat} {vs : List Value} (h : DfaIn P W v d nb fb nc fc vs) : ∃ j : DK, v = .agg (dC d j).toArray ∧ At W d j ∧ Bd9 d ∧ CapD d j := by
 obtain ⟨qs, rfl, e⟩ := rows_rec h.at_.rows
 exact ⟨⟨nb, nc, fb, fc, qs⟩, h.val, h.at_, ⟨lt63 h.n, fun r hr => lt63 (h.r r hr), lt63 h.f⟩, ⟨h.fcap, h.rcap⟩⟩
end
end Go.Lx


namespace Go.Proofs.YtohkmggbfcnapaaGreatDoor
open Go.ChangeShapes Go.WideShapes Go.ChangeAt Go.RowKit Go.Lx _root_.Go.Proofs.Tryz
set_option maxRecDepth 100000
theorem own : ownKnob Tryz.prog.godebug = none := by kernel_rfl
theorem laidOut : laidOutB Tryz.prog = true := by kernel_rfl
theorem reads25 : Tryz.prog.readableRec 25 = true := by kernel_rfl
theorem reads3 : Tryz.prog.readableRec 3 = true := by kernel_rfl
theorem lt25 : 25 < Tryz.prog.types.size := of_decide_eq_true (by kernel_rfl)
theorem lt3 : 3 < Tryz.prog.types.size := of_decide_eq_true (by kernel_rfl)
theorem cells_a : Tryz.prog.cellsOf 25 = 4 := by kernel_rfl
theorem cells_b : Tryz.prog.cellsOf 3 = 1 := by kernel_rfl
theorem cells_c : Tryz.prog.cellsOf 22 = 1 := by kernel_rfl
theorem cells_d : Tryz.prog.cellsOf 37 = 1 := by kernel_rfl
theorem cells_e : Tryz.prog.cellsOf 23 = 1 := by kernel_rfl
theorem cells_f : Tryz.prog.cellsOf 4 = 1 := by kernel_rfl
theorem bytes_a : 0 < Tryz.prog.bytesOf 37 := of_decide_eq_true (by kernel_rfl)
theorem bytes_b : 0 < Tryz.prog.bytesOf 3 := of_decide_eq_true (by kernel_rfl)
theorem bytes_c : 0 < Tryz.prog.bytesOf 4 := of_decide_eq_true (by kernel_rfl)
theorem openD {H : Type} {enc : TypeId × Value → H} {W : World} {v : Value} {d : DataW H} {p : List MemPlace} (hw : ∀ m ∈ d.weights Tryz.prog 25, m ≤ reachBytes) (h : DataW.Trod enc Tryz.prog W 0 (fun _ => true) true 25 v d p) : ∃ D nb fb nc fc vs, DfaIn Tryz.prog W v D nb fb nc fc vs :=
 open_dfa underlying25 cells_a rfl rfl rfl rfl rfl rfl rfl rfl underlying3 underlying22 underlying37 underlying23 underlying4 cells_b cells_c cells_d cells_e cells_f bytes_a bytes_b bytes_c hw h
def fillO (cs : Array Value) : Obj → Obj
 | .cells _ t frozen => .cells cs t frozen
 | o => o
noncomputable def laidWorld (os : Os) : World :=
 { World.holding Tryz.prog os ⟨#[], #[], []⟩ with heap := ((((World.holding Tryz.prog os ⟨#[], #[], []⟩).heap.modify 0 (fillO #[.int .u8 0, .int .u8 1, .int .u8 56, .int .u8 2, .int .u8 57, .int .u8 49, .int .u8 28, .int .u8 3, .int .u8 61, .int .u8 58, .int .u8 42, .int .u8 50, .int .u8 38, .int .u8 29, .int .u8 17, .int .u8 4, .int .u8 62, .int .u8 47, .int .u8 59, .int .u8 36, .int .u8 45, .int .u8 43, .int .u8 51, .int .u8 22, .int .u8 53, .int .u8 39, .int .u8 33, .int .u8 30, .int .u8 24, .int .u8 18, .int .u8 12, .int .u8 5, .int .u8 63, .int .u8 55, .int .u8 48, .int .u8 27, .int .u8 60, .int .u8 41, .int .u8 37, .int .u8 16, .int .u8 46, .int .u8 35, .int .u8 44, .int .u8 21, .int .u8 52, .int .u8 32, .int .u8 23, .int .u8 11, .int .u8 54, .int .u8 26, .int .u8 40, .int .u8 15, .int .u8 34, .int .u8 20, .int .u8 31, .int .u8 10, .int .u8 25, .int .u8 14, .int .u8 19, .int .u8 9, .int .u8 13, .int .u8 8, .int .u8 7, .int .u8 6])).modify 1 (fillO #[.int .u64 1, .int .u64 10, .int .u64 100, .int .u64 1000, .int .u64 10000, .int .u64 100000, .int .u64 1000000, .int .u64 10000000, .int .u64 100000000, .int .u64 1000000000, .int .u64 10000000000, .int .u64 100000000000, .int .u64 1000000000000, .int .u64 10000000000000, .int .u64 100000000000000, .int .u64 1000000000000000, .int .u64 10000000000000000, .int .u64 100000000000000000, .int .u64 1000000000000000000, .int .u64 10000000000000000000])).modify 2 (fillO #[.int .u8 0, .int .u8 1, .int .u8 28, .int .u8 2, .int .u8 29, .int .u8 14, .int .u8 24, .int .u8 3, .int .u8 30, .int .u8 22, .int .u8 20, .int .u8 15, .int .u8 25, .int .u8 17, .int .u8 4, .int .u8 8, .int .u8 31, .int .u8 27, .int .u8 13, .int .u8 23, .int .u8 21, .int .u8 19, .int .u8 16, .int .u8 7, .int .u8 26, .int .u8 12, .int .u8 18, .int .u8 6, .int .u8 11, .int .u8 5, .int .u8 10, .int .u8 9])) }
theorem tabOf {W : World} (hL : laidMetH Tryz.prog [("math/bits.deBruijn32tab", Rows.laid_math_bits_deBruijn32tab), ("math/bits.deBruijn64tab", Rows.laid_math_bits_deBruijn64tab), ("internal/strconv.uint64pow10", Rows.laid_internal_strconv_uint64pow10)] W) : Tab Tryz.prog W := by
 have h : laidMet Tryz.prog [("math/bits.deBruijn32tab", Rows.laid_math_bits_deBruijn32tab), ("math/bits.deBruijn64tab", Rows.laid_math_bits_deBruijn64tab), ("internal/strconv.uint64pow10", Rows.laid_internal_strconv_uint64pow10)] W := hL
 obtain ⟨ps, h, _⟩ := h
 have hz := h
 obtain ⟨_, h⟩ := laidVars_tail h
 obtain ⟨_, h⟩ := laidVars_tail h
 obtain ⟨_, hz⟩ := laidVars_tail hz
 exact Tab.of (tabIs_of_vars (g := 1) (t := 179) (e := 107) (n := 20) (by kernel_rfl) (by kernel_rfl) (by kernel_rfl) underlying179 underlying107 (by kernel_rfl) (by kernel_rfl) h) (.inr (tabIs_of_vars (g := 0) (t := 163) (e := 5) (n := 64) (by kernel_rfl) (by kernel_rfl) (by kernel_rfl) underlying163 underlying5 (by kernel_rfl) (by kernel_rfl) hz))
end Go.Proofs.YtohkmggbfcnapaaGreatDoor

