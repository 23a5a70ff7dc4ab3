/- Contracts of functions of the program (BRdg): what each call answers and that it leaves memory as it was. Conditions: those each theorem names. -/
import Derived.Test.YtnamoapbienooaaBOvE
import Derived.Test.YtnamoapbienooaaBLive
import Derived.Test.YtnamoapbienooaaLv
import Derived.Test.YtnamoapbienooaaBRef
set_option linter.unusedSectionVars false
set_option linter.unusedSimpArgs false
set_option linter.unusedVariables false
set_option linter.unnecessarySimpa false
set_option maxRecDepth 20000
set_option maxHeartbeats 4000000
namespace Go.Proofs.Ytnamoapbienooaa
open Go.Lx Go.RowKit
set_option linter.unusedVariables false
set_option linter.unusedSimpArgs false
theorem refDegenF (w : World) (b : Bu) (sb eb tb : Option Addr) (sc ec tc : Nat) (vs : List Value) (h : BuAt w b sb eb tb vs) (hB : BuB b) :
  PureT Try.prog 38 [.agg (buC b sb sc eb ec tb tc).toArray] w fun v N => ∃ sb2 eb2 tb2 sc2 ec2 tc2 qs, v = .tuple #[.agg (buC (dgB b) sb2 sc2 eb2 ec2 tb2 tc2).toArray, .int .i64 ((degE b : Nat) : Int)] ∧ N = [rowI sb2 sc2 3 1 (ints (dgB b).start), rowI eb2 ec2 54 4 (edsC (dgB b).edges), rowI tb2 tc2 22 1 (vals qs)] ++ itms 3 qs ∧ nums qs = (dgB b).sets := by
 refine CallT.enter Try.func38 rfl Try.ntmps38 rfl ?_
 have hst := hB.st; have hed := hB.ed; have hse := hB.se
 refine T.seq (T.rg (TO.l rfl (l_box (v := (.agg (buC b sb sc eb ec tb tc).toArray)) (cs := (buC b sb sc eb ec tb tc)) rfl rfl (fun bx1 => ?_))))
 refine TO.l rfl (l_alloc inf26 rfl (fun bx2 => ?_))
 refine TO.qa rfl (TO.nil (T.seq (T.seq (T.rg (TO.q (q_la 1 Try.underlying26 rfl inf26 rfl rfl rfl) ?_)))))
 have hk16 := fun (w1 : World) (hI : Inv w [oI bx2 26 [(.int .i64 0), (.int .i64 0), nS, nS, nS], oI bx1 26 (buC b sb sc eb ec tb tc)] w1) => refCheckF w1 b sb eb tb sc ec tc vs (hI.bu h) hB
 refine TO.l rfl (l_call ent22 (CallT.pu hk16) rfl ?_)
 clear hk16
 rintro vr O' ⟨N, rfl, rfl, rfl⟩
 refine TO.qa rfl (TO.nil (T.seq (T.rg (TO.qm rfl (TO.q (q_neq rfl rfl) (TO.nil (T.condP rfl (fun hc => ?_) (fun hc => ?_))))))))
 ·have hlt18 : checkB b ≠ 0 := by omega
  refine T.seq (T.nilRow 22 1 ?_)
  refine T.nilRow 54 4 ?_
  refine T.nilRow 3 1 ?_
  refine T.rg (TO.q (q_build plan26 inf26 rfl) (TO.qm rfl (TO.l rfl (l_sb (v := (.agg #[(.int .i64 0), (.int .i64 0), nS, nS, nS])) (vs := [(.int .i64 0), (.int .i64 0), nS, nS, nS]) 3 inf26 rfl rfl rfl rfl rfl rfl (by simp [putL]) ?_))))
  refine TO.qa rfl (TO.nil (T.ret (Res.drop ?_)))
  refine Res.cell1b (.int .i64 ((checkB b : Nat) : Int)) (i := 3) Try.results38 Try.underlying26 rfl inf26 rfl rfl rfl rfl ?_
  have hE9 : degE b = checkB b := by unfold degE; rw [if_pos (by omega)]
  have hz9 : dgB b = zeroBu := by unfold dgB; rw [if_neg (by rw [hE9]; omega)]
  refine ⟨[rowI none 0 3 1 [], rowI none 0 54 4 [], rowI none 0 22 1 []] ++ itms 3 [], ?_, none, none, none, 0, 0, 0, [], ?_, ?_, ?_⟩
  ·exact Sub.ca [oI bx2 26 [(.int .i64 0), (.int .i64 0), nS, nS, nS], oI bx1 26 (buC b sb sc eb ec tb tc)]
  ·rw [hz9, hE9]; rfl
  ·rw [hz9]; rfl
  ·rw [hz9]; rfl
 have hge18 : ¬ checkB b ≠ 0 := by omega
 refine T.skip (T.seq ?_)
 have he : checkB b = 0 := by omega
 have hv : ValidB b := checkB_zero.1 he
 have hv0 := hv.n0; have hv4 := hv.n4; have hm8 := hv.m8
 have hnm : b.sets.length * b.states.toNat ≤ 8 * 4096 := Nat.mul_le_mul hm8 (by omega)
 have hcm : b.states.toNat * b.sets.length = b.sets.length * b.states.toNat := Nat.mul_comm _ _
 refine T.rg (TO.q (q_la 1 Try.underlying26 rfl inf26 rfl rfl rfl) ?_)
 have hk22 := fun (w1 : World) (hI : Inv w [oI bx2 26 [(.int .i64 0), (.int .i64 0), nS, nS, nS], oI bx1 26 (buC b sb sc eb ec tb tc)] w1) => copyBuchi w1 b sb eb tb sc ec tc vs (hI.bu h) hB
 refine TO.l rfl (l_call ent15 (CallT.pu hk22) rfl ?_)
 clear hk22
 rintro vr O' ⟨N, rfl, sb5, eb5, tb5, sc5, ec5, tc5, qs5, rfl, rfl, hqs5⟩
 refine TO.sub (O' := ([rowI sb5 sc5 3 1 (ints b.start), rowI eb5 ec5 54 4 (edsC b.edges), rowI tb5 tc5 22 1 (vals qs5), oI bx2 26 [(.int .i64 0), (.int .i64 0), nS, nS, nS], oI bx1 26 (buC b sb sc eb ec tb tc)] ++ (itms 3 qs5))) (Sub.ca []) ?_
 refine TO.l rfl (l_alloc inf26 rfl (fun bx3 => ?_))
 refine TO.l rfl (l_sb (v := (.agg (buC b sb5 sc5 eb5 ec5 tb5 tc5).toArray)) (vs := (buC b sb5 sc5 eb5 ec5 tb5 tc5)) 0 inf26 rfl rfl rfl rfl rfl rfl (by simp [putL]) ?_)
 refine TO.nil (T.seq (T.rg (TO.q (q_fa Try.underlying26 rfl inf24 rfl rfl) (TO.q (q_lb 5 Try.underlying24 rfl rfl rfl rfl) (TO.q (q_len Try.underlying24 rfl) (TO.qa rfl (TO.nil (T.seq (T.seq (T.rg (TO.qm rfl (TO.q (q_eql rfl rfl) (TO.nil (T.condP rfl (fun hc => ?_) (fun hc => ?_)))))))))))))))
 ·have hlt27 : b.sets.length = 1 := by omega
  refine T.seq (T.rg (TO.q (q_la 0 Try.underlying26 rfl inf26 rfl rfl rfl) (TO.l rfl (l_sb (v := (.agg (buC b sb5 sc5 eb5 ec5 tb5 tc5).toArray)) (vs := (buC b sb5 sc5 eb5 ec5 tb5 tc5)) 4 inf26 rfl rfl rfl rfl rfl rfl (by simp [putL]) ?_))))
  refine TO.qa rfl (TO.nil (T.ret (Res.drop ?_)))
  refine Res.cell1b (.int .i64 0) (i := 4) Try.results38 Try.underlying26 rfl inf26 rfl rfl rfl rfl ?_
  have hE0 : degE b = 0 := by unfold degE; rw [if_neg (fun q => q he), if_neg (by rw [show b.sets.length = 1 by omega]; omega)]
  have hdg : dgB b = degB b := by unfold dgB; rw [if_pos hE0]
  rw [degB_one hv (by omega)] at hdg
  refine ⟨[rowI sb5 sc5 3 1 (ints b.start), rowI eb5 ec5 54 4 (edsC b.edges), rowI tb5 tc5 22 1 (vals qs5)] ++ itms 3 qs5, Sub.ca [oI bx3 26 (buC b sb5 sc5 eb5 ec5 tb5 tc5), oI bx2 26 (buC b sb5 sc5 eb5 ec5 tb5 tc5), oI bx1 26 (buC b sb sc eb ec tb tc)], sb5, eb5, tb5, sc5, ec5, tc5, qs5, ?_, ?_, ?_⟩
  ·rw [hdg, hE0]; rfl
  ·rw [hdg]
  ·rw [hdg]; exact hqs5
 have hge27 : ¬ b.sets.length = 1 := by omega
 refine T.skip (T.seq (T.seq (T.rg (TO.qm rfl (TO.q (q_eql rfl rfl) (TO.nil (T.condP rfl (fun hc => ?_) (fun hc => ?_))))))))
 ·have hlt30 : b.sets.length = 0 := by omega
  refine T.seq (T.rg (TO.qa rfl (TO.nil (T.seq (T.seq (T.rg (TO.qa rfl (TO.nil (T.block (T.nilRow 3 1 ?_))))))))))
  refine T.loopS (fun (k : Nat) ρ O => ∃ (ab : Option Addr) (ac : Nat), O = ([rowI ab ac 3 1 (ints (allI k)), oI bx3 26 (buC b sb5 sc5 eb5 ec5 tb5 tc5), rowI sb5 sc5 3 1 (ints b.start), rowI eb5 ec5 54 4 (edsC b.edges), rowI tb5 tc5 22 1 (vals qs5), oI bx2 26 [(.int .i64 0), (.int .i64 0), nS, nS, nS], oI bx1 26 (buC b sb sc eb ec tb tc)] ++ (itms 3 qs5)) ∧ k ≤ b.states.toNat ∧ Heads [(0, (.agg (buC b sb sc eb ec tb tc).toArray)), (1, (.pointer (aD bx1))), (2, (.pointer (aD bx2))), (3, .int .i64 0), (4, .int .i64 ((checkB b : Nat) : Int)), (5, (.pointer (aD bx3))), (6, .int .i64 (b.sets.length : Int)), (7, (.slice ab ((allI k).length) ac)), (8, .int .i64 (k : Int))] ρ) (fun k => b.states.toNat - k) 0 ?_ ?_
  ·exact ⟨none, 0, rfl, Nat.zero_le _, ⟨rfl, rfl, rfl, rfl, rfl, rfl, rfl, rfl, rfl, trivial⟩⟩
  rintro k ρ O ⟨ab, ac, rfl, hk, hH⟩
  obtain ⟨ρ0, rfl⟩ := hH.elim
  clear hH
  have hal := allI_len k
  refine T.seq (T.seq (T.rg (TO.qm rfl (TO.q (q_fa Try.underlying26 rfl inf3 rfl rfl) (TO.q (QT.cast (q_lb 6 Try.underlying3 rfl rfl rfl rfl) (v' := .int .i64 ((b.states.toNat : Nat) : Int)) (by show Value.int _ _ = _; rw [Int.toNat_of_nonneg hv0])) (TO.q (q_lss rfl rfl) (TO.nil (T.condP rfl (fun hc => ?_) (fun hc => ?_)))))))))
  ·have hlt34 : k < b.states.toNat := by omega
   refine T.skip (T.seq (T.block (T.rg (TO.qm rfl (TO.qm rfl (TO.l rfl (l_build1 (v := .int .i64 (k : Int)) Try.underlying22 inf3 rfl rfl rfl (fun bx4 => ?_))))))))
   refine TO.l rfl (l_append 1 Try.underlying22 Try.underlying22 inf3 rfl rfl rfl rfl (by simp) (by decide) (Src.row (j := 0) rfl (by simp)) (by simp [oneB]) (by omega) (by decide) (by decide) (fun bx5 c6 => ?_))
   refine TO.qa rfl (TO.nil (T.rg (TO.qm rfl (TO.q (q_addN (a := k) (b := 1) rfl rfl (by omega)) (TO.qa rfl (TO.nil ?_))))))
   refine ⟨k + 1, by omega, ([rowI bx5 c6 3 1 ((ints (allI k)) ++ [.int .i64 (k : Int)]), oI bx3 26 (buC b sb5 sc5 eb5 ec5 tb5 tc5), rowI sb5 sc5 3 1 (ints b.start), rowI eb5 ec5 54 4 (edsC b.edges), rowI tb5 tc5 22 1 (vals qs5), oI bx2 26 [(.int .i64 0), (.int .i64 0), nS, nS, nS], oI bx1 26 (buC b sb sc eb ec tb tc)] ++ (itms 3 qs5)), (Sub.pickR [1, 1, 1, 1, 1, 1, 1] [rowI (aD bx4) 1 3 1 [.int .i64 (k : Int)], rowI bx5 c6 3 1 ((ints (allI k)) ++ [.int .i64 (k : Int)]), oI bx3 26 (buC b sb5 sc5 eb5 ec5 tb5 tc5), rowI sb5 sc5 3 1 (ints b.start), rowI eb5 ec5 54 4 (edsC b.edges), rowI tb5 tc5 22 1 (vals qs5), oI bx2 26 [(.int .i64 0), (.int .i64 0), nS, nS, nS], oI bx1 26 (buC b sb sc eb ec tb tc)] (itms 3 qs5) rfl rfl), bx5, c6, ?_, by omega, ⟨rfl, rfl, rfl, rfl, rfl, rfl, rfl, (by rw [allI_succ, List.length_append]; rfl), rfl, trivial⟩⟩
   rw [allI_succ, show ints (allI k ++ [((k : Nat) : Int)]) = ints (allI k) ++ [.int .i64 ((k : Nat) : Int)] from List.map_append]
  have hge34 : ¬ k < b.states.toNat := by omega
  refine T.exit ?_
  refine T.seq (T.rg (TO.qm rfl (TO.l rfl (l_build1 (v := (.slice ab ((allI k).length) ac)) Try.underlying24 inf22 rfl rfl rfl (fun bx7 => ?_)))))
  refine TO.q (q_fa Try.underlying26 rfl inf24 rfl rfl) (TO.l rfl (l_sb (v := (.slice (aD bx7) 1 1)) (vs := [(.slice (aD bx7) 1 1)]) 2 inf24 rfl rfl rfl rfl rfl rfl (by simp [putL]) ?_))
  refine TO.nil (T.seq (T.rg (TO.q (q_la 2 Try.underlying26 rfl inf26 rfl rfl rfl) (TO.l rfl (l_sb (v := (.agg #[(.int .i64 b.vars), (.int .i64 b.states), (.slice sb5 b.start.length sc5), (.slice eb5 b.edges.length ec5), (.slice (aD bx7) 1 1)])) (vs := [(.int .i64 b.vars), (.int .i64 b.states), (.slice sb5 b.start.length sc5), (.slice eb5 b.edges.length ec5), (.slice (aD bx7) 1 1)]) 6 inf26 rfl rfl rfl rfl rfl rfl (by simp [putL]) ?_)))))
  refine TO.qa rfl (TO.nil (T.ret (Res.drop ?_)))
  refine Res.cell1b (.int .i64 0) (i := 6) Try.results38 Try.underlying26 rfl inf26 rfl rfl rfl rfl ?_
  have hE0 : degE b = 0 := by unfold degE; rw [if_neg (fun q => q he), if_neg (by rw [show b.sets.length = 0 by omega]; omega)]
  have hdg : dgB b = degB b := by unfold dgB; rw [if_pos hE0]
  have hz0 : b.sets.length = 0 := by omega
  have hke : k = b.states.toNat := by omega
  have hde : (degB b).edges = b.edges := if_pos hz0
  have hds : (degB b).sets = [allI k] := by rw [hke]; exact if_pos hz0
  have hdst : (degB b).states = b.states := by show ((b.states.toNat * max b.sets.length 1 : Nat) : Int) = b.states; rw [hz0]; simp; omega
  refine ⟨[rowI sb5 sc5 3 1 (ints b.start), rowI eb5 ec5 54 4 (edsC b.edges), rowI (aD bx7) 1 22 1 [(.slice ab ((allI k).length) ac)]] ++ itms 3 [⟨ab, ac, allI k⟩], (Sub.pick0 [3, 3, 0, 0] [rowI (aD bx7) 1 22 1 [(.slice ab ((allI k).length) ac)], rowI ab ac 3 1 (ints (allI k)), oI bx3 26 [(.int .i64 b.vars), (.int .i64 b.states), (.slice sb5 b.start.length sc5), (.slice eb5 b.edges.length ec5), (.slice (aD bx7) 1 1)], rowI sb5 sc5 3 1 (ints b.start), rowI eb5 ec5 54 4 (edsC b.edges), rowI tb5 tc5 22 1 (vals qs5), oI bx2 26 [(.int .i64 b.vars), (.int .i64 b.states), (.slice sb5 b.start.length sc5), (.slice eb5 b.edges.length ec5), (.slice (aD bx7) 1 1)], oI bx1 26 (buC b sb sc eb ec tb tc)] (itms 3 qs5) rfl rfl), sb5, eb5, (aD bx7), sc5, ec5, 1, [⟨ab, ac, allI k⟩], ?_, ?_, ?_⟩
  ·rw [hdg, hE0]; simp only [buC, hde, hds, hdst]; rfl
  ·rw [hdg, hde]; rfl
  ·rw [hdg, hds]; rfl
 have hge30 : ¬ b.sets.length = 0 := by omega
 refine T.skip (T.seq (T.seq (T.rg (TO.q (q_fa Try.underlying26 rfl inf3 rfl rfl) (TO.q (QT.cast (q_lb 5 Try.underlying3 rfl rfl rfl rfl) (v' := .int .i64 ((b.states.toNat : Nat) : Int)) (by show Value.int _ _ = _; rw [Int.toNat_of_nonneg hv0])) (TO.qm rfl (TO.q (q_mulN (a := b.states.toNat) (b := b.sets.length) rfl rfl (by omega)) (TO.q (q_gtr rfl rfl) (TO.nil (T.condP rfl (fun hc => ?_) (fun hc => ?_)))))))))))
 ·have hlt49 : b.states.toNat * b.sets.length > 4096 := by omega
  refine T.seq (T.nilRow 22 1 ?_)
  refine T.nilRow 54 4 ?_
  refine T.nilRow 3 1 ?_
  refine T.rg (TO.q (q_build plan26 inf26 rfl) (TO.l rfl (l_sb (v := (.agg #[(.int .i64 0), (.int .i64 0), nS, nS, nS])) (vs := [(.int .i64 0), (.int .i64 0), nS, nS, nS]) 7 inf26 rfl rfl rfl rfl rfl rfl (by simp [putL]) ?_)))
  refine TO.qa rfl (TO.nil (T.ret (Res.drop ?_)))
  refine Res.cell1b (.int .i64 10) (i := 7) Try.results38 Try.underlying26 rfl inf26 rfl rfl rfl rfl ?_
  have hE9 : degE b = 10 := by unfold degE; rw [if_neg (fun q => q he), if_pos (by omega)]
  have hz9 : dgB b = zeroBu := by unfold dgB; rw [if_neg (by rw [hE9]; omega)]
  refine ⟨[rowI none 0 3 1 [], rowI none 0 54 4 [], rowI none 0 22 1 []] ++ itms 3 [], ?_, none, none, none, 0, 0, 0, [], ?_, ?_, ?_⟩
  ·exact Sub.ca ([oI bx3 26 (buC b sb5 sc5 eb5 ec5 tb5 tc5), rowI sb5 sc5 3 1 (ints b.start), rowI eb5 ec5 54 4 (edsC b.edges), rowI tb5 tc5 22 1 (vals qs5), oI bx2 26 [(.int .i64 0), (.int .i64 0), nS, nS, nS], oI bx1 26 (buC b sb sc eb ec tb tc)] ++ (itms 3 qs5))
  ·rw [hz9, hE9]; rfl
  ·rw [hz9]; rfl
  ·rw [hz9]; rfl
 have hge49 : ¬ b.states.toNat * b.sets.length > 4096 := by omega
 refine T.skip (T.seq ?_)
 refine T.sub (O' := [oI bx3 26 (buC b sb5 sc5 eb5 ec5 tb5 tc5), oI bx2 26 [(.int .i64 0), (.int .i64 0), nS, nS, nS], oI bx1 26 (buC b sb sc eb ec tb tc)]) (Sub.pick0 [0, 3, 3] [oI bx3 26 (buC b sb5 sc5 eb5 ec5 tb5 tc5), rowI sb5 sc5 3 1 (ints b.start), rowI eb5 ec5 54 4 (edsC b.edges), rowI tb5 tc5 22 1 (vals qs5), oI bx2 26 [(.int .i64 0), (.int .i64 0), nS, nS, nS], oI bx1 26 (buC b sb sc eb ec tb tc)] (itms 3 qs5) rfl rfl) ?_
 have hmx : b.states.toNat * b.sets.length ≤ 4096 := by omega
 have hn2 : 1 < b.sets.length := by omega
 refine T.draws [oI bx1 26 (buC b sb sc eb ec tb tc)] [(0, 0), (1, 0), (2, 0), (3, 0), (4, 0), (5, 0), (6, 0), (7, 0), (8, 1), (9, 0), (10, 2)] mixed (by kernel_rfl) (Sub.pick [2] rfl) (fun _ _ _ h => h) ?_
 refine DO.q rfl (q_fa Try.underlying26 rfl inf3 rfl rfl) (DO.q rfl (q_lb 0 Try.underlying3 rfl rfl rfl rfl) (DO.q rfl (q_fa Try.underlying26 rfl inf3 rfl rfl) (DO.q rfl (QT.cast (q_lb 0 Try.underlying3 rfl rfl rfl rfl) (v' := .int .i64 ((b.states.toNat : Nat) : Int)) (by show Value.int _ _ = _; rw [Int.toNat_of_nonneg hv0])) (DO.q rfl (q_move rfl) (DO.q rfl (q_mulN (a := b.states.toNat) (b := b.sets.length) rfl rfl (by omega)) (DO.q rfl (q_fa Try.underlying26 rfl inf22 rfl rfl) (DO.q rfl (q_lb 0 Try.underlying22 rfl rfl rfl rfl) ?_)))))))
 have hk59 := fun (w1 : World) (hI : Inv w [oI bx3 26 (buC b sb5 sc5 eb5 ec5 tb5 tc5), oI bx2 26 [(.int .i64 0), (.int .i64 0), nS, nS, nS], oI bx1 26 (buC b sb sc eb ec tb tc)] w1) => copyInts w1 sb sc b.start (hI.sl h.st) (by omega)
 refine DO.loud rfl rfl (l_call ent48 (CallT.pu hk59) rfl ?_)
 clear hk59
 rintro vr O' ⟨N, rfl, cs2, cc2, rfl, rfl⟩
 refine ⟨Sub.pick [3] rfl, ?_⟩
 refine DO.q rfl (q_build (cs := [(.int .i64 b.vars), .int .i64 ((b.states.toNat * b.sets.length : Nat) : Int), (.slice cs2 b.start.length cc2), nS, nS]) plan26 inf26 (by kernel_rfl)) ?_
 refine DO.last rfl rfl (l_sb (v := (.agg #[(.int .i64 b.vars), .int .i64 ((b.states.toNat * b.sets.length : Nat) : Int), (.slice cs2 b.start.length cc2), nS, nS])) (vs := [(.int .i64 b.vars), .int .i64 ((b.states.toNat * b.sets.length : Nat) : Int), (.slice cs2 b.start.length cc2), nS, nS]) 1 inf26 rfl rfl rfl rfl rfl rfl (by simp [putL]) ?_)
 refine DO.done ?_
 refine T.seq (T.seq (T.rg (TO.qa rfl (TO.nil (T.block (T.nilRow 54 4 ?_))))))
 refine T.loopS (fun (k : Nat) ρ O => ∃ (eb6 : Option Addr) (ec6 : Nat), O = [rowI eb6 ec6 54 4 (edsC (degT b k 0)), rowI cs2 cc2 3 1 (ints b.start), oI bx3 26 [(.int .i64 b.vars), .int .i64 ((b.states.toNat * b.sets.length : Nat) : Int), (.slice cs2 b.start.length cc2), (.slice eb6 ((degT b k 0).length) ec6), nS], oI bx2 26 [(.int .i64 0), (.int .i64 0), nS, nS, nS], oI bx1 26 (buC b sb sc eb ec tb tc)] ∧ k ≤ b.sets.length ∧ Heads [(0, (.agg (buC b sb sc eb ec tb tc).toArray)), (1, (.pointer (aD bx1))), (2, (.pointer (aD bx2))), (3, .int .i64 0), (4, .int .i64 ((checkB b : Nat) : Int)), (5, (.pointer (aD bx3))), (6, .int .i64 (b.sets.length : Int)), (9, .int .i64 (k : Int))] ρ) (fun k => b.sets.length - k) 0 ?_ ?_
 ·exact ⟨none, 0, by rw [degT_zero]; rfl, Nat.zero_le _, ⟨rfl, rfl, rfl, rfl, rfl, rfl, rfl, rfl, trivial⟩⟩
 rintro k ρ O ⟨eb6, ec6, rfl, hk, hH⟩
 obtain ⟨ρ0, rfl⟩ := hH.elim
 clear hH
 refine T.seq (T.seq (T.rg (TO.qm rfl (TO.qm rfl (TO.q (q_lss rfl rfl) (TO.nil (T.condP rfl (fun hc => ?_) (fun hc => ?_))))))))
 ·have hlt63 : k < b.sets.length := by omega
  obtain ⟨rb, rc, g1, s1⟩ := h.rows.get hlt63
  refine T.skip (T.seq (T.block (T.seq (T.rg (TO.qa rfl (TO.nil (T.block ?_)))))))
  refine T.loopS (fun (i : Nat) ρ O => ∃ (eb6 : Option Addr) (ec6 : Nat), O = [rowI eb6 ec6 54 4 (edsC (degT b k i)), rowI cs2 cc2 3 1 (ints b.start), oI bx3 26 [(.int .i64 b.vars), .int .i64 ((b.states.toNat * b.sets.length : Nat) : Int), (.slice cs2 b.start.length cc2), (.slice eb6 ((degT b k i).length) ec6), nS], oI bx2 26 [(.int .i64 0), (.int .i64 0), nS, nS, nS], oI bx1 26 (buC b sb sc eb ec tb tc)] ∧ i ≤ b.edges.length ∧ Heads [(0, (.agg (buC b sb sc eb ec tb tc).toArray)), (1, (.pointer (aD bx1))), (2, (.pointer (aD bx2))), (3, .int .i64 0), (4, .int .i64 ((checkB b : Nat) : Int)), (5, (.pointer (aD bx3))), (6, .int .i64 (b.sets.length : Int)), (9, .int .i64 (k : Int)), (10, .int .i64 (i : Int))] ρ) (fun i => b.edges.length - i) 0 ?_ ?_
  ·exact ⟨eb6, ec6, rfl, Nat.zero_le _, ⟨rfl, rfl, rfl, rfl, rfl, rfl, rfl, rfl, rfl, trivial⟩⟩
  rintro i ρ O ⟨eb6, ec6, rfl, hi, hH⟩
  obtain ⟨ρ0, rfl⟩ := hH.elim
  clear hH
  have hdl := degT_len (b := b) (k := k) hi (by omega) hed
  refine T.seq (T.seq (T.rg (TO.qm rfl (TO.q (q_fa Try.underlying26 rfl inf23 rfl rfl) (TO.q (q_lb 4 Try.underlying23 rfl rfl rfl rfl) (TO.q (q_len Try.underlying23 rfl) (TO.q (q_lss rfl rfl) (TO.nil (T.condP rfl (fun hc => ?_) (fun hc => ?_))))))))))
  ·have hlt70 : i < b.edges.length := by omega
   refine T.skip (T.seq (T.block (T.seq (T.rg (TO.q (q_fa Try.underlying26 rfl inf23 rfl rfl) (TO.q (q_lb 4 Try.underlying23 rfl rfl rfl rfl) (TO.qm rfl (TO.q (q_ixK (i := i) Try.underlying23 inf54 rfl rfl (Sl.o h.ed) (by first | assumption | omega | (simp; omega) | simp_all) (by first | (rw [eds_len]; omega) | (simp [eds_len]; omega) | (simp_all [eds_len]; omega))) (TO.q (q_ldK (vs := [.int .i64 b.edges[i].fr, .int .i64 b.edges[i].to, .int .u8 ((b.edges[i].pos : Nat) : Int), .int .u8 ((b.edges[i].neg : Nat) : Int)]) Try.underlying54 rfl inf54 rfl rfl (Nat.succ_pos _) (Sl.o h.ed) (eds_get (by first | assumption | omega | (simp; omega) | simp_all))) (TO.l rfl (l_alloc inf54 rfl (fun bx8 => ?_))))))))))))
   refine TO.l rfl (l_sb (v := (.agg #[.int .i64 b.edges[i].fr, .int .i64 b.edges[i].to, .int .u8 ((b.edges[i].pos : Nat) : Int), .int .u8 ((b.edges[i].neg : Nat) : Int)])) (vs := [.int .i64 b.edges[i].fr, .int .i64 b.edges[i].to, .int .u8 ((b.edges[i].pos : Nat) : Int), .int .u8 ((b.edges[i].neg : Nat) : Int)]) 0 inf54 rfl rfl rfl rfl rfl rfl (by simp [putL]) ?_)
   refine TO.nil (T.seq (T.rg (TO.qm rfl (TO.qa rfl (TO.nil ?_)))))
   refine T.cut (fun ρ O => Sub [oI bx8 54 [.int .i64 b.edges[i].fr, .int .i64 b.edges[i].to, .int .u8 ((b.edges[i].pos : Nat) : Int), .int .u8 ((b.edges[i].neg : Nat) : Int)], rowI eb6 ec6 54 4 (edsC (degT b k i)), rowI cs2 cc2 3 1 (ints b.start), oI bx3 26 [(.int .i64 b.vars), .int .i64 ((b.states.toNat * b.sets.length : Nat) : Int), (.slice cs2 b.start.length cc2), (.slice eb6 ((degT b k i).length) ec6), nS], oI bx2 26 [(.int .i64 0), (.int .i64 0), nS, nS, nS], oI bx1 26 (buC b sb sc eb ec tb tc)] O ∧ Heads [(0, (.agg (buC b sb sc eb ec tb tc).toArray)), (1, (.pointer (aD bx1))), (2, (.pointer (aD bx2))), (3, .int .i64 0), (4, .int .i64 ((checkB b : Nat) : Int)), (5, (.pointer (aD bx3))), (6, .int .i64 (b.sets.length : Int)), (9, .int .i64 (k : Int)), (10, .int .i64 (i : Int)), (11, (.pointer (aD bx8))), (12, .int .i64 (((degNext b k b.edges[i].fr) : Nat) : Int))] ρ) ?_ ?_
   ·refine T.seq ?_
    have hee := hv.ed _ (List.getElem_mem hlt70)
    have hkN : k * b.states.toNat ≤ 8 * 4096 := Nat.mul_le_mul (by omega) (by omega)
    refine T.draws [oI bx8 54 [.int .i64 b.edges[i].fr, .int .i64 b.edges[i].to, .int .u8 ((b.edges[i].pos : Nat) : Int), .int .u8 ((b.edges[i].neg : Nat) : Int)], oI bx3 26 [(.int .i64 b.vars), .int .i64 ((b.states.toNat * b.sets.length : Nat) : Int), (.slice cs2 b.start.length cc2), (.slice eb6 ((degT b k i).length) ec6), nS], oI bx2 26 [(.int .i64 0), (.int .i64 0), nS, nS, nS], oI bx1 26 (buC b sb sc eb ec tb tc)] [(0, 0), (1, 0), (2, 0), (3, 0), (4, 0), (5, 0), (6, 0), (7, 2)] mixed (by kernel_rfl) (Sub.pick [0, 2, 2, 2] rfl) (fun _ _ _ h => h) ?_
    refine DO.q rfl (q_fa Try.underlying26 rfl inf24 rfl rfl) (DO.q rfl (q_lb 3 Try.underlying24 rfl rfl rfl rfl) (DO.q rfl (q_move rfl) (DO.q rfl (q_ix (i := k) Try.underlying24 inf22 rfl rfl (Sl.o h.out) (by first | assumption | omega | (simp; omega) | simp_all) (by rw [h.rows.1]; exact hlt63)) (DO.q rfl (q_ld Try.underlying22 rfl rfl (Sl.o h.out) g1) (DO.q rfl (q_fa Try.underlying54 rfl inf3 rfl rfl) (DO.q rfl (q_lb 0 Try.underlying3 rfl rfl rfl rfl) ?_))))))
    have hk86 := fun (w1 : World) (hI : Inv w [oI bx8 54 [.int .i64 b.edges[i].fr, .int .i64 b.edges[i].to, .int .u8 ((b.edges[i].pos : Nat) : Int), .int .u8 ((b.edges[i].neg : Nat) : Int)], rowI eb6 ec6 54 4 (edsC (degT b k i)), rowI cs2 cc2 3 1 (ints b.start), oI bx3 26 [(.int .i64 b.vars), .int .i64 ((b.states.toNat * b.sets.length : Nat) : Int), (.slice cs2 b.start.length cc2), (.slice eb6 ((degT b k i).length) ec6), nS], oI bx2 26 [(.int .i64 0), (.int .i64 0), nS, nS, nS], oI bx1 26 (buC b sb sc eb ec tb tc)] w1) => hasInt w1 rb rc b.sets[k] b.edges[i].fr (hI.sl s1) (by have := hB.sr _ (List.getElem_mem hlt63); omega)
    refine DO.last rfl rfl (l_call ent31 (CallT.pu hk86) rfl ?_)
    clear hk86
    rintro vr O' ⟨N, rfl, rfl, rfl⟩
    refine DO.done ?_
    refine T.condP rfl (fun hc => ?_) (fun hc => ?_)
    ·refine T.rg ?_
     refine TO.qm rfl (TO.q (q_addN (a := k) (b := 1) rfl rfl (by omega)) (TO.qm rfl (TO.q (q_remN (a := (k + 1)) (b := b.sets.length) rfl rfl (by omega)) (TO.qa rfl (TO.nil ?_)))))
     exact ⟨(Sub.pick [0, 0, 0, 0, 0, 0] rfl), ⟨rfl, rfl, rfl, rfl, rfl, rfl, rfl, rfl, rfl, rfl, (congrArg (fun z : Nat => Value.int .i64 (z : Int)) (by rw [degNext_mem hlt63 hn2]; first | rw [if_pos (by assumption)] | rw [if_neg (by assumption)])), trivial⟩⟩
    refine T.skip ?_
    exact ⟨(Sub.pick [0, 0, 0, 0, 0, 0] rfl), ⟨rfl, rfl, rfl, rfl, rfl, rfl, rfl, rfl, rfl, rfl, (congrArg (fun z : Nat => Value.int .i64 (z : Int)) (by rw [degNext_mem hlt63 hn2]; first | rw [if_pos (by assumption)] | rw [if_neg (by assumption)])), trivial⟩⟩
   rintro ρ O ⟨hS, hH⟩
   obtain ⟨ρ0, rfl⟩ := hH.elim
   clear hH
   refine T.sub hS ?_
   refine T.seq ?_
   have hee := hv.ed _ (List.getElem_mem hlt70)
   have hkN : k * b.states.toNat ≤ 8 * 4096 := Nat.mul_le_mul (by omega) (by omega)
   have hdn := degNext_lt (x := b.edges[i].fr) hlt63
   have hdN : (degNext b k b.edges[i].fr) * b.states.toNat ≤ 8 * 4096 := Nat.mul_le_mul (by omega) (by omega)
   refine T.draws2 [oI bx1 26 (buC b sb sc eb ec tb tc)] [oI bx8 54 [.int .i64 b.edges[i].fr, .int .i64 b.edges[i].to, .int .u8 ((b.edges[i].pos : Nat) : Int), .int .u8 ((b.edges[i].neg : Nat) : Int)]] [(0, 0), (1, 3), (2, 0), (3, 0), (4, 0), (5, 0), (6, 0), (7, 0), (8, 3), (9, 0), (10, 0), (11, 0), (12, 0), (13, 0), (14, 0), (15, 4), (16, 0), (17, 2)] mixed (by kernel_rfl) (Sub.pick [5] rfl) (Sub.pick [0] rfl) (fun _ _ _ h => h) ?_
   refine DO.q rfl (q_fa Try.underlying54 rfl inf3 rfl rfl) ?_
   refine DO.quiet2 rfl (q_lb 0 Try.underlying3 rfl rfl rfl rfl) ?_
   refine DO.q rfl (q_move rfl) (DO.q rfl (q_fa Try.underlying26 rfl inf3 rfl rfl) (DO.q rfl (QT.cast (q_lb 0 Try.underlying3 rfl rfl rfl rfl) (v' := .int .i64 ((b.states.toNat : Nat) : Int)) (by show Value.int _ _ = _; rw [Int.toNat_of_nonneg hv0])) (DO.q rfl (q_mulN (a := k) (b := b.states.toNat) rfl rfl (by omega)) (DO.q rfl (q_add64 rfl rfl (by omega)) (DO.q rfl (q_fa Try.underlying54 rfl inf3 rfl rfl) ?_)))))
   refine DO.quiet2 rfl (q_lb 0 Try.underlying3 rfl rfl rfl rfl) ?_
   refine DO.q rfl (q_move rfl) (DO.q rfl (q_fa Try.underlying26 rfl inf3 rfl rfl) (DO.q rfl (QT.cast (q_lb 0 Try.underlying3 rfl rfl rfl rfl) (v' := .int .i64 ((b.states.toNat : Nat) : Int)) (by show Value.int _ _ = _; rw [Int.toNat_of_nonneg hv0])) (DO.q rfl (q_mulN (a := (degNext b k b.edges[i].fr)) (b := b.states.toNat) rfl rfl (by omega)) (DO.q rfl (q_add64 rfl rfl (by omega)) (DO.q rfl (q_fa Try.underlying54 rfl inf3 rfl rfl) ?_)))))
   refine DO.last2 rfl rfl (l_sb (v := .int .i64 (b.edges[i].fr + ((k * b.states.toNat : Nat) : Int))) (vs := [(.int .i64 (b.edges[i].fr + ((k * b.states.toNat : Nat) : Int)))]) 0 inf3 rfl rfl rfl rfl rfl rfl (by simp [putL]) ⟨Sub.pick [5] rfl, ?_⟩)
   refine DO.q rfl (q_fa Try.underlying54 rfl inf3 rfl rfl) ?_
   refine DO.last rfl rfl (l_sb (v := .int .i64 (b.edges[i].to + (((degNext b k b.edges[i].fr) * b.states.toNat : Nat) : Int))) (vs := [(.int .i64 (b.edges[i].to + (((degNext b k b.edges[i].fr) * b.states.toNat : Nat) : Int)))]) 0 inf3 rfl rfl rfl rfl rfl rfl (by simp [putL]) ?_)
   refine DO.done ?_
   refine T.rg (TO.q (q_fa Try.underlying26 rfl inf23 rfl rfl) (TO.q (q_lb 3 Try.underlying23 rfl rfl rfl rfl) (TO.q (q_la 0 Try.underlying54 rfl inf54 rfl rfl rfl) (TO.l rfl (l_buildSlice (m := 1) (parts := [(0, _)]) (cs := [(.int .i64 (b.edges[i].fr + ((k * b.states.toNat : Nat) : Int))), (.int .i64 (b.edges[i].to + (((degNext b k b.edges[i].fr) * b.states.toNat : Nat) : Int))), .int .u8 ((b.edges[i].pos : Nat) : Int), .int .u8 ((b.edges[i].neg : Nat) : Int)]) Try.underlying23 inf54 (by decide) (by kernel_rfl) rfl (fun bx9 => ?_))))))
   refine TO.l rfl (l_append 2 Try.underlying23 Try.underlying23 inf54 rfl rfl rfl rfl (by rw [eds_len]) (by decide) (Src.row (j := 0) rfl (by simp)) (by simp [oneB]) (by omega) (by decide) (by decide) (fun bx10 c11 => ?_))
   refine TO.q (q_fa Try.underlying26 rfl inf23 rfl rfl) (TO.l rfl (l_sb (v := (.slice bx10 (((degT b k i).length) + 1) c11)) (vs := [(.slice bx10 (((degT b k i).length) + 1) c11)]) 4 inf23 rfl rfl rfl rfl rfl rfl (by simp [putL]) ?_))
   refine TO.nil (T.rg (TO.qm rfl (TO.q (q_addN (a := i) (b := 1) rfl rfl (by omega)) (TO.qa rfl (TO.nil ?_)))))
   refine ⟨i + 1, by omega, [rowI bx10 c11 54 4 ((edsC (degT b k i)) ++ [(.int .i64 (b.edges[i].fr + ((k * b.states.toNat : Nat) : Int))), (.int .i64 (b.edges[i].to + (((degNext b k b.edges[i].fr) * b.states.toNat : Nat) : Int))), .int .u8 ((b.edges[i].pos : Nat) : Int), .int .u8 ((b.edges[i].neg : Nat) : Int)]), rowI cs2 cc2 3 1 (ints b.start), oI bx3 26 [(.int .i64 b.vars), .int .i64 ((b.states.toNat * b.sets.length : Nat) : Int), (.slice cs2 b.start.length cc2), (.slice bx10 (((degT b k i).length) + 1) c11), nS], oI bx2 26 [(.int .i64 0), (.int .i64 0), nS, nS, nS], oI bx1 26 (buC b sb sc eb ec tb tc)], (Sub.pick [2, 2, 2, 2, 2] rfl), bx10, c11, ?_, by omega, ⟨rfl, rfl, rfl, rfl, rfl, rfl, rfl, rfl, rfl, trivial⟩⟩
   rw [degT_succ hlt70, eds_append, show ((degT b k i) ++ [degE1 b k b.edges[i]]).length = (degT b k i).length + 1 by simp] <;> rfl
  have hge70 : ¬ i < b.edges.length := by omega
  refine T.exit ?_
  refine T.rg (TO.qm rfl (TO.q (q_addN (a := k) (b := 1) rfl rfl (by omega)) (TO.qa rfl (TO.nil ?_))))
  have hie : i = b.edges.length := by omega
  refine ⟨k + 1, by omega, [rowI eb6 ec6 54 4 (edsC (degT b k i)), rowI cs2 cc2 3 1 (ints b.start), oI bx3 26 [(.int .i64 b.vars), .int .i64 ((b.states.toNat * b.sets.length : Nat) : Int), (.slice cs2 b.start.length cc2), (.slice eb6 ((degT b k i).length) ec6), nS], oI bx2 26 [(.int .i64 0), (.int .i64 0), nS, nS, nS], oI bx1 26 (buC b sb sc eb ec tb tc)], (Sub.pick [0, 0, 0, 0, 0] rfl), eb6, ec6, ?_, by omega, ⟨rfl, rfl, rfl, rfl, rfl, rfl, rfl, rfl, trivial⟩⟩
  rw [← degT_all, hie]
 have hge63 : ¬ k < b.sets.length := by omega
 refine T.exit ?_
 refine T.seq ?_
 have hke : k = b.sets.length := by omega
 have hn1 : b.sets.length - 1 < b.sets.length := by omega
 obtain ⟨rb2, rc2, g2, s2⟩ := h.rows.get hn1
 have hkm : (b.sets.length - 1) * b.states.toNat ≤ 8 * 4096 := Nat.mul_le_mul (by omega) (by omega)
 refine T.rg (TO.qa rfl (TO.nil (T.seq (T.seq (T.rg (TO.qa rfl (TO.nil (T.block (T.nilRow 3 1 ?_)))))))))
 refine T.loopS (fun (j : Nat) ρ O => ∃ (lb : Option Addr) (lc : Nat), O = [rowI lb lc 3 1 (ints (addL b.sets[b.sets.length - 1] ((b.sets.length - 1) * b.states.toNat) j)), rowI eb6 ec6 54 4 (edsC (degT b k 0)), rowI cs2 cc2 3 1 (ints b.start), oI bx3 26 [(.int .i64 b.vars), .int .i64 ((b.states.toNat * b.sets.length : Nat) : Int), (.slice cs2 b.start.length cc2), (.slice eb6 ((degT b k 0).length) ec6), nS], oI bx2 26 [(.int .i64 0), (.int .i64 0), nS, nS, nS], oI bx1 26 (buC b sb sc eb ec tb tc)] ∧ j ≤ b.sets[b.sets.length - 1].length ∧ Heads [(0, (.agg (buC b sb sc eb ec tb tc).toArray)), (1, (.pointer (aD bx1))), (2, (.pointer (aD bx2))), (3, .int .i64 0), (4, .int .i64 ((checkB b : Nat) : Int)), (5, (.pointer (aD bx3))), (6, .int .i64 (b.sets.length : Int)), (9, .int .i64 (k : Int)), (13, (.slice lb ((addL b.sets[b.sets.length - 1] ((b.sets.length - 1) * b.states.toNat) j).length) lc)), (14, .int .i64 (j : Int))] ρ) (fun j => b.sets[b.sets.length - 1].length - j) 0 ?_ ?_
 ·exact ⟨none, 0, rfl, Nat.zero_le _, ⟨rfl, rfl, rfl, rfl, rfl, rfl, rfl, rfl, rfl, rfl, trivial⟩⟩
 rintro j ρ O ⟨lb, lc, rfl, hj, hH⟩
 obtain ⟨ρ0, rfl⟩ := hH.elim
 clear hH
 have hal := addL_len b.sets[b.sets.length - 1] ((b.sets.length - 1) * b.states.toNat) j
 have hbl := hB.sr _ (List.getElem_mem hn1)
 refine T.seq (T.seq (T.rg (TO.qm rfl (TO.q (q_fa Try.underlying26 rfl inf24 rfl rfl) (TO.q (q_lb 5 Try.underlying24 rfl rfl rfl rfl) (TO.qm rfl (TO.q (q_subN (a := b.sets.length) (b := 1) rfl rfl (by omega) (by omega)) (TO.q (q_ix (i := (b.sets.length - 1)) Try.underlying24 inf22 rfl rfl (Sl.o h.out) (by first | assumption | omega | (simp; omega) | simp_all) (by rw [h.rows.1]; exact hn1)) (TO.q (q_ld Try.underlying22 rfl rfl (Sl.o h.out) g2) (TO.q (q_len Try.underlying22 rfl) (TO.q (q_lss rfl rfl) (TO.nil (T.condP rfl (fun hc => ?_) (fun hc => ?_))))))))))))))
 ·have hlt121 : j < b.sets[b.sets.length - 1].length := by omega
  have hxk := hv.se _ (List.getElem_mem hn1) _ (List.getElem_mem hlt121)
  refine T.skip (T.seq (T.block ?_))
  refine T.draws [oI bx1 26 (buC b sb sc eb ec tb tc)] [(0, 0), (1, 0), (2, 0), (3, 0), (4, 0), (5, 0), (6, 0), (7, 0), (8, 0), (9, 0), (10, 0), (11, 0), (12, 0), (13, 0), (14, 0), (15, 0), (16, 1), (17, 2), (18, 2)] mixed (by kernel_rfl) (Sub.pick [5] rfl) (fun _ _ _ h => h) ?_
  refine DO.q rfl (q_move rfl) (DO.q rfl (q_fa Try.underlying26 rfl inf24 rfl rfl) (DO.q rfl (q_lb 0 Try.underlying24 rfl rfl rfl rfl) (DO.q rfl (q_move rfl) (DO.q rfl (q_subN (a := b.sets.length) (b := 1) rfl rfl (by omega) (by omega)) (DO.q rfl (q_ix (i := (b.sets.length - 1)) Try.underlying24 inf22 rfl rfl (Sl.o h.out) (by first | assumption | omega | (simp; omega) | simp_all) (by rw [h.rows.1]; exact hn1)) (DO.q rfl (q_ld Try.underlying22 rfl rfl (Sl.o h.out) g2) (DO.q rfl (q_move rfl) (DO.q rfl (q_ix (i := j) Try.underlying22 inf3 rfl rfl (Sl.o s2)) (DO.q rfl (q_ld Try.underlying3 rfl rfl (Sl.o s2) ints_get) (DO.q rfl (q_move rfl) (DO.q rfl (q_subN (a := b.sets.length) (b := 1) rfl rfl (by omega) (by omega)) (DO.q rfl (q_fa Try.underlying26 rfl inf3 rfl rfl) (DO.q rfl (QT.cast (q_lb 0 Try.underlying3 rfl rfl rfl rfl) (v' := .int .i64 ((b.states.toNat : Nat) : Int)) (by show Value.int _ _ = _; rw [Int.toNat_of_nonneg hv0])) (DO.q rfl (q_mulN (a := (b.sets.length - 1)) (b := b.states.toNat) rfl rfl (by omega)) (DO.q rfl (q_add64 rfl rfl (by omega)) ?_)))))))))))))))
  refine DO.loud rfl rfl (l_build1 (v := .int .i64 (((b.sets[b.sets.length - 1])[j]) + (((b.sets.length - 1) * b.states.toNat : Nat) : Int))) Try.underlying22 inf3 rfl rfl rfl (fun bx12 => ⟨Sub.pick [6] rfl, ?_⟩))
  refine DO.last rfl rfl (l_append 1 Try.underlying22 Try.underlying22 inf3 rfl rfl rfl rfl (by simp) (by decide) (Src.row (j := 0) rfl (by simp)) (by simp [oneB]) (by omega) (by decide) (by decide) (fun bx13 c14 => ?_))
  refine DO.last rfl rfl (LT.oq rfl rfl (q_assign rfl) ?_)
  refine DO.done ?_
  refine T.rg (TO.qm rfl (TO.q (q_addN (a := j) (b := 1) rfl rfl (by omega)) (TO.qa rfl (TO.nil ?_))))
  refine ⟨j + 1, by omega, [rowI bx13 c14 3 1 ((ints (addL b.sets[b.sets.length - 1] ((b.sets.length - 1) * b.states.toNat) j)) ++ [.int .i64 (((b.sets[b.sets.length - 1])[j]) + (((b.sets.length - 1) * b.states.toNat : Nat) : Int))]), rowI eb6 ec6 54 4 (edsC (degT b k 0)), rowI cs2 cc2 3 1 (ints b.start), oI bx3 26 [(.int .i64 b.vars), .int .i64 ((b.states.toNat * b.sets.length : Nat) : Int), (.slice cs2 b.start.length cc2), (.slice eb6 ((degT b k 0).length) ec6), nS], oI bx2 26 [(.int .i64 0), (.int .i64 0), nS, nS, nS], oI bx1 26 (buC b sb sc eb ec tb tc)], (Sub.pick [1, 1, 1, 1, 1, 1] rfl), bx13, c14, ?_, by omega, ⟨rfl, rfl, rfl, rfl, rfl, rfl, rfl, rfl, (by rw [addL_succ hlt121, List.length_append]; rfl), rfl, trivial⟩⟩
  rw [addL_succ hlt121, show ints ((addL b.sets[b.sets.length - 1] ((b.sets.length - 1) * b.states.toNat) j) ++ [b.sets[b.sets.length - 1][j] + (((((b.sets.length - 1) * b.states.toNat) : Nat)) : Int)]) = ints (addL b.sets[b.sets.length - 1] ((b.sets.length - 1) * b.states.toNat) j) ++ [.int .i64 (b.sets[b.sets.length - 1][j] + ((((b.sets.length - 1) * b.states.toNat) : Nat) : Int))] from List.map_append]
 have hge121 : ¬ j < b.sets[b.sets.length - 1].length := by omega
 refine T.exit ?_
 refine T.seq (T.rg (TO.qm rfl (TO.l rfl (l_build1 (v := (.slice lb ((addL b.sets[b.sets.length - 1] ((b.sets.length - 1) * b.states.toNat) j).length) lc)) Try.underlying24 inf22 rfl rfl rfl (fun bx15 => ?_)))))
 refine TO.q (q_fa Try.underlying26 rfl inf24 rfl rfl) (TO.l rfl (l_sb (v := (.slice (aD bx15) 1 1)) (vs := [(.slice (aD bx15) 1 1)]) 4 inf24 rfl rfl rfl rfl rfl rfl (by simp [putL]) ?_))
 refine TO.nil (T.seq (T.rg (TO.q (q_la 4 Try.underlying26 rfl inf26 rfl rfl rfl) (TO.l rfl (l_sb (v := (.agg #[(.int .i64 b.vars), .int .i64 ((b.states.toNat * b.sets.length : Nat) : Int), (.slice cs2 b.start.length cc2), (.slice eb6 ((degT b k 0).length) ec6), (.slice (aD bx15) 1 1)])) (vs := [(.int .i64 b.vars), .int .i64 ((b.states.toNat * b.sets.length : Nat) : Int), (.slice cs2 b.start.length cc2), (.slice eb6 ((degT b k 0).length) ec6), (.slice (aD bx15) 1 1)]) 5 inf26 rfl rfl rfl rfl rfl rfl (by simp [putL]) ?_)))))
 refine TO.qa rfl (TO.nil (T.ret (Res.drop ?_)))
 refine Res.cell1b (.int .i64 0) (i := 5) Try.results38 Try.underlying26 rfl inf26 rfl rfl rfl rfl ?_
 have hE0 : degE b = 0 := by unfold degE; rw [if_neg (fun q => q he), if_neg (by omega)]
 have hdg : dgB b = degB b := by unfold dgB; rw [if_pos hE0]
 have hz0 : ¬ b.sets.length = 0 := by omega
 have hde : (degB b).edges = degT b k 0 := by rw [degT_zero, hke]; exact if_neg hz0
 have hds : (degB b).sets = [addL b.sets[b.sets.length - 1] ((b.sets.length - 1) * b.states.toNat) j] := by rw [show addL b.sets[b.sets.length - 1] ((b.sets.length - 1) * b.states.toNat) j = lastB b by rw [lastB_eq hn1, show j = b.sets[b.sets.length - 1].length by omega, addL_all]]; exact if_neg hz0
 have hdst : (degB b).states = ((b.states.toNat * b.sets.length : Nat) : Int) := by show ((b.states.toNat * max b.sets.length 1 : Nat) : Int) = _; rw [show max b.sets.length 1 = b.sets.length by omega]
 refine ⟨[rowI cs2 cc2 3 1 (ints b.start), rowI eb6 ec6 54 4 (edsC (degT b k 0)), rowI (aD bx15) 1 22 1 [(.slice lb ((addL b.sets[b.sets.length - 1] ((b.sets.length - 1) * b.states.toNat) j).length) lc)]] ++ itms 3 [⟨lb, lc, addL b.sets[b.sets.length - 1] ((b.sets.length - 1) * b.states.toNat) j⟩], (Sub.pick [3, 2, 0, 0] rfl), cs2, eb6, (aD bx15), cc2, ec6, 1, [⟨lb, lc, addL b.sets[b.sets.length - 1] ((b.sets.length - 1) * b.states.toNat) j⟩], ?_, ?_, ?_⟩
 ·rw [hdg, hE0]; simp only [buC, hde, hds, hdst]; rfl
 ·rw [hdg, hde]; rfl
 ·rw [hdg, hds]; rfl
end Go.Proofs.Ytnamoapbienooaa
