/- Contracts of functions of the program (BRef): what each call answers and that it leaves memory as it was. Conditions: those each theorem names. -/
import Derived.Test.YtnamoapbienooaaBLive
import Derived.Test.YtnamoapbienooaaLv
set_option linter.unusedSectionVars false
set_option linter.unusedSimpArgs false
set_option linter.unusedVariables false
set_option linter.unnecessarySimpa false
set_option maxRecDepth 20000
set_option maxHeartbeats 4000000
namespace Go.Proofs.Ytnamoapbienooaa
open Go.Lx Go.RowKit
set_option linter.unusedVariables false
set_option linter.unusedSimpArgs false
theorem refCheckF (w : World) (b : Bu) (sb eb tb : Option Addr) (sc ec tc : Nat) (vs : List Value) (h : BuAt w b sb eb tb vs) (hB : BuB b) :
  PureT Try.prog 22 [.agg (buC b sb sc eb ec tb tc).toArray] w fun v N => v = .int .i64 (checkB b : Int) ∧ N = [] := by
 refine CallT.enter Try.func22 rfl Try.ntmps22 rfl ?_
 have hst := hB.st; have hed := hB.ed; have hse := hB.se
 have hvl := h.rows.1
 refine T.seq (T.rg (TO.l rfl (l_box (v := (.agg (buC b sb sc eb ec tb tc).toArray)) (cs := (buC b sb sc eb ec tb tc)) rfl rfl (fun bx1 => ?_))))
 refine TO.qa rfl (TO.nil (T.seq (T.seq (T.rg (TO.q (q_fa Try.underlying26 rfl inf3 rfl rfl) (TO.q (q_lb 0 Try.underlying3 rfl rfl rfl rfl) (TO.q (q_lss rfl rfl) ?_)))))))
 by_cases hs9 : b.vars < 0
 ·refine TO.q (QT.toB (q_move rfl) (decide_eq_true hs9)) ?_
  refine TO.pd rfl rfl (TO.pd rfl rfl (TO.pd rfl rfl (TO.q (q_pick1 rfl rfl) (TO.nil ?_))))
  refine T.cond1 rfl ?_
  refine T.seq (T.rg (TO.qa rfl (TO.nil (T.ret (Res.drop ?_)))))
  refine Res.one (.int .i64 7) Try.results22 rfl ?_
  refine ⟨[], Sub.of (List.nil_sublist _), congrArg (fun z : Nat => Value.int .i64 (z : Int)) (Eq.symm (a := checkB b) (b := 7) ?_), rfl⟩
  exact checkB_7 (by omega)
 refine TO.q (QT.toB (q_move rfl) (decide_eq_false hs9)) (TO.gq rfl rfl (q_fa Try.underlying26 rfl inf3 rfl rfl) (TO.gq rfl rfl (q_lb 0 Try.underlying3 rfl rfl rfl rfl) (TO.gq rfl rfl (q_gtr rfl rfl) (TO.q (q_pick0 rfl rfl) (TO.nil (T.condP rfl (fun hc => ?_) (fun hc => ?_)))))))
 ·refine T.seq ?_
  refine T.rg (TO.qa rfl (TO.nil (T.ret (Res.drop ?_))))
  refine Res.one (.int .i64 7) Try.results22 rfl ?_
  refine ⟨[], Sub.of (List.nil_sublist _), congrArg (fun z : Nat => Value.int .i64 (z : Int)) (Eq.symm (a := checkB b) (b := 7) ?_), rfl⟩
  exact checkB_7 (by omega)
 refine T.skip (T.seq (T.seq (T.rg (TO.q (q_fa Try.underlying26 rfl inf3 rfl rfl) (TO.q (q_lb 0 Try.underlying3 rfl rfl rfl rfl) (TO.q (q_lss rfl rfl) (TO.nil (T.condP rfl (fun hc => ?_) (fun hc => ?_)))))))))
 ·refine T.seq ?_
  refine T.rg (TO.qa rfl (TO.nil (T.ret (Res.drop ?_))))
  refine Res.one (.int .i64 1) Try.results22 rfl ?_
  refine ⟨[], Sub.of (List.nil_sublist _), congrArg (fun z : Nat => Value.int .i64 (z : Int)) (Eq.symm (a := checkB b) (b := 1) ?_), rfl⟩
  exact checkB_1 (by omega) (by omega)
 refine T.skip (T.seq (T.seq (T.rg (TO.q (q_fa Try.underlying26 rfl inf3 rfl rfl) (TO.q (q_lb 0 Try.underlying3 rfl rfl rfl rfl) (TO.q (q_gtr rfl rfl) (TO.nil (T.condP rfl (fun hc => ?_) (fun hc => ?_)))))))))
 ·refine T.seq ?_
  refine T.rg (TO.qa rfl (TO.nil (T.ret (Res.drop ?_))))
  refine Res.one (.int .i64 10) Try.results22 rfl ?_
  refine ⟨[], Sub.of (List.nil_sublist _), congrArg (fun z : Nat => Value.int .i64 (z : Int)) (Eq.symm (a := checkB b) (b := 10) ?_), rfl⟩
  exact checkB_10 (by omega) (by omega) (by omega)
 refine T.skip (T.seq (T.seq (T.rg (TO.q (q_fa Try.underlying26 rfl inf24 rfl rfl) (TO.q (q_lb 0 Try.underlying24 rfl rfl rfl rfl) (TO.q (q_len Try.underlying24 rfl) (TO.q (q_gtr rfl rfl) (TO.nil (T.condP rfl (fun hc => ?_) (fun hc => ?_))))))))))
 ·have hlt23 : b.sets.length > 8 := by omega
  refine T.seq (T.rg (TO.qa rfl (TO.nil (T.ret (Res.drop ?_)))))
  refine Res.one (.int .i64 4) Try.results22 rfl ?_
  refine ⟨[], Sub.of (List.nil_sublist _), congrArg (fun z : Nat => Value.int .i64 (z : Int)) (Eq.symm (a := checkB b) (b := 4) ?_), rfl⟩
  exact checkB_4 (by omega) (by omega) (by omega) (by omega)
 have hge23 : ¬ b.sets.length > 8 := by omega
 refine T.skip (T.seq (T.seq (T.rg (TO.q (q_fa Try.underlying26 rfl inf22 rfl rfl) (TO.q (q_lb 0 Try.underlying22 rfl rfl rfl rfl) (TO.q (q_fa Try.underlying26 rfl inf3 rfl rfl) (TO.q (q_lb 0 Try.underlying3 rfl rfl rfl rfl) ?_)))))))
 have hk28 := fun (w1 : World) (hI : Inv w [oI bx1 26 (buC b sb sc eb ec tb tc)] w1) => risesF w1 sb sc b.start b.states (hI.sl h.st) hst
 refine TO.l rfl (l_call ent65 (CallT.pu hk28) rfl ?_)
 clear hk28
 rintro vr O' ⟨N, rfl, rfl, rfl⟩
 refine TO.q (q_not rfl) (TO.nil (T.cond rfl (fun hc => ?_) (fun hc => ?_)))
 ·refine T.seq ?_
  refine T.rg (TO.qa rfl (TO.nil (T.ret (Res.drop ?_))))
  refine Res.one (.int .i64 8) Try.results22 rfl ?_
  refine ⟨[], Sub.of (List.nil_sublist _), congrArg (fun z : Nat => Value.int .i64 (z : Int)) (Eq.symm (a := checkB b) (b := 8) ?_), rfl⟩
  exact checkB_8 (by omega) (by omega) (by omega) (by omega) (all_no (k := 0) (by simp) (by simpa using hc))
 refine T.skip (T.seq (T.seq (T.rg (TO.qa rfl (TO.nil (T.block ?_))))))
 refine T.loop (fun (k : Nat) ρ O => O = [oI bx1 26 (buC b sb sc eb ec tb tc)] ∧ k ≤ b.sets.length ∧ rises b.states (-1) b.start = true ∧ (b.sets.take k).all (rises b.states (-1)) = true ∧ Heads [(0, (.agg (buC b sb sc eb ec tb tc).toArray)), (1, (.pointer (aD bx1))), (3, .int .i64 (k : Int))] ρ) (fun k => b.sets.length - k) 0 ?_ ?_
 ·exact ⟨rfl, Nat.zero_le _, by simpa using hc, rfl, ⟨rfl, rfl, rfl, trivial⟩⟩
 rintro k ρ O ⟨rfl, hk, hrs, hall, hH⟩
 obtain ⟨ρ0, rfl⟩ := hH.elim
 clear hH
 refine T.seq (T.seq (T.rg (TO.qm rfl (TO.q (q_fa Try.underlying26 rfl inf24 rfl rfl) (TO.q (q_lb 0 Try.underlying24 rfl rfl rfl rfl) (TO.q (q_len Try.underlying24 rfl) (TO.q (q_lss rfl rfl) (TO.nil (T.condP rfl (fun hc => ?_) (fun hc => ?_))))))))))
 ·have hlt34 : k < b.sets.length := by omega
  obtain ⟨rb, rc, g1, s1⟩ := h.rows.get hlt34
  refine T.skip (T.seq (T.block (T.seq ?_)))
  refine T.draws _ [(0, 0), (1, 0), (2, 0), (3, 0), (4, 0), (5, 0), (6, 0), (7, 2), (8, 2)] mixed (by kernel_rfl) (Sub.of (List.Sublist.refl _)) (fun _ _ _ h => h) ?_
  refine DO.q rfl (q_fa Try.underlying26 rfl inf24 rfl rfl) (DO.q rfl (q_lb 0 Try.underlying24 rfl rfl rfl rfl) (DO.q rfl (q_move rfl) (DO.q rfl (q_ix (i := k) Try.underlying24 inf22 rfl rfl (Sl.o h.out) (by first | assumption | omega | (simp; omega) | simp_all) (by rw [hvl]; exact hlt34)) (DO.q rfl (q_ld Try.underlying22 rfl rfl (Sl.o h.out) g1) (DO.q rfl (q_fa Try.underlying26 rfl inf3 rfl rfl) (DO.q rfl (q_lb 0 Try.underlying3 rfl rfl rfl rfl) ?_))))))
  have hk44 := fun (w1 : World) (hI : Inv w [oI bx1 26 (buC b sb sc eb ec tb tc)] w1) => risesF w1 rb rc b.sets[k] b.states (hI.sl s1) (hB.sr _ (List.getElem_mem hlt34))
  refine DO.last rfl rfl (l_call ent65 (CallT.pu hk44) rfl ?_)
  clear hk44
  rintro vr O' ⟨N, rfl, rfl, rfl⟩
  refine DO.last rfl rfl (LT.oq rfl rfl (q_not rfl) ?_)
  refine DO.done ?_
  refine T.cond rfl (fun hc => ?_) (fun hc => ?_)
  ·refine T.seq ?_
   refine T.rg (TO.qa rfl (TO.nil (T.ret (Res.drop ?_))))
   refine Res.one (.int .i64 8) Try.results22 rfl ?_
   refine ⟨[], Sub.of (List.nil_sublist _), congrArg (fun z : Nat => Value.int .i64 (z : Int)) (Eq.symm (a := checkB b) (b := 8) ?_), rfl⟩
   exact checkB_8 (by omega) (by omega) (by omega) (by omega) (all_no (k := k + 1) (by simp; omega) (by simpa using hc))
  refine T.skip (T.rg (TO.qm rfl (TO.q (q_addN (a := k) (b := 1) rfl rfl (by omega)) (TO.qa rfl (TO.nil ?_)))))
  exact ⟨k + 1, by omega, rfl, by omega, hrs, all_snoc hlt34 hall (by simpa using hc), ⟨rfl, rfl, rfl, trivial⟩⟩
 have hge34 : ¬ k < b.sets.length := by omega
 refine T.exit ?_
 refine T.seq (T.seq (T.rg (TO.qa rfl (TO.nil (T.block ?_)))))
 refine T.loopS (fun (j : Nat) ρ O => O = [oI bx1 26 (buC b sb sc eb ec tb tc)] ∧ j ≤ b.edges.length ∧ edgesE b.states b.vars.toNat (b.edges.drop j) = checkB b ∧ Heads [(0, (.agg (buC b sb sc eb ec tb tc).toArray)), (1, (.pointer (aD bx1))), (3, .int .i64 (k : Int)), (4, .int .i64 (j : Int))] ρ) (fun j => b.edges.length - j) 0 ?_ ?_
 ·exact ⟨rfl, Nat.zero_le _, (checkB_e (by omega) (by omega) (by omega) (by omega) (by rw [List.all_cons, hrs, all_done (by omega) hall]; rfl)).symm, ⟨rfl, rfl, rfl, rfl, trivial⟩⟩
 rintro j ρ O ⟨rfl, hj, he, hH⟩
 obtain ⟨ρ0, rfl⟩ := hH.elim
 clear hH
 refine T.seq (T.seq (T.rg (TO.qm rfl (TO.q (q_fa Try.underlying26 rfl inf23 rfl rfl) (TO.q (q_lb 0 Try.underlying23 rfl rfl rfl rfl) (TO.q (q_len Try.underlying23 rfl) (TO.q (q_lss rfl rfl) (TO.nil (T.condP rfl (fun hc => ?_) (fun hc => ?_))))))))))
 ·have hlt50 : j < b.edges.length := by omega
  have hpn := hB.pn _ (List.getElem_mem hlt50)
  refine T.skip (T.seq (T.block (T.seq (T.rg (TO.q (q_fa Try.underlying26 rfl inf23 rfl rfl) (TO.q (q_lb 0 Try.underlying23 rfl rfl rfl rfl) (TO.qm rfl (TO.q (q_ixK (i := j) Try.underlying23 inf54 rfl rfl (Sl.o h.ed) (by first | assumption | omega | (simp; omega) | simp_all) (by first | (rw [eds_len]; omega) | (simp [eds_len]; omega) | (simp_all [eds_len]; omega))) (TO.q (q_ldK (vs := [.int .i64 b.edges[j].fr, .int .i64 b.edges[j].to, .int .u8 ((b.edges[j].pos : Nat) : Int), .int .u8 ((b.edges[j].neg : Nat) : Int)]) Try.underlying54 rfl inf54 rfl rfl (Nat.succ_pos _) (Sl.o h.ed) (eds_get (by first | assumption | omega | (simp; omega) | simp_all))) (TO.l rfl (l_alloc inf54 rfl (fun bx2 => ?_))))))))))))
  refine TO.l rfl (l_sb (v := (.agg #[.int .i64 b.edges[j].fr, .int .i64 b.edges[j].to, .int .u8 ((b.edges[j].pos : Nat) : Int), .int .u8 ((b.edges[j].neg : Nat) : Int)])) (vs := [.int .i64 b.edges[j].fr, .int .i64 b.edges[j].to, .int .u8 ((b.edges[j].pos : Nat) : Int), .int .u8 ((b.edges[j].neg : Nat) : Int)]) 0 inf54 rfl rfl rfl rfl rfl rfl (by simp [putL]) ?_)
  refine TO.nil (T.seq (T.seq (T.rg (TO.q (q_fa Try.underlying54 rfl inf3 rfl rfl) (TO.q (q_lb 0 Try.underlying3 rfl rfl rfl rfl) (TO.q (q_lss rfl rfl) ?_))))))
  by_cases hs61 : b.edges[j].fr < 0
  ·refine TO.q (QT.toB (q_move rfl) (decide_eq_true hs61)) ?_
   refine TO.pd rfl rfl (TO.pd rfl rfl (TO.pd rfl rfl (TO.pd rfl rfl (TO.pd rfl rfl (TO.q (q_pick1 rfl rfl) (TO.qm rfl (TO.pd rfl rfl (TO.pd rfl rfl ?_))))))))
   refine TO.pd rfl rfl (TO.q (q_pick1 rfl rfl) (TO.qm rfl (TO.pd rfl rfl (TO.pd rfl rfl (TO.pd rfl rfl (TO.pd rfl rfl (TO.pd rfl rfl (TO.q (q_pick1 rfl rfl) ?_))))))))
   refine TO.nil ?_
   refine T.cond1 rfl ?_
   refine T.seq (T.rg (TO.qa rfl (TO.nil (T.ret (Res.drop ?_)))))
   refine Res.one (.int .i64 8) Try.results22 rfl ?_
   refine ⟨[], Sub.of (List.nil_sublist _), congrArg (fun z : Nat => Value.int .i64 (z : Int)) (Eq.symm (a := checkB b) (b := 8) ?_), rfl⟩
   rw [← he]; exact edges_8 hlt50 (by omega)
  refine TO.q (QT.toB (q_move rfl) (decide_eq_false hs61)) (TO.gq rfl rfl (q_fa Try.underlying54 rfl inf3 rfl rfl) (TO.gq rfl rfl (q_lb 0 Try.underlying3 rfl rfl rfl rfl) (TO.gq rfl rfl (q_fa Try.underlying26 rfl inf3 rfl rfl) (TO.gq rfl rfl (q_lb 1 Try.underlying3 rfl rfl rfl rfl) (TO.gq rfl rfl (q_geq rfl rfl) (TO.q (q_pick0 rfl rfl) ?_))))))
  by_cases hs68 : b.edges[j].fr ≥ b.states
  ·refine TO.q (QT.toB (q_move rfl) (decide_eq_true hs68)) ?_
   refine TO.pd rfl rfl (TO.pd rfl rfl (TO.pd rfl rfl (TO.q (q_pick1 rfl rfl) (TO.qm rfl (TO.pd rfl rfl (TO.pd rfl rfl (TO.pd rfl rfl (TO.pd rfl rfl ?_))))))))
   refine TO.pd rfl rfl (TO.q (q_pick1 rfl rfl) (TO.nil ?_))
   refine T.cond1 rfl ?_
   refine T.seq (T.rg (TO.qa rfl (TO.nil (T.ret (Res.drop ?_)))))
   refine Res.one (.int .i64 8) Try.results22 rfl ?_
   refine ⟨[], Sub.of (List.nil_sublist _), congrArg (fun z : Nat => Value.int .i64 (z : Int)) (Eq.symm (a := checkB b) (b := 8) ?_), rfl⟩
   rw [← he]; exact edges_8 hlt50 (by omega)
  refine TO.q (QT.toB (q_move rfl) (decide_eq_false hs68)) (TO.gq rfl rfl (q_fa Try.underlying54 rfl inf3 rfl rfl) (TO.gq rfl rfl (q_lb 0 Try.underlying3 rfl rfl rfl rfl) (TO.gq rfl rfl (q_lss rfl rfl) (TO.q (q_pick0 rfl rfl) ?_))))
  by_cases hs73 : b.edges[j].to < 0
  ·refine TO.q (QT.toB (q_move rfl) (decide_eq_true hs73)) ?_
   refine TO.pd rfl rfl (TO.pd rfl rfl (TO.pd rfl rfl (TO.pd rfl rfl (TO.pd rfl rfl (TO.q (q_pick1 rfl rfl) (TO.nil ?_))))))
   refine T.cond1 rfl ?_
   refine T.seq (T.rg (TO.qa rfl (TO.nil (T.ret (Res.drop ?_)))))
   refine Res.one (.int .i64 8) Try.results22 rfl ?_
   refine ⟨[], Sub.of (List.nil_sublist _), congrArg (fun z : Nat => Value.int .i64 (z : Int)) (Eq.symm (a := checkB b) (b := 8) ?_), rfl⟩
   rw [← he]; exact edges_8 hlt50 (by omega)
  refine TO.q (QT.toB (q_move rfl) (decide_eq_false hs73)) (TO.gq rfl rfl (q_fa Try.underlying54 rfl inf3 rfl rfl) (TO.gq rfl rfl (q_lb 0 Try.underlying3 rfl rfl rfl rfl) (TO.gq rfl rfl (q_fa Try.underlying26 rfl inf3 rfl rfl) (TO.gq rfl rfl (q_lb 1 Try.underlying3 rfl rfl rfl rfl) (TO.gq rfl rfl (q_geq rfl rfl) (TO.q (q_pick0 rfl rfl) (TO.nil (T.condP rfl (fun hc => ?_) (fun hc => ?_)))))))))
  ·refine T.seq ?_
   refine T.rg (TO.qa rfl (TO.nil (T.ret (Res.drop ?_))))
   refine Res.one (.int .i64 8) Try.results22 rfl ?_
   refine ⟨[], Sub.of (List.nil_sublist _), congrArg (fun z : Nat => Value.int .i64 (z : Int)) (Eq.symm (a := checkB b) (b := 8) ?_), rfl⟩
   rw [← he]; exact edges_8 hlt50 (by omega)
  refine T.skip (T.seq (T.rg (TO.q (q_fa Try.underlying54 rfl inf5 rfl rfl) (TO.q (q_lb 0 Try.underlying5 rfl rfl rfl rfl) (TO.q (q_conv_id Try.underlying5 Try.underlying3 rfl (wrap64_id ⟨by omega, by omega⟩)) (TO.q (q_fa Try.underlying26 rfl inf3 rfl rfl) (TO.q (q_lb 1 Try.underlying3 rfl rfl rfl rfl) (TO.q (q_conv_id Try.underlying3 Try.underlying52 rfl (show IntKind.u64.wrap b.vars = b.vars by unfold IntKind.wrap; simp [IntKind.bits, IntKind.signed]; omega)) (TO.q (q_shl1 (v := b.vars.toNat) rfl (by show Value.int _ b.vars = _; rw [Int.toNat_of_nonneg (by omega)]) (by omega)) (TO.q (q_geq rfl rfl) ?_))))))))))
  by_cases hs88 : ((b.edges[j].pos : Nat) : Int) ≥ ((2 ^ b.vars.toNat : Nat) : Int)
  ·refine TO.q (QT.toB (q_move rfl) (decide_eq_true hs88)) ?_
   refine TO.pd rfl rfl (TO.pd rfl rfl (TO.pd rfl rfl (TO.pd rfl rfl (TO.pd rfl rfl (TO.pd rfl rfl (TO.pd rfl rfl (TO.pd rfl rfl ?_)))))))
   refine TO.q (q_pick1 rfl rfl) (TO.qm rfl (TO.pd rfl rfl (TO.pd rfl rfl (TO.pd rfl rfl (TO.pd rfl rfl (TO.pd rfl rfl (TO.pd rfl rfl (TO.q (q_pick1 rfl rfl) ?_))))))))
   refine TO.nil ?_
   refine T.cond1 rfl ?_
   refine T.seq (T.rg (TO.qa rfl (TO.nil (T.ret (Res.drop ?_)))))
   refine Res.one (.int .i64 1) Try.results22 rfl ?_
   refine ⟨[], Sub.of (List.nil_sublist _), congrArg (fun z : Nat => Value.int .i64 (z : Int)) (Eq.symm (a := checkB b) (b := 1) ?_), rfl⟩
   rw [← he]; exact edges_1 hlt50 (by omega) (fun q => by have := q.1; have := q.2.1; have := q.2.2; omega)
  refine TO.q (QT.toB (q_move rfl) (decide_eq_false hs88)) (TO.gq rfl rfl (q_fa Try.underlying54 rfl inf5 rfl rfl) (TO.gq rfl rfl (q_lb 0 Try.underlying5 rfl rfl rfl rfl) (TO.gq rfl rfl (q_conv_id Try.underlying5 Try.underlying3 rfl (wrap64_id ⟨by omega, by omega⟩)) (TO.gq rfl rfl (q_fa Try.underlying26 rfl inf3 rfl rfl) (TO.gq rfl rfl (q_lb 1 Try.underlying3 rfl rfl rfl rfl) (TO.gq rfl rfl (q_conv_id Try.underlying3 Try.underlying52 rfl (show IntKind.u64.wrap b.vars = b.vars by unfold IntKind.wrap; simp [IntKind.bits, IntKind.signed]; omega)) (TO.gq rfl rfl (q_shl1 (v := b.vars.toNat) rfl (by show Value.int _ b.vars = _; rw [Int.toNat_of_nonneg (by omega)]) (by omega)) ?_)))))))
  refine TO.gq rfl rfl (q_geq rfl rfl) (TO.q (q_pick0 rfl rfl) ?_)
  by_cases hs98 : ((b.edges[j].neg : Nat) : Int) ≥ ((2 ^ b.vars.toNat : Nat) : Int)
  ·refine TO.q (QT.toB (q_move rfl) (decide_eq_true hs98)) ?_
   refine TO.pd rfl rfl (TO.pd rfl rfl (TO.pd rfl rfl (TO.pd rfl rfl (TO.pd rfl rfl (TO.pd rfl rfl (TO.q (q_pick1 rfl rfl) (TO.nil ?_)))))))
   refine T.cond1 rfl ?_
   refine T.seq (T.rg (TO.qa rfl (TO.nil (T.ret (Res.drop ?_)))))
   refine Res.one (.int .i64 1) Try.results22 rfl ?_
   refine ⟨[], Sub.of (List.nil_sublist _), congrArg (fun z : Nat => Value.int .i64 (z : Int)) (Eq.symm (a := checkB b) (b := 1) ?_), rfl⟩
   rw [← he]; exact edges_1 hlt50 (by omega) (fun q => by have := q.1; have := q.2.1; have := q.2.2; omega)
  refine TO.q (QT.toB (q_move rfl) (decide_eq_false hs98)) (TO.gq rfl rfl (q_fa Try.underlying54 rfl inf5 rfl rfl) (TO.gq rfl rfl (q_lb 0 Try.underlying5 rfl rfl rfl rfl) (TO.gq rfl rfl (q_fa Try.underlying54 rfl inf5 rfl rfl) (TO.gq rfl rfl (q_lb 0 Try.underlying5 rfl rfl rfl rfl) (TO.gq rfl rfl (q_and (a := b.edges[j].pos) (b := b.edges[j].neg) .u8 rfl rfl (by show _ < 256; omega) (by show _ < 256; omega)) (TO.gq rfl rfl (q_neq rfl rfl) (TO.q (q_pick0 rfl rfl) ?_)))))))
  refine TO.nil (T.condP rfl (fun hc => ?_) (fun hc => ?_))
  ·have hlt105 : b.edges[j].pos &&& b.edges[j].neg ≠ 0 := by omega
   refine T.seq (T.rg (TO.qa rfl (TO.nil (T.ret (Res.drop ?_)))))
   refine Res.one (.int .i64 1) Try.results22 rfl ?_
   refine ⟨[], Sub.of (List.nil_sublist _), congrArg (fun z : Nat => Value.int .i64 (z : Int)) (Eq.symm (a := checkB b) (b := 1) ?_), rfl⟩
   rw [← he]; exact edges_1 hlt50 (by omega) (fun q => by have := q.1; have := q.2.1; have := q.2.2; omega)
  have hge105 : ¬ b.edges[j].pos &&& b.edges[j].neg ≠ 0 := by omega
  refine T.skip (T.rg (TO.qm rfl (TO.q (q_addN (a := j) (b := 1) rfl rfl (by omega)) (TO.qa rfl (TO.nil ?_)))))
  exact ⟨j + 1, by omega, [oI bx1 26 (buC b sb sc eb ec tb tc)], (Sub.pick [1] rfl), rfl, by omega, by rw [← he, edges_0 hlt50 (by omega) ⟨by omega, by omega, by omega⟩], ⟨rfl, rfl, rfl, rfl, trivial⟩⟩
 have hge50 : ¬ j < b.edges.length := by omega
 refine T.exit ?_
 refine T.seq (T.rg (TO.qa rfl (TO.nil (T.ret (Res.drop ?_)))))
 refine Res.one (.int .i64 0) Try.results22 rfl ?_
 refine ⟨[], Sub.of (List.nil_sublist _), congrArg (fun z : Nat => Value.int .i64 (z : Int)) (Eq.symm (a := checkB b) (b := 0) ?_), rfl⟩
 rw [← he, List.drop_eq_nil_of_le (by omega)]; rfl
end Go.Proofs.Ytnamoapbienooaa
