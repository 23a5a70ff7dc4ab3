/- Contracts of functions of the program (BChk2, BScc, BComp, BLive, Mrk, BMrk): what each call answers and that it leaves memory as it was. Conditions: those each theorem names. -/
import Derived.Test.YtnamoapbienooaaBChk
set_option linter.unusedSectionVars false
set_option linter.unusedSimpArgs false
set_option linter.unusedVariables false
set_option linter.unnecessarySimpa false
namespace Go.Proofs.Ytnamoapbienooaa
open Go.Lx Go.RowKit
set_option linter.unusedVariables false
set_option linter.unusedSimpArgs false
set_option maxHeartbeats 1000000 in
set_option maxRecDepth 20000 in
theorem checkF (w : World) (b : Bu) (sb eb tb : Option Addr) (sc ec tc : Nat) (vs : List Value) (h : BuAt w b sb eb tb vs) (hB : BuB b) :
    PureT Try.prog 21 [.agg (buCells b sb sc eb ec tb tc).toArray] w fun v N => v = .int .i64 (checkB b : Int) ∧ N = [] := by
  refine CallT.enter Try.func21 rfl Try.ntmps21 rfl ?_
  have hst := hB.st; have hed := hB.ed; have hse := hB.se
  have hR : RowsR w (.slice sb b.start.length sc :: vs) (b.start :: b.sets) := h.rows.cons h.st
  have hvl := h.rows.1
  refine T.seq (T.region ?_)
  refine TO.loud rfl (l_box (v := (.agg (buCells b sb sc eb ec tb tc).toArray)) (cs := (buCells b sb sc eb ec tb tc)) rfl rfl (fun bx1 => ?_))
  refine TO.quiet (q_assign rfl) ?_
  refine TO.nil (T.seq (T.block (T.seq (T.region ?_))))
  refine TO.quiet (q_fieldAddr Try.underlying26 rfl inf3 rfl rfl) (TO.quiet (q_load_box 0 Try.underlying3 rfl rfl rfl rfl) (TO.quiet (q_lss rfl rfl) ?_))
  by_cases hs11 : b.vars < 0
  · refine TO.quiet (QT.toB (q_move rfl) (decide_eq_true hs11)) ?_
    refine TO.passed rfl rfl ?_
    refine TO.passed rfl rfl ?_
    refine TO.passed rfl rfl ?_
    refine TO.quiet (q_pick1 rfl rfl) (TO.quiet (q_assign rfl) ?_)
    refine TO.nil ?_
    refine T.cond1 rfl ?_
    refine T.seq (T.region ?_)
    refine TO.quiet (q_assign rfl) ?_
    refine TO.nil (T.ret (Res.drop ?_))
    refine Res.one (.int .i64 7) Try.results21 rfl ?_
    refine ⟨[], Sub.of (List.nil_sublist _), congrArg (fun z : Nat => Value.int .i64 (z : Int)) (Eq.symm (a := checkB b) (b := 7) ?_), rfl⟩
    exact checkB_7 (by omega)
  refine TO.quiet (QT.toB (q_move rfl) (decide_eq_false hs11)) ?_
  refine TO.guarded rfl rfl rfl (LT.of_quiet rfl rfl (q_fieldAddr Try.underlying26 rfl inf3 rfl rfl) ?_)
  refine TO.guarded rfl rfl rfl (LT.of_quiet rfl rfl (q_load_box 0 Try.underlying3 rfl rfl rfl rfl) ?_)
  refine TO.guarded rfl rfl rfl (LT.of_quiet rfl rfl (q_gtr rfl rfl) ?_)
  refine TO.quiet (q_pick0 rfl rfl) (TO.quiet (q_assign rfl) ?_)
  refine TO.nil ?_
  refine T.condP rfl (fun hc => ?_) (fun hc => ?_)
  · refine T.seq ?_
    refine T.region ?_
    refine TO.quiet (q_assign rfl) ?_
    refine TO.nil (T.ret (Res.drop ?_))
    refine Res.one (.int .i64 7) Try.results21 rfl ?_
    refine ⟨[], Sub.of (List.nil_sublist _), congrArg (fun z : Nat => Value.int .i64 (z : Int)) (Eq.symm (a := checkB b) (b := 7) ?_), rfl⟩
    exact checkB_7 (by omega)
  refine T.seq (T.region ?_)
  refine TO.quiet (q_fieldAddr Try.underlying26 rfl inf3 rfl rfl) (TO.quiet (q_load_box 0 Try.underlying3 rfl rfl rfl rfl) (TO.quiet (q_lss rfl rfl) (TO.quiet (q_assign rfl) ?_)))
  refine TO.nil ?_
  refine T.condP rfl (fun hc => ?_) (fun hc => ?_)
  · refine T.seq ?_
    refine T.region ?_
    refine TO.quiet (q_assign rfl) ?_
    refine TO.nil (T.ret (Res.drop ?_))
    refine Res.one (.int .i64 1) Try.results21 rfl ?_
    refine ⟨[], Sub.of (List.nil_sublist _), congrArg (fun z : Nat => Value.int .i64 (z : Int)) (Eq.symm (a := checkB b) (b := 1) ?_), rfl⟩
    exact checkB_1 (by omega) (by omega)
  refine T.seq (T.region ?_)
  refine TO.quiet (q_fieldAddr Try.underlying26 rfl inf3 rfl rfl) (TO.quiet (q_load_box 0 Try.underlying3 rfl rfl rfl rfl) (TO.quiet (q_gtr rfl rfl) (TO.quiet (q_assign rfl) ?_)))
  refine TO.nil ?_
  refine T.condP rfl (fun hc => ?_) (fun hc => ?_)
  · refine T.seq ?_
    refine T.region ?_
    refine TO.quiet (q_assign rfl) ?_
    refine TO.nil (T.ret (Res.drop ?_))
    refine Res.one (.int .i64 10) Try.results21 rfl ?_
    refine ⟨[], Sub.of (List.nil_sublist _), congrArg (fun z : Nat => Value.int .i64 (z : Int)) (Eq.symm (a := checkB b) (b := 10) ?_), rfl⟩
    exact checkB_10 (by omega) (by omega) (by omega)
  refine T.seq (T.region ?_)
  refine TO.quiet (q_fieldAddr Try.underlying26 rfl inf24 rfl rfl) (TO.quiet (q_load_box 0 Try.underlying24 rfl rfl rfl rfl) (TO.quiet (q_len Try.underlying24 rfl) (TO.quiet (q_gtr rfl rfl) ?_)))
  refine TO.quiet (q_assign rfl) ?_
  refine TO.nil ?_
  refine T.condP rfl (fun hc => ?_) (fun hc => ?_)
  · have hlt24 : b.sets.length > 8 := by omega
    refine T.seq (T.region ?_)
    refine TO.quiet (q_assign rfl) ?_
    refine TO.nil (T.ret (Res.drop ?_))
    refine Res.one (.int .i64 4) Try.results21 rfl ?_
    refine ⟨[], Sub.of (List.nil_sublist _), congrArg (fun z : Nat => Value.int .i64 (z : Int)) (Eq.symm (a := checkB b) (b := 4) ?_), rfl⟩
    exact checkB_4 (by omega) (by omega) (by omega) (by omega)
  have hge24 : ¬ b.sets.length > 8 := by omega
  refine T.skip (T.seq (T.seq (T.region ?_)))
  refine TO.quiet (q_fieldAddr Try.underlying26 rfl inf22 rfl rfl) (TO.quiet (q_load_box 0 Try.underlying22 rfl rfl rfl rfl) ?_)
  refine TO.loud rfl (l_build1 (v := (.slice sb b.start.length sc)) Try.underlying24 inf22 rfl rfl rfl (fun bx2 => ?_))
  refine TO.quiet (q_fieldAddr Try.underlying26 rfl inf24 rfl rfl) (TO.quiet (q_load_box 1 Try.underlying24 rfl rfl rfl rfl) ?_)
  refine TO.loud rfl (l_append 0 Try.underlying24 Try.underlying24 inf22 rfl rfl rfl rfl (by simp) (by decide) (Src.sl h.out (by rw [hvl]; simp)) (RowsR.one h.rows) (by omega) (by decide) (by decide) (fun bx3 c4 => ?_))
  refine TO.quiet (q_len Try.underlying24 rfl) (TO.quiet (q_move rfl) ?_)
  refine TO.nil (T.block ?_)
  have hR1 : ∀ r ∈ b.start :: b.sets, r.length ≤ 1000000 := fun r hr => by
    rcases List.mem_cons.1 hr with rfl | hr
    · exact hst
    · exact hB.sr r hr
  refine T.loop (fun (k : Nat) ρ O => O = [rowI bx3 c4 22 1 ([(.slice sb b.start.length sc)] ++ vs), oI bx1 26 (buCells b sb sc eb ec tb tc)] ∧ k ≤ 1 + b.sets.length ∧ ((b.start :: b.sets).take k).all (rises b.states (-1)) = true ∧ Heads [(0, (.agg (buCells b sb sc eb ec tb tc).toArray)), (1, (.pointer (some ⟨bx1, 0, none⟩))), (7, .bool (decide (b.vars > 6))), (16, .bool (decide (b.states < 0))), (20, .bool (decide (b.states > 4096))), (24, .bool (decide ((b.sets.length : Int) > 8))), (34, (.slice bx3 (1 + b.sets.length) c4)), (35, .int .i64 (1 + b.sets.length : Int)), (36, .int .i64 (k : Int))] ρ) (fun k => (1 + b.sets.length) - k) 0 ?_ ?_
  · exact ⟨rfl, Nat.zero_le _, rfl, ⟨rfl, rfl, rfl, rfl, rfl, rfl, rfl, rfl, rfl, trivial⟩⟩
  rintro k ρ O ⟨rfl, hk, hall, hH⟩
  obtain ⟨ρ0, rfl⟩ := hH.elim
  clear hH
  refine T.seq (T.region ?_)
  refine TO.quiet (q_lss rfl rfl) ?_
  refine TO.nil (T.seq ?_)
  refine T.condP rfl (fun hc => ?_) (fun hc => ?_)
  · have hlt37 : k < 1 + b.sets.length := by omega
    have hkl : k < (b.start :: b.sets).length := by simp; omega
    obtain ⟨rb, rc, g1, s1⟩ := hR.get hkl
    refine T.skip (T.seq (T.block (T.seq (T.region ?_))))
    refine TO.quiet (q_ix (i := k) Try.underlying24 inf22 rfl rfl (rowO (List.mem_of_getElem? (i := 0) rfl)) (by first | assumption | omega | (simp; omega) | simp_all) (by show k < (Value.slice sb b.start.length sc :: vs).length; rw [hR.1]; exact hkl)) (TO.quiet (q_ld Try.underlying22 rfl rfl (rowO (List.mem_of_getElem? (i := 0) rfl)) g1) (TO.quiet (q_assign rfl) ?_))
    refine TO.nil (T.seq (T.region ?_))
    refine TO.quiet (q_move rfl) (TO.quiet (q_fieldAddr Try.underlying26 rfl inf3 rfl rfl) (TO.quiet (q_load_box 1 Try.underlying3 rfl rfl rfl rfl) ?_))
    have hk43 := fun (w1 : World) (hI : Inv w [rowI bx3 c4 22 1 ([(.slice sb b.start.length sc)] ++ vs), oI bx1 26 (buCells b sb sc eb ec tb tc)] w1) => statesF w1 rb rc (b.start :: b.sets)[k] b.states (hI.sl s1) (hR1 _ (List.getElem_mem hkl))
    refine TO.loud rfl (l_call ent64 (CallT.of_pure hk43) rfl ?_)
    clear hk43
    rintro vr O' ⟨N, rfl, rfl, rfl⟩
    refine TO.quiet (q_not rfl) ?_
    refine TO.nil ?_
    refine T.cond rfl (fun hc => ?_) (fun hc => ?_)
    · refine T.seq ?_
      refine T.region ?_
      refine TO.quiet (q_assign rfl) ?_
      refine TO.nil (T.ret (Res.drop ?_))
      refine Res.one (.int .i64 8) Try.results21 rfl ?_
      refine ⟨[], Sub.of (List.nil_sublist _), congrArg (fun z : Nat => Value.int .i64 (z : Int)) (Eq.symm (a := checkB b) (b := 8) ?_), rfl⟩
      exact checkB_8 (by omega) (by omega) (by omega) (by omega) (all_no hkl (by simpa using hc))
    refine T.skip (T.region ?_)
    refine TO.quiet (q_addN (a := k) (b := 1) rfl rfl (by omega)) (TO.quiet (q_move rfl) ?_)
    refine TO.nil ?_
    exact ⟨k + 1, by omega, rfl, by omega, all_snoc hkl hall (by simpa using hc), ⟨rfl, rfl, rfl, rfl, rfl, rfl, rfl, rfl, rfl, trivial⟩⟩
  have hge37 : ¬ k < 1 + b.sets.length := by omega
  refine T.exit ?_
  refine T.seq (T.seq (T.region ?_))
  refine TO.quiet (q_fieldAddr Try.underlying26 rfl inf23 rfl rfl) (TO.quiet (q_load_box 1 Try.underlying23 rfl rfl rfl rfl) (TO.quiet (q_len Try.underlying23 rfl) (TO.quiet (q_move rfl) ?_)))
  refine TO.nil (T.block ?_)
  refine T.sub (O' := [oI bx1 26 (buCells b sb sc eb ec tb tc)]) (Sub.pick [1] rfl) ?_
  refine T.loopS (fun (j : Nat) ρ O => O = [oI bx1 26 (buCells b sb sc eb ec tb tc)] ∧ j ≤ b.edges.length ∧ edgesE b.states b.vars.toNat (b.edges.drop j) = checkB b ∧ Heads [(0, (.agg (buCells b sb sc eb ec tb tc).toArray)), (1, (.pointer (some ⟨bx1, 0, none⟩))), (7, .bool (decide (b.vars > 6))), (16, .bool (decide (b.states < 0))), (20, .bool (decide (b.states > 4096))), (24, .bool (decide ((b.sets.length : Int) > 8))), (47, (.slice eb b.edges.length ec)), (48, .int .i64 (b.edges.length : Int)), (49, .int .i64 (j : Int))] ρ) (fun j => b.edges.length - j) 0 ?_ ?_
  · exact ⟨rfl, Nat.zero_le _, (checkB_e (by omega) (by omega) (by omega) (by omega) (all_done (by simp; omega) hall)).symm, ⟨rfl, rfl, rfl, rfl, rfl, rfl, rfl, rfl, rfl, trivial⟩⟩
  rintro j ρ O ⟨rfl, hj, he, hH⟩
  obtain ⟨ρ0, rfl⟩ := hH.elim
  clear hH
  refine T.seq (T.region ?_)
  refine TO.quiet (q_lss rfl rfl) ?_
  refine TO.nil (T.seq ?_)
  refine T.condP rfl (fun hc => ?_) (fun hc => ?_)
  · have hlt50 : j < b.edges.length := by omega
    have hpn := hB.pn _ (List.getElem_mem hlt50)
    refine T.skip (T.seq (T.block (T.seq (T.region ?_))))
    refine TO.quiet (q_ixK (i := j) Try.underlying23 inf54 rfl rfl (Sl.o h.ed) (by first | assumption | omega | (simp; omega) | simp_all) (by first | (rw [eds_len]; omega) | (simp [eds_len]; omega) | (simp_all [eds_len]; omega))) (TO.quiet (q_ldK (vs := [.int .i64 b.edges[j].fr, .int .i64 b.edges[j].to, .int .u8 ((b.edges[j].pos : Nat) : Int), .int .u8 ((b.edges[j].neg : Nat) : Int)]) Try.underlying54 rfl inf54 rfl rfl (Nat.succ_pos _) (Sl.o h.ed) (eds_get (by first | assumption | omega | (simp; omega) | simp_all))) ?_)
    refine TO.loud rfl (l_alloc inf54 rfl (fun bx5 => ?_))
    refine TO.loud rfl (l_store_box (v := (.agg #[.int .i64 b.edges[j].fr, .int .i64 b.edges[j].to, .int .u8 ((b.edges[j].pos : Nat) : Int), .int .u8 ((b.edges[j].neg : Nat) : Int)])) (vs := [.int .i64 b.edges[j].fr, .int .i64 b.edges[j].to, .int .u8 ((b.edges[j].pos : Nat) : Int), .int .u8 ((b.edges[j].neg : Nat) : Int)]) 0 inf54 rfl rfl rfl rfl rfl rfl (by simp [putL]) ?_)
    refine TO.nil (T.block (T.seq (T.region ?_)))
    refine TO.quiet (q_fieldAddr Try.underlying54 rfl inf3 rfl rfl) (TO.quiet (q_load_box 0 Try.underlying3 rfl rfl rfl rfl) (TO.quiet (q_lss rfl rfl) ?_))
    by_cases hs57 : b.edges[j].fr < 0
    · refine TO.quiet (QT.toB (q_move rfl) (decide_eq_true hs57)) ?_
      refine TO.passed rfl rfl ?_
      refine TO.passed rfl rfl ?_
      refine TO.passed rfl rfl ?_
      refine TO.passed rfl rfl ?_
      refine TO.passed rfl rfl ?_
      refine TO.quiet (q_pick1 rfl rfl) (TO.quiet (q_move rfl) ?_)
      refine TO.passed rfl rfl ?_
      refine TO.passed rfl rfl ?_
      refine TO.passed rfl rfl ?_
      refine TO.quiet (q_pick1 rfl rfl) (TO.quiet (q_move rfl) ?_)
      refine TO.passed rfl rfl ?_
      refine TO.passed rfl rfl ?_
      refine TO.passed rfl rfl ?_
      refine TO.passed rfl rfl ?_
      refine TO.passed rfl rfl ?_
      refine TO.quiet (q_pick1 rfl rfl) (TO.quiet (q_assign rfl) ?_)
      refine TO.nil ?_
      refine T.cond1 rfl ?_
      refine T.seq (T.region ?_)
      refine TO.quiet (q_assign rfl) ?_
      refine TO.nil (T.ret (Res.drop ?_))
      refine Res.one (.int .i64 8) Try.results21 rfl ?_
      refine ⟨[], Sub.of (List.nil_sublist _), congrArg (fun z : Nat => Value.int .i64 (z : Int)) (Eq.symm (a := checkB b) (b := 8) ?_), rfl⟩
      rw [← he]; exact edges_8 hlt50 (by omega)
    refine TO.quiet (QT.toB (q_move rfl) (decide_eq_false hs57)) ?_
    refine TO.guarded rfl rfl rfl (LT.of_quiet rfl rfl (q_fieldAddr Try.underlying54 rfl inf3 rfl rfl) ?_)
    refine TO.guarded rfl rfl rfl (LT.of_quiet rfl rfl (q_load_box 0 Try.underlying3 rfl rfl rfl rfl) ?_)
    refine TO.guarded rfl rfl rfl (LT.of_quiet rfl rfl (q_fieldAddr Try.underlying26 rfl inf3 rfl rfl) ?_)
    refine TO.guarded rfl rfl rfl (LT.of_quiet rfl rfl (q_load_box 1 Try.underlying3 rfl rfl rfl rfl) ?_)
    refine TO.guarded rfl rfl rfl (LT.of_quiet rfl rfl (q_geq rfl rfl) ?_)
    refine TO.quiet (q_pick0 rfl rfl) ?_
    by_cases hs64 : b.edges[j].fr ≥ b.states
    · refine TO.quiet (QT.toB (q_move rfl) (decide_eq_true hs64)) ?_
      refine TO.passed rfl rfl ?_
      refine TO.passed rfl rfl ?_
      refine TO.passed rfl rfl ?_
      refine TO.quiet (q_pick1 rfl rfl) (TO.quiet (q_move rfl) ?_)
      refine TO.passed rfl rfl ?_
      refine TO.passed rfl rfl ?_
      refine TO.passed rfl rfl ?_
      refine TO.passed rfl rfl ?_
      refine TO.passed rfl rfl ?_
      refine TO.quiet (q_pick1 rfl rfl) (TO.quiet (q_assign rfl) ?_)
      refine TO.nil ?_
      refine T.cond1 rfl ?_
      refine T.seq (T.region ?_)
      refine TO.quiet (q_assign rfl) ?_
      refine TO.nil (T.ret (Res.drop ?_))
      refine Res.one (.int .i64 8) Try.results21 rfl ?_
      refine ⟨[], Sub.of (List.nil_sublist _), congrArg (fun z : Nat => Value.int .i64 (z : Int)) (Eq.symm (a := checkB b) (b := 8) ?_), rfl⟩
      rw [← he]; exact edges_8 hlt50 (by omega)
    refine TO.quiet (QT.toB (q_move rfl) (decide_eq_false hs64)) ?_
    refine TO.guarded rfl rfl rfl (LT.of_quiet rfl rfl (q_fieldAddr Try.underlying54 rfl inf3 rfl rfl) ?_)
    refine TO.guarded rfl rfl rfl (LT.of_quiet rfl rfl (q_load_box 0 Try.underlying3 rfl rfl rfl rfl) ?_)
    refine TO.guarded rfl rfl rfl (LT.of_quiet rfl rfl (q_lss rfl rfl) ?_)
    refine TO.quiet (q_pick0 rfl rfl) ?_
    by_cases hs69 : b.edges[j].to < 0
    · refine TO.quiet (QT.toB (q_move rfl) (decide_eq_true hs69)) ?_
      refine TO.passed rfl rfl ?_
      refine TO.passed rfl rfl ?_
      refine TO.passed rfl rfl ?_
      refine TO.passed rfl rfl ?_
      refine TO.passed rfl rfl ?_
      refine TO.quiet (q_pick1 rfl rfl) (TO.quiet (q_assign rfl) ?_)
      refine TO.nil ?_
      refine T.cond1 rfl ?_
      refine T.seq (T.region ?_)
      refine TO.quiet (q_assign rfl) ?_
      refine TO.nil (T.ret (Res.drop ?_))
      refine Res.one (.int .i64 8) Try.results21 rfl ?_
      refine ⟨[], Sub.of (List.nil_sublist _), congrArg (fun z : Nat => Value.int .i64 (z : Int)) (Eq.symm (a := checkB b) (b := 8) ?_), rfl⟩
      rw [← he]; exact edges_8 hlt50 (by omega)
    refine TO.quiet (QT.toB (q_move rfl) (decide_eq_false hs69)) ?_
    refine TO.guarded rfl rfl rfl (LT.of_quiet rfl rfl (q_fieldAddr Try.underlying54 rfl inf3 rfl rfl) ?_)
    refine TO.guarded rfl rfl rfl (LT.of_quiet rfl rfl (q_load_box 0 Try.underlying3 rfl rfl rfl rfl) ?_)
    refine TO.guarded rfl rfl rfl (LT.of_quiet rfl rfl (q_fieldAddr Try.underlying26 rfl inf3 rfl rfl) ?_)
    refine TO.guarded rfl rfl rfl (LT.of_quiet rfl rfl (q_load_box 1 Try.underlying3 rfl rfl rfl rfl) ?_)
    refine TO.guarded rfl rfl rfl (LT.of_quiet rfl rfl (q_geq rfl rfl) ?_)
    refine TO.quiet (q_pick0 rfl rfl) (TO.quiet (q_assign rfl) ?_)
    refine TO.nil ?_
    refine T.condP rfl (fun hc => ?_) (fun hc => ?_)
    · refine T.seq ?_
      refine T.region ?_
      refine TO.quiet (q_assign rfl) ?_
      refine TO.nil (T.ret (Res.drop ?_))
      refine Res.one (.int .i64 8) Try.results21 rfl ?_
      refine ⟨[], Sub.of (List.nil_sublist _), congrArg (fun z : Nat => Value.int .i64 (z : Int)) (Eq.symm (a := checkB b) (b := 8) ?_), rfl⟩
      rw [← he]; exact edges_8 hlt50 (by omega)
    refine T.seq ?_
    refine T.draws _ [(0, 0), (1, 0), (2, 0), (3, 0), (4, 0), (5, 0), (6, 0), (7, 0), (8, 0), (9, 0), (10, 0), (11, 0), (12, 0), (13, 0), (14, 0), (15, 0), (16, 0), (17, 0), (18, 0)] mixed (by kernel_rfl) (Sub.of (List.Sublist.refl _)) (fun _ _ _ h => h) ?_
    refine DO.quiet rfl (q_fieldAddr Try.underlying54 rfl inf5 rfl rfl) (DO.quiet rfl (q_load_box 0 Try.underlying5 rfl rfl rfl rfl) (DO.quiet rfl (q_fieldAddr Try.underlying54 rfl inf5 rfl rfl) (DO.quiet rfl (q_load_box 0 Try.underlying5 rfl rfl rfl rfl) ?_)))
    refine DO.quiet rfl (q_or (a := b.edges[j].pos) (b := b.edges[j].neg) .u8 rfl rfl (by show _ < 256; omega) (by show _ < 256; omega)) (DO.quiet rfl (q_conv_id Try.underlying5 Try.underlying3 rfl (wrap64_id ⟨by omega, by have := Nat.or_lt_two_pow (n := 8) hpn.1 hpn.2; omega⟩)) (DO.quiet rfl (q_fieldAddr Try.underlying26 rfl inf3 rfl rfl) (DO.quiet rfl (q_load_box 1 Try.underlying3 rfl rfl rfl rfl) ?_)))
    refine DO.quiet rfl (q_shl1 (v := b.vars.toNat) rfl (by show Value.int _ b.vars = _; rw [Int.toNat_of_nonneg (by omega)]) (by omega)) (DO.quiet rfl (q_geq rfl rfl) ?_)
    by_cases hs87 : ((b.edges[j].pos ||| b.edges[j].neg : Nat) : Int) ≥ ((2 ^ b.vars.toNat : Nat) : Int)
    · refine DO.quiet rfl (QT.toB (q_move rfl) (decide_eq_true hs87)) ?_
      refine DO.passed rfl rfl rfl ?_
      refine DO.passed rfl rfl rfl ?_
      refine DO.passed rfl rfl rfl ?_
      refine DO.passed rfl rfl rfl ?_
      refine DO.passed rfl rfl rfl ?_
      refine DO.passed rfl rfl rfl ?_
      refine DO.quiet rfl (q_pick1 rfl rfl) (DO.quiet rfl (q_assign rfl) ?_)
      refine DO.done ?_
      refine T.cond1 rfl ?_
      refine T.seq (T.region ?_)
      refine TO.quiet (q_assign rfl) ?_
      refine TO.nil (T.ret (Res.drop ?_))
      refine Res.one (.int .i64 1) Try.results21 rfl ?_
      refine ⟨[], Sub.of (List.nil_sublist _), congrArg (fun z : Nat => Value.int .i64 (z : Int)) (Eq.symm (a := checkB b) (b := 1) ?_), rfl⟩
      rw [← he]; exact edges_1 hlt50 (by omega) (fun q => by have := or_lt.2 ⟨q.1, q.2.1⟩; have := q.2.2; omega)
    refine DO.quiet rfl (QT.toB (q_move rfl) (decide_eq_false hs87)) ?_
    refine DO.guarded rfl rfl rfl (q_fieldAddr Try.underlying54 rfl inf5 rfl rfl) ?_
    refine DO.guarded rfl rfl rfl (q_load_box 0 Try.underlying5 rfl rfl rfl rfl) ?_
    refine DO.guarded rfl rfl rfl (q_fieldAddr Try.underlying54 rfl inf5 rfl rfl) ?_
    refine DO.guarded rfl rfl rfl (q_load_box 0 Try.underlying5 rfl rfl rfl rfl) ?_
    refine DO.guarded rfl rfl rfl (q_and (a := b.edges[j].pos) (b := b.edges[j].neg) .u8 rfl rfl (by show _ < 256; omega) (by show _ < 256; omega)) ?_
    refine DO.guarded rfl rfl rfl (q_neq rfl rfl) ?_
    refine DO.quiet rfl (q_pick0 rfl rfl) (DO.quiet rfl (q_assign rfl) ?_)
    refine DO.done ?_
    refine T.condP rfl (fun hc => ?_) (fun hc => ?_)
    · have hlt76 : b.edges[j].pos &&& b.edges[j].neg ≠ 0 := by omega
      refine T.seq (T.region ?_)
      refine TO.quiet (q_assign rfl) ?_
      refine TO.nil (T.ret (Res.drop ?_))
      refine Res.one (.int .i64 1) Try.results21 rfl ?_
      refine ⟨[], Sub.of (List.nil_sublist _), congrArg (fun z : Nat => Value.int .i64 (z : Int)) (Eq.symm (a := checkB b) (b := 1) ?_), rfl⟩
      rw [← he]; exact edges_1 hlt50 (by omega) (fun q => by have := or_lt.2 ⟨q.1, q.2.1⟩; have := q.2.2; omega)
    have hge76 : ¬ b.edges[j].pos &&& b.edges[j].neg ≠ 0 := by omega
    refine T.skip (T.region ?_)
    refine TO.quiet (q_addN (a := j) (b := 1) rfl rfl (by omega)) (TO.quiet (q_move rfl) ?_)
    refine TO.nil ?_
    have hpl : b.edges[j].pos ||| b.edges[j].neg < 2 ^ b.vars.toNat := by omega
    exact ⟨j + 1, by omega, [oI bx1 26 (buCells b sb sc eb ec tb tc)], (Sub.pick [1] rfl), rfl, by omega, by rw [← he, edges_0 hlt50 (by omega) ⟨(or_lt.1 hpl).1, (or_lt.1 hpl).2, by omega⟩], ⟨rfl, rfl, rfl, rfl, rfl, rfl, rfl, rfl, rfl, trivial⟩⟩
  have hge50 : ¬ j < b.edges.length := by omega
  refine T.exit ?_
  refine T.seq (T.region ?_)
  refine TO.quiet (q_assign rfl) ?_
  refine TO.nil (T.ret (Res.drop ?_))
  refine Res.one (.int .i64 0) Try.results21 rfl ?_
  refine ⟨[], Sub.of (List.nil_sublist _), congrArg (fun z : Nat => Value.int .i64 (z : Int)) (Eq.symm (a := checkB b) (b := 0) ?_), rfl⟩
  rw [← he, List.drop_eq_nil_of_le (by omega)]; rfl
end Go.Proofs.Ytnamoapbienooaa


namespace Go.Proofs.Ytnamoapbienooaa
open Go.Lx Go.RowKit
set_option linter.unusedVariables false
set_option linter.unusedSimpArgs false
abbrev tarO (nb mb : Option Addr) (nc mn mc : Nat) (full : Int) (nx : List (List Int)) (xc xi xl xs xg xv xp xn : Nat) (ib lb pb : Option Addr) (ic lc pc : Nat) (s : TL) (sb : Option Addr) (sc : Nat) : List Lx.Item := [objI xc (.cells (List.toArray [(.int .i64 (s.clk : Int))]) 3 (0, 0)), objI xi (.cells (List.toArray [(.slice ib nx.length ic)]) 22 (0, 0)), objI xl (.cells (List.toArray [(.slice lb nx.length lc)]) 22 (0, 0)), objI xs (.cells (List.toArray [(.slice sb s.stk.length sc)]) 22 (0, 0)), objI xg (.cells (List.toArray [(.slice nb nx.length nc), (.slice mb mn mc), .int .u64 full]) 79 (0, 0)), objI xv (.cells (List.toArray [(.func (.func 107) #[] #[(.pointer (some ⟨xc, 0, none⟩)), (.pointer (some ⟨xi, 0, none⟩)), (.pointer (some ⟨xl, 0, none⟩)), (.pointer (some ⟨xs, 0, none⟩)), (.pointer (some ⟨xg, 0, none⟩)), (.pointer (some ⟨xv, 0, none⟩)), (.pointer (some ⟨xp, 0, none⟩)), (.pointer (some ⟨xn, 0, none⟩))])]) 104 (0, 0)), objI xp (.cells (List.toArray [(.slice pb nx.length pc)]) 22 (0, 0)), objI xn (.cells (List.toArray [(.int .i64 (s.cnt : Int))]) 3 (0, 0)), rowI ib ic 3 1 (nats s.idx), rowI lb lc 3 1 (nats s.low), rowI sb sc 3 1 (nats s.stk), rowI pb pc 3 1 (ints s.comp)]
set_option maxHeartbeats 1000000 in
set_option maxRecDepth 20000 in
theorem visitF (base : World) (nb mb : Option Addr) (nc mn mc : Nat) (full : Int) (vs : List Value) (nx : List (List Int)) (hS : Sl base nb vs) (hR : RowsR base vs nx) (hn : nx.length ≤ 1000000) (hrl : ∀ r ∈ nx, r.length ≤ 1000000) (hval : ∀ r ∈ nx, ∀ x ∈ r, 0 ≤ x ∧ x < (nx.length : Int)) (xc xi xl xs xg xv xp xn : Nat) (ib lb pb : Option Addr) (ic lc pc : Nat) :
    ∀ (m : Nat) (s : TL) (sb : Option Addr) (sc : Nat) (gray : List Nat) (v : Nat) (hm : s.idx.count 0 = m) (hok : TLok nx.length s) (h0 : TInv nx.length (adjE nx) gray s.ts) (hv : v < nx.length) (hv0 : s.idx[v]'(by rw [hok.li]; exact hv) = 0) (hg : ∀ g ∈ gray, Rch (adjE nx) g v),
    CallT Try.prog base 107 [.int .i64 (v : Int), (.pointer (some ⟨xc, 0, none⟩)), (.pointer (some ⟨xi, 0, none⟩)), (.pointer (some ⟨xl, 0, none⟩)), (.pointer (some ⟨xs, 0, none⟩)), (.pointer (some ⟨xg, 0, none⟩)), (.pointer (some ⟨xv, 0, none⟩)), (.pointer (some ⟨xp, 0, none⟩)), (.pointer (some ⟨xn, 0, none⟩))] (tarO nb mb nc mn mc full nx xc xi xl xs xg xv xp xn ib lb pb ic lc pc s sb sc) (fun _ O' => ∃ s' sb' sc' t, O' = tarO nb mb nc mn mc full nx xc xi xl xs xg xv xp xn ib lb pb ic lc pc s' sb' sc' ∧ VDone nx.length nx gray s v s' t) := by
  intro m
  induction m using Nat.strongRecOn with
  | _ m ih => ?_
  intro s sb sc gray v hm hok h0 hv hv0 hg
  refine CallT.enter Try.func107 rfl Try.ntmps107 rfl ?_
  have hli := hok.li; have hll := hok.ll; have hlc := hok.lc; have hck := hok.ck; have hsk := hok.sk
  obtain ⟨rb, rc, g1, s1⟩ := hR.get hv
  have hrv := hrl _ (List.getElem_mem hv)
  refine T.seq (T.region ?_)
  refine TO.quiet (q_load_box 0 Try.underlying3 rfl rfl rfl rfl) (TO.quiet (q_addN (a := s.clk) (b := 1) rfl rfl (by omega)) ?_)
  refine TO.loud rfl (l_store_box (v := .int .i64 ((s.clk + 1 : Nat) : Int)) (vs := [(.int .i64 ((s.clk + 1 : Nat) : Int))]) 0 inf3 rfl rfl rfl rfl rfl rfl (by simp [putL]) ?_)
  refine TO.nil (T.seq ?_)
  refine T.draws2 [oI xc 3 [(.int .i64 ((s.clk + 1 : Nat) : Int))], oI xi 22 [(.slice ib nx.length ic)], oI xl 22 [(.slice lb nx.length lc)], oI xs 22 [(.slice sb s.stk.length sc)], oI xg 79 [(.slice nb nx.length nc), (.slice mb mn mc), .int .u64 full], oI xv 104 [(.func (.func 107) #[] #[(.pointer (some ⟨xc, 0, none⟩)), (.pointer (some ⟨xi, 0, none⟩)), (.pointer (some ⟨xl, 0, none⟩)), (.pointer (some ⟨xs, 0, none⟩)), (.pointer (some ⟨xg, 0, none⟩)), (.pointer (some ⟨xv, 0, none⟩)), (.pointer (some ⟨xp, 0, none⟩)), (.pointer (some ⟨xn, 0, none⟩))])], oI xp 22 [(.slice pb nx.length pc)], oI xn 3 [(.int .i64 (s.cnt : Int))], rowI lb lc 3 1 (nats s.low), rowI sb sc 3 1 (nats s.stk), rowI pb pc 3 1 (ints s.comp)] [oI xc 3 [(.int .i64 ((s.clk + 1 : Nat) : Int))], oI xi 22 [(.slice ib nx.length ic)], oI xl 22 [(.slice lb nx.length lc)], oI xs 22 [(.slice sb s.stk.length sc)], oI xg 79 [(.slice nb nx.length nc), (.slice mb mn mc), .int .u64 full], oI xv 104 [(.func (.func 107) #[] #[(.pointer (some ⟨xc, 0, none⟩)), (.pointer (some ⟨xi, 0, none⟩)), (.pointer (some ⟨xl, 0, none⟩)), (.pointer (some ⟨xs, 0, none⟩)), (.pointer (some ⟨xg, 0, none⟩)), (.pointer (some ⟨xv, 0, none⟩)), (.pointer (some ⟨xp, 0, none⟩)), (.pointer (some ⟨xn, 0, none⟩))])], oI xp 22 [(.slice pb nx.length pc)], oI xn 3 [(.int .i64 (s.cnt : Int))], rowI ib ic 3 1 (nats s.idx), rowI lb lc 3 1 (nats s.low), rowI sb sc 3 1 (nats s.stk), rowI pb pc 3 1 (ints s.comp)] [(0, 0), (1, 0), (2, 0), (3, 0), (4, 0), (5, 0), (6, 3), (7, 4), (8, 0), (9, 2)] mixed (by kernel_rfl) (Sub.pick [0, 0, 0, 0, 0, 0, 0, 0, 1, 1, 1] rfl) (Sub.pick [0, 0, 0, 0, 0, 0, 0, 0, 0, 0, 0, 0] rfl) (fun _ _ _ h => h) ?_
  refine DO.quiet rfl (q_load_box 1 Try.underlying22 rfl rfl rfl rfl) (DO.quiet rfl (q_move rfl) (DO.quiet rfl (q_load_box 2 Try.underlying22 rfl rfl rfl rfl) (DO.quiet rfl (q_move rfl) ?_)))
  refine DO.quiet rfl (q_load_box 0 Try.underlying3 rfl rfl rfl rfl) (DO.quiet rfl (q_load_box 0 Try.underlying3 rfl rfl rfl rfl) ?_)
  refine DO.quiet2 rfl (q_ix (i := v) Try.underlying22 inf3 rfl rfl (rowO (List.mem_of_getElem? (i := 8) rfl))) ?_
  refine DO.last2 rfl rfl (l_st (j := v) (v := (.int .i64 ((s.clk + 1 : Nat) : Int))) (vs := [(.int .i64 ((s.clk + 1 : Nat) : Int))]) (cs := nats s.idx) 8 inf3 rfl rfl rfl rfl rfl (by simp) rfl (by first | (simp; omega) | (simp_all; omega)) ⟨Sub.pick [0, 0, 0, 0, 0, 0, 0, 0, 1, 1, 1] rfl, ?_⟩)
  refine DO.sub (O' := [oI xc 3 [(.int .i64 ((s.clk + 1 : Nat) : Int))], oI xi 22 [(.slice ib nx.length ic)], oI xl 22 [(.slice lb nx.length lc)], oI xs 22 [(.slice sb s.stk.length sc)], oI xg 79 [(.slice nb nx.length nc), (.slice mb mn mc), .int .u64 full], oI xv 104 [(.func (.func 107) #[] #[(.pointer (some ⟨xc, 0, none⟩)), (.pointer (some ⟨xi, 0, none⟩)), (.pointer (some ⟨xl, 0, none⟩)), (.pointer (some ⟨xs, 0, none⟩)), (.pointer (some ⟨xg, 0, none⟩)), (.pointer (some ⟨xv, 0, none⟩)), (.pointer (some ⟨xp, 0, none⟩)), (.pointer (some ⟨xn, 0, none⟩))])], oI xp 22 [(.slice pb nx.length pc)], oI xn 3 [(.int .i64 (s.cnt : Int))], rowI ib ic 3 1 (nats (s.idx.set v (s.clk + 1))), rowI lb lc 3 1 (nats s.low), rowI sb sc 3 1 (nats s.stk), rowI pb pc 3 1 (ints s.comp)]) (by rw [show putL (nats s.idx) v [(.int .i64 ((s.clk + 1 : Nat) : Int))] = nats (s.idx.set v (s.clk + 1)) from (by simp [putL])]; exact Sub.of (List.Sublist.refl _)) ?_
  refine DO.quiet rfl (q_ix (i := v) Try.underlying22 inf3 rfl rfl (rowO (List.mem_of_getElem? (i := 8) rfl))) ?_
  refine DO.last rfl rfl (l_st (j := v) (v := (.int .i64 ((s.clk + 1 : Nat) : Int))) (vs := [(.int .i64 ((s.clk + 1 : Nat) : Int))]) (cs := nats s.low) 9 inf3 rfl rfl rfl rfl rfl (by simp) rfl (by first | (simp; omega) | (simp_all; omega)) ?_)
  refine DO.sub (O' := [oI xc 3 [(.int .i64 ((s.clk + 1 : Nat) : Int))], oI xi 22 [(.slice ib nx.length ic)], oI xl 22 [(.slice lb nx.length lc)], oI xs 22 [(.slice sb s.stk.length sc)], oI xg 79 [(.slice nb nx.length nc), (.slice mb mn mc), .int .u64 full], oI xv 104 [(.func (.func 107) #[] #[(.pointer (some ⟨xc, 0, none⟩)), (.pointer (some ⟨xi, 0, none⟩)), (.pointer (some ⟨xl, 0, none⟩)), (.pointer (some ⟨xs, 0, none⟩)), (.pointer (some ⟨xg, 0, none⟩)), (.pointer (some ⟨xv, 0, none⟩)), (.pointer (some ⟨xp, 0, none⟩)), (.pointer (some ⟨xn, 0, none⟩))])], oI xp 22 [(.slice pb nx.length pc)], oI xn 3 [(.int .i64 (s.cnt : Int))], rowI ib ic 3 1 (nats (s.idx.set v (s.clk + 1))), rowI lb lc 3 1 (nats (s.low.set v (s.clk + 1))), rowI sb sc 3 1 (nats s.stk), rowI pb pc 3 1 (ints s.comp)]) (by rw [show putL (nats s.low) v [(.int .i64 ((s.clk + 1 : Nat) : Int))] = nats (s.low.set v (s.clk + 1)) from (by simp [putL])]; exact Sub.of (List.Sublist.refl _)) ?_
  refine DO.done ?_
  refine T.seq (T.region ?_)
  refine TO.quiet (q_load_box 3 Try.underlying22 rfl rfl rfl rfl) (TO.quiet (q_move rfl) ?_)
  refine TO.loud rfl (l_build1 (v := .int .i64 (v : Int)) Try.underlying22 inf3 rfl rfl rfl (fun bx1 => ?_))
  refine TO.loud rfl (l_append 11 Try.underlying22 Try.underlying22 inf3 rfl rfl rfl rfl (by simp) (by decide) (Src.row (j := 0) rfl (by simp)) (by simp [oneB]) (by omega) (by decide) (by decide) (fun bx2 c3 => ?_))
  refine TO.loud rfl (l_store_box (v := (.slice bx2 (s.stk.length + 1) c3)) (vs := [(.slice bx2 (s.stk.length + 1) c3)]) 4 inf22 rfl rfl rfl rfl rfl rfl (by simp [putL]) ?_)
  refine TO.sub (O' := [oI xc 3 [(.int .i64 ((s.clk + 1 : Nat) : Int))], oI xi 22 [(.slice ib nx.length ic)], oI xl 22 [(.slice lb nx.length lc)], oI xs 22 [(.slice bx2 (s.stk.length + 1) c3)], oI xg 79 [(.slice nb nx.length nc), (.slice mb mn mc), .int .u64 full], oI xv 104 [(.func (.func 107) #[] #[(.pointer (some ⟨xc, 0, none⟩)), (.pointer (some ⟨xi, 0, none⟩)), (.pointer (some ⟨xl, 0, none⟩)), (.pointer (some ⟨xs, 0, none⟩)), (.pointer (some ⟨xg, 0, none⟩)), (.pointer (some ⟨xv, 0, none⟩)), (.pointer (some ⟨xp, 0, none⟩)), (.pointer (some ⟨xn, 0, none⟩))])], oI xp 22 [(.slice pb nx.length pc)], oI xn 3 [(.int .i64 (s.cnt : Int))], rowI ib ic 3 1 (nats (s.idx.set v (s.clk + 1))), rowI lb lc 3 1 (nats (s.low.set v (s.clk + 1))), rowI bx2 c3 3 1 ((nats s.stk) ++ [.int .i64 (v : Int)]), rowI pb pc 3 1 (ints s.comp)]) (Sub.pick [1, 1, 1, 1, 1, 1, 1, 1, 1, 1, 1, 1] rfl) ?_
  refine TO.nil (T.seq (T.seq (T.region ?_)))
  refine TO.quiet (q_fieldAddr Try.underlying79 rfl inf24 rfl rfl) (TO.quiet (q_load_box 4 Try.underlying24 rfl rfl rfl rfl) (TO.quiet (q_move rfl) (TO.quiet (q_ix (i := v) Try.underlying24 inf22 rfl rfl (Sl.o hS) (by first | assumption | omega | (simp; omega) | simp_all) (by rw [hR.1]; exact hv)) ?_)))
  refine TO.quiet (q_ld Try.underlying22 rfl rfl (Sl.o hS) g1) (TO.quiet (q_len Try.underlying22 rfl) (TO.quiet (q_move rfl) ?_))
  refine TO.nil (T.block ?_)
  refine T.loop (fun (k : Nat) ρ O => ∃ (z : TL) (zb : Option Addr) (zc : Nat) (t : List Nat), O = [oI xc 3 [(.int .i64 (z.clk : Int))], oI xi 22 [(.slice ib nx.length ic)], oI xl 22 [(.slice lb nx.length lc)], oI xs 22 [(.slice zb z.stk.length zc)], oI xg 79 [(.slice nb nx.length nc), (.slice mb mn mc), .int .u64 full], oI xv 104 [(.func (.func 107) #[] #[(.pointer (some ⟨xc, 0, none⟩)), (.pointer (some ⟨xi, 0, none⟩)), (.pointer (some ⟨xl, 0, none⟩)), (.pointer (some ⟨xs, 0, none⟩)), (.pointer (some ⟨xg, 0, none⟩)), (.pointer (some ⟨xv, 0, none⟩)), (.pointer (some ⟨xp, 0, none⟩)), (.pointer (some ⟨xn, 0, none⟩))])], oI xp 22 [(.slice pb nx.length pc)], oI xn 3 [(.int .i64 (z.cnt : Int))], rowI ib ic 3 1 (nats z.idx), rowI lb lc 3 1 (nats z.low), rowI zb zc 3 1 (nats z.stk), rowI pb pc 3 1 (ints z.comp)] ∧ k ≤ nx[v].length ∧ VRun nx.length nx gray s v k z t ∧ Heads [(0, .int .i64 (v : Int)), (1, (.pointer (some ⟨xc, 0, none⟩))), (2, (.pointer (some ⟨xi, 0, none⟩))), (3, (.pointer (some ⟨xl, 0, none⟩))), (4, (.pointer (some ⟨xs, 0, none⟩))), (5, (.pointer (some ⟨xg, 0, none⟩))), (6, (.pointer (some ⟨xv, 0, none⟩))), (7, (.pointer (some ⟨xp, 0, none⟩))), (8, (.pointer (some ⟨xn, 0, none⟩))), (31, (.slice rb nx[v].length rc)), (32, .int .i64 (nx[v].length : Int)), (33, .int .i64 (k : Int))] ρ) (fun k => nx[v].length - k) 0 ?_ ?_
  · exact ⟨{ s with idx := s.idx.set v (s.clk + 1), low := s.low.set v (s.clk + 1), stk := s.stk ++ [v], clk := s.clk + 1 }, bx2, c3, [], (by simp only [List.length_append, List.length_cons, List.length_nil, List.map_append, List.map_cons, List.map_nil]), Nat.zero_le _, VRun.enter hok h0 hv hv0 hg, ⟨rfl, rfl, rfl, rfl, rfl, rfl, rfl, rfl, rfl, rfl, rfl, rfl, trivial⟩⟩
  rintro k ρ O ⟨z, zb, zc, t, rfl, hk, hr, hH⟩
  obtain ⟨ρ0, rfl⟩ := hH.elim
  clear hH
  have hli := hr.ok.li; have hll := hr.ok.ll; have hlc := hr.ok.lc; have hzc := hr.ok.ct
  refine T.seq (T.region ?_)
  refine TO.quiet (q_lss rfl rfl) ?_
  refine TO.nil (T.seq ?_)
  refine T.condP rfl (fun hc => ?_) (fun hc => ?_)
  · have hlt34 : k < nx[v].length := by omega
    obtain ⟨u, hu, hul⟩ : ∃ u : Nat, nx[v][k] = (u : Int) ∧ u < nx.length := by
      have := hval _ (List.getElem_mem hv) _ (List.getElem_mem hlt34)
      exact ⟨nx[v][k].toNat, by omega, by omega⟩
    refine T.skip (T.seq (T.block (T.seq (T.region ?_))))
    refine TO.quiet (q_ix (i := k) Try.underlying22 inf3 rfl rfl (Sl.o s1)) (TO.quiet (q_ld Try.underlying3 rfl rfl (Sl.o s1) (show (ints nx[v])[k]? = _ by rw [ints_get hlt34, hu])) (TO.quiet (q_assign rfl) ?_))
    refine TO.nil (T.seq (T.region ?_))
    refine TO.quiet (q_load_box 1 Try.underlying22 rfl rfl rfl rfl) (TO.quiet (q_move rfl) (TO.quiet (q_ix (i := u) Try.underlying22 inf3 rfl rfl (rowO (List.mem_of_getElem? (i := 8) rfl))) (TO.quiet (q_ld Try.underlying3 rfl rfl (rowO (List.mem_of_getElem? (i := 8) rfl)) nats_get) ?_)))
    refine TO.quiet (q_eql rfl rfl) ?_
    refine TO.nil ?_
    refine T.condP rfl (fun hc => ?_) (fun hc => ?_)
    · have hlt41 : z.idx[u] = 0 := by omega
      refine T.seq (T.region ?_)
      refine TO.quiet (q_load_box 5 Try.underlying104 rfl rfl rfl rfl) (TO.quiet (q_move rfl) ?_)
      have hk44 := CallV.of_fn (first := []) (args := [.int .i64 (u : Int)]) (caps := [(.pointer (some ⟨xc, 0, none⟩)), (.pointer (some ⟨xi, 0, none⟩)), (.pointer (some ⟨xl, 0, none⟩)), (.pointer (some ⟨xs, 0, none⟩)), (.pointer (some ⟨xg, 0, none⟩)), (.pointer (some ⟨xv, 0, none⟩)), (.pointer (some ⟨xp, 0, none⟩)), (.pointer (some ⟨xn, 0, none⟩))]) ent107 (ih _ (by have := hr.lt; omega) z zb zc (gray ++ [v]) u rfl hr.ok hr.lp.inv hul (by omega) (hr.child hg hv hlt34 hu))
      refine TO.loud rfl (l_callG hk44 rfl rfl ?_)
      clear hk44
      rintro vr O' ⟨z2, zb2, zc2, t2, rfl, hd2⟩
      have hli2 := hd2.ok.li; have hll2 := hd2.ok.ll; have hlc2 := hd2.ok.lc
      refine TO.nil ?_
      refine T.draws _ [(0, 0), (1, 0), (2, 0), (3, 0), (4, 0), (5, 0), (6, 0), (7, 0), (8, 0), (9, 0), (10, 0), (11, 0), (12, 2)] mixed (by kernel_rfl) (Sub.of (List.Sublist.refl _)) (fun _ _ _ h => h) ?_
      refine DO.quiet rfl (q_load_box 2 Try.underlying22 rfl rfl rfl rfl) (DO.quiet rfl (q_move rfl) (DO.quiet rfl (q_load_box 2 Try.underlying22 rfl rfl rfl rfl) (DO.quiet rfl (q_move rfl) ?_)))
      refine DO.quiet rfl (q_ix (i := v) Try.underlying22 inf3 rfl rfl (rowO (List.mem_of_getElem? (i := 9) rfl))) (DO.quiet rfl (q_ld Try.underlying3 rfl rfl (rowO (List.mem_of_getElem? (i := 9) rfl)) nats_get) (DO.quiet rfl (q_load_box 2 Try.underlying22 rfl rfl rfl rfl) (DO.quiet rfl (q_move rfl) ?_)))
      refine DO.quiet rfl (q_ix (i := u) Try.underlying22 inf3 rfl rfl (rowO (List.mem_of_getElem? (i := 9) rfl))) (DO.quiet rfl (q_ld Try.underlying3 rfl rfl (rowO (List.mem_of_getElem? (i := 9) rfl)) nats_get) (DO.quiet rfl (q_minN (a := z2.low[v]) (b := z2.low[u]) rfl rfl) (DO.quiet rfl (q_ix (i := v) Try.underlying22 inf3 rfl rfl (rowO (List.mem_of_getElem? (i := 9) rfl))) ?_)))
      refine DO.last rfl rfl (l_st (j := v) (v := .int .i64 ((min z2.low[v] z2.low[u] : Nat) : Int)) (vs := [(.int .i64 ((min z2.low[v] z2.low[u] : Nat) : Int))]) (cs := nats z2.low) 9 inf3 rfl rfl rfl rfl rfl (by simp) rfl (by first | (simp; omega) | (simp_all; omega)) ?_)
      refine DO.sub (O' := [oI xc 3 [(.int .i64 (z2.clk : Int))], oI xi 22 [(.slice ib nx.length ic)], oI xl 22 [(.slice lb nx.length lc)], oI xs 22 [(.slice zb2 z2.stk.length zc2)], oI xg 79 [(.slice nb nx.length nc), (.slice mb mn mc), .int .u64 full], oI xv 104 [(.func (.func 107) #[] #[(.pointer (some ⟨xc, 0, none⟩)), (.pointer (some ⟨xi, 0, none⟩)), (.pointer (some ⟨xl, 0, none⟩)), (.pointer (some ⟨xs, 0, none⟩)), (.pointer (some ⟨xg, 0, none⟩)), (.pointer (some ⟨xv, 0, none⟩)), (.pointer (some ⟨xp, 0, none⟩)), (.pointer (some ⟨xn, 0, none⟩))])], oI xp 22 [(.slice pb nx.length pc)], oI xn 3 [(.int .i64 (z2.cnt : Int))], rowI ib ic 3 1 (nats z2.idx), rowI lb lc 3 1 (nats (z2.low.set v (min z2.low[v] z2.low[u]))), rowI zb2 zc2 3 1 (nats z2.stk), rowI pb pc 3 1 (ints z2.comp)]) (by rw [show putL (nats z2.low) v [(.int .i64 ((min z2.low[v] z2.low[u] : Nat) : Int))] = nats (z2.low.set v (min z2.low[v] z2.low[u])) from (by simp [putL])]; exact Sub.of (List.Sublist.refl _)) ?_
      refine DO.done ?_
      refine T.region ?_
      refine TO.quiet (q_addN (a := k) (b := 1) rfl rfl (by omega)) (TO.quiet (q_move rfl) ?_)
      refine TO.nil ?_
      exact ⟨k + 1, by omega, { z2 with low := z2.low.set v (min z2.low[v] z2.low[u]) }, zb2, zc2, t ++ t2, rfl, by omega, hr.tree h0 hv hv hlt34 hu (by rw [gd (by omega)]; omega) hd2 (by rw [gd (by omega), gd (by omega)]), ⟨rfl, rfl, rfl, rfl, rfl, rfl, rfl, rfl, rfl, rfl, rfl, rfl, trivial⟩⟩
    have hge41 : ¬ z.idx[u] = 0 := by omega
    refine T.seq (T.region ?_)
    refine TO.quiet (q_load_box 6 Try.underlying22 rfl rfl rfl rfl) (TO.quiet (q_move rfl) (TO.quiet (q_ix (i := u) Try.underlying22 inf3 rfl rfl (rowO (List.mem_of_getElem? (i := 11) rfl))) (TO.quiet (q_ld Try.underlying3 rfl rfl (rowO (List.mem_of_getElem? (i := 11) rfl)) ints_get) ?_)))
    refine TO.quiet (q_lss rfl rfl) ?_
    refine TO.nil ?_
    refine T.condP rfl (fun hc => ?_) (fun hc => ?_)
    · refine T.draws _ [(0, 0), (1, 0), (2, 0), (3, 0), (4, 0), (5, 0), (6, 0), (7, 0), (8, 0), (9, 0), (10, 0), (11, 0), (12, 2)] mixed (by kernel_rfl) (Sub.of (List.Sublist.refl _)) (fun _ _ _ h => h) ?_
      refine DO.quiet rfl (q_load_box 2 Try.underlying22 rfl rfl rfl rfl) (DO.quiet rfl (q_move rfl) (DO.quiet rfl (q_load_box 2 Try.underlying22 rfl rfl rfl rfl) (DO.quiet rfl (q_move rfl) ?_)))
      refine DO.quiet rfl (q_ix (i := v) Try.underlying22 inf3 rfl rfl (rowO (List.mem_of_getElem? (i := 9) rfl))) (DO.quiet rfl (q_ld Try.underlying3 rfl rfl (rowO (List.mem_of_getElem? (i := 9) rfl)) nats_get) (DO.quiet rfl (q_load_box 1 Try.underlying22 rfl rfl rfl rfl) (DO.quiet rfl (q_move rfl) ?_)))
      refine DO.quiet rfl (q_ix (i := u) Try.underlying22 inf3 rfl rfl (rowO (List.mem_of_getElem? (i := 8) rfl))) (DO.quiet rfl (q_ld Try.underlying3 rfl rfl (rowO (List.mem_of_getElem? (i := 8) rfl)) nats_get) (DO.quiet rfl (q_minN (a := z.low[v]) (b := z.idx[u]) rfl rfl) (DO.quiet rfl (q_ix (i := v) Try.underlying22 inf3 rfl rfl (rowO (List.mem_of_getElem? (i := 9) rfl))) ?_)))
      refine DO.last rfl rfl (l_st (j := v) (v := .int .i64 ((min z.low[v] z.idx[u] : Nat) : Int)) (vs := [(.int .i64 ((min z.low[v] z.idx[u] : Nat) : Int))]) (cs := nats z.low) 9 inf3 rfl rfl rfl rfl rfl (by simp) rfl (by first | (simp; omega) | (simp_all; omega)) ?_)
      refine DO.sub (O' := [oI xc 3 [(.int .i64 (z.clk : Int))], oI xi 22 [(.slice ib nx.length ic)], oI xl 22 [(.slice lb nx.length lc)], oI xs 22 [(.slice zb z.stk.length zc)], oI xg 79 [(.slice nb nx.length nc), (.slice mb mn mc), .int .u64 full], oI xv 104 [(.func (.func 107) #[] #[(.pointer (some ⟨xc, 0, none⟩)), (.pointer (some ⟨xi, 0, none⟩)), (.pointer (some ⟨xl, 0, none⟩)), (.pointer (some ⟨xs, 0, none⟩)), (.pointer (some ⟨xg, 0, none⟩)), (.pointer (some ⟨xv, 0, none⟩)), (.pointer (some ⟨xp, 0, none⟩)), (.pointer (some ⟨xn, 0, none⟩))])], oI xp 22 [(.slice pb nx.length pc)], oI xn 3 [(.int .i64 (z.cnt : Int))], rowI ib ic 3 1 (nats z.idx), rowI lb lc 3 1 (nats (z.low.set v (min z.low[v] z.idx[u]))), rowI zb zc 3 1 (nats z.stk), rowI pb pc 3 1 (ints z.comp)]) (by rw [show putL (nats z.low) v [(.int .i64 ((min z.low[v] z.idx[u] : Nat) : Int))] = nats (z.low.set v (min z.low[v] z.idx[u])) from (by simp [putL])]; exact Sub.of (List.Sublist.refl _)) ?_
      refine DO.done ?_
      refine T.region ?_
      refine TO.quiet (q_addN (a := k) (b := 1) rfl rfl (by omega)) (TO.quiet (q_move rfl) ?_)
      refine TO.nil ?_
      exact ⟨k + 1, by omega, { z with low := z.low.set v (min z.low[v] z.idx[u]) }, zb, zc, t, rfl, by omega, hr.back h0 hv hv hlt34 hu (by rw [gd (by omega)]; omega) (by rw [gz (by omega)]; omega) (by rw [gd (by omega), gd (by omega)]), ⟨rfl, rfl, rfl, rfl, rfl, rfl, rfl, rfl, rfl, rfl, rfl, rfl, trivial⟩⟩
    refine T.skip (T.region ?_)
    refine TO.quiet (q_addN (a := k) (b := 1) rfl rfl (by omega)) (TO.quiet (q_move rfl) ?_)
    refine TO.nil ?_
    exact ⟨k + 1, by omega, z, zb, zc, t, rfl, by omega, hr.skip h0 hv hlt34 hu (by rw [gd (by omega)]; omega) (by rw [gz (by omega)]; omega), ⟨rfl, rfl, rfl, rfl, rfl, rfl, rfl, rfl, rfl, rfl, rfl, rfl, trivial⟩⟩
  have hge34 : ¬ k < nx[v].length := by omega
  refine T.exit ?_
  refine T.seq (T.seq ?_)
  refine T.draws _ [(0, 0), (1, 0), (2, 0), (3, 0), (4, 0), (5, 0), (6, 0), (7, 0), (8, 0)] mixed (by kernel_rfl) (Sub.of (List.Sublist.refl _)) (fun _ _ _ h => h) ?_
  refine DO.quiet rfl (q_load_box 2 Try.underlying22 rfl rfl rfl rfl) (DO.quiet rfl (q_move rfl) (DO.quiet rfl (q_ix (i := v) Try.underlying22 inf3 rfl rfl (rowO (List.mem_of_getElem? (i := 9) rfl))) (DO.quiet rfl (q_ld Try.underlying3 rfl rfl (rowO (List.mem_of_getElem? (i := 9) rfl)) nats_get) ?_)))
  refine DO.quiet rfl (q_load_box 1 Try.underlying22 rfl rfl rfl rfl) (DO.quiet rfl (q_move rfl) (DO.quiet rfl (q_ix (i := v) Try.underlying22 inf3 rfl rfl (rowO (List.mem_of_getElem? (i := 8) rfl))) (DO.quiet rfl (q_ld Try.underlying3 rfl rfl (rowO (List.mem_of_getElem? (i := 8) rfl)) nats_get) ?_)))
  refine DO.quiet rfl (q_neq rfl rfl) ?_
  refine DO.done ?_
  refine T.condP rfl (fun hc => ?_) (fun hc => ?_)
  · have hlt83 : z.low[v] ≠ z.idx[v] := by omega
    refine T.ret ?_
    refine Res.zero Try.results107 ?_
    exact ⟨z, zb, zc, v :: t, rfl, hr.leave h0 hv hge34 (by rw [gd (by omega), gd (by omega)]; omega)⟩
  have hge83 : ¬ z.low[v] ≠ z.idx[v] := by omega
  have hlow : z.low.getD v 0 = z.idx.getD v 0 := by rw [gd (by omega), gd (by omega)]; omega
  refine T.skip (T.seq (T.block ?_))
  refine T.loop (fun (q : List Nat) ρ O => ∃ (t1 pop : List Nat) (cp : List Int), O = [oI xc 3 [(.int .i64 (z.clk : Int))], oI xi 22 [(.slice ib nx.length ic)], oI xl 22 [(.slice lb nx.length lc)], oI xs 22 [(.slice zb q.length zc)], oI xg 79 [(.slice nb nx.length nc), (.slice mb mn mc), .int .u64 full], oI xv 104 [(.func (.func 107) #[] #[(.pointer (some ⟨xc, 0, none⟩)), (.pointer (some ⟨xi, 0, none⟩)), (.pointer (some ⟨xl, 0, none⟩)), (.pointer (some ⟨xs, 0, none⟩)), (.pointer (some ⟨xg, 0, none⟩)), (.pointer (some ⟨xv, 0, none⟩)), (.pointer (some ⟨xp, 0, none⟩)), (.pointer (some ⟨xn, 0, none⟩))])], oI xp 22 [(.slice pb nx.length pc)], oI xn 3 [(.int .i64 (z.cnt : Int))], rowI ib ic 3 1 (nats z.idx), rowI lb lc 3 1 (nats z.low), rowI zb zc 3 1 (nats q), rowI pb pc 3 1 (ints cp)] ∧ q = s.stk ++ v :: t1 ∧ t = t1 ++ pop ∧ cp.length = nx.length ∧ (∀ x, cp.getD x (-1) = if x ∈ pop then (z.cnt : Int) else z.comp.getD x (-1)) ∧ Heads [(0, .int .i64 (v : Int)), (1, (.pointer (some ⟨xc, 0, none⟩))), (2, (.pointer (some ⟨xi, 0, none⟩))), (3, (.pointer (some ⟨xl, 0, none⟩))), (4, (.pointer (some ⟨xs, 0, none⟩))), (5, (.pointer (some ⟨xg, 0, none⟩))), (6, (.pointer (some ⟨xv, 0, none⟩))), (7, (.pointer (some ⟨xp, 0, none⟩))), (8, (.pointer (some ⟨xn, 0, none⟩)))] ρ) (fun q => q.length) z.stk ?_ ?_
  · exact ⟨t, [], z.comp, rfl, hr.lp.stk, by simp, hlc, by simp, ⟨rfl, rfl, rfl, rfl, rfl, rfl, rfl, rfl, rfl, trivial⟩⟩
  rintro q ρ O ⟨t1, pop, cp, rfl, hq, ht, hcl, hcp, hH⟩
  obtain ⟨ρ0, rfl⟩ := hH.elim
  clear hH
  obtain ⟨st2, u, hst⟩ : ∃ st2 u, q = st2 ++ [u] := by
    rcases List.eq_nil_or_concat q with h | ⟨a, b, h⟩
    · rw [hq] at h; simp at h
    · exact ⟨a, b, h.trans (List.concat_eq_append ..)⟩
  have hql : q.length = st2.length + 1 := by rw [hst]; simp
  have hqg : q[st2.length]? = some u := by rw [hst]; simp
  have hqz : q.length ≤ z.stk.length := by
    have e : z.stk = s.stk ++ v :: t := hr.lp.stk
    rw [hq, e, ht]; simp
  have hqb : q.length ≤ 1000000 := by have := hr.ok.sk; have := hr.ok.ck; omega
  have hus : u ∈ z.stk := by
    have e : z.stk = s.stk ++ v :: t := hr.lp.stk
    have : u ∈ s.stk ++ v :: t1 := by rw [← hq, hst]; simp
    rw [e, ht]; simp at this ⊢
    rcases this with h | h | h
    · exact .inl h
    · exact .inr (.inl h)
    · exact .inr (.inr (.inl h))
  have hul : u < nx.length := hr.lp.inv.vis u ((hr.lp.inv.mem u).1 hus).1
  refine T.have (φ := q.length ≤ zc) (fun w hI => by have := rowP.cap (hI.row (i := 10) rfl); simpa using this) (fun hcap => ?_)
  refine T.block (T.seq (T.region ?_))
  refine TO.quiet (q_load_box 3 Try.underlying22 rfl rfl rfl rfl) (TO.quiet (q_load_box 3 Try.underlying22 rfl rfl rfl rfl) (TO.quiet (q_len Try.underlying22 rfl) (TO.quiet (QT.cast (q_subN (a := q.length) (b := 1) rfl rfl (by omega) (by omega)) (v' := .int .i64 ((st2.length : Nat) : Int)) (by rw [show q.length - 1 = st2.length by omega])) ?_)))
  refine TO.quiet (q_ix (i := st2.length) Try.underlying22 inf3 rfl rfl (rowO (List.mem_of_getElem? (i := 10) rfl))) (TO.quiet (q_ld Try.underlying3 rfl rfl (rowO (List.mem_of_getElem? (i := 10) rfl)) (show (nats q)[st2.length]? = some (.int .i64 ((u : Nat) : Int)) by rw [List.getElem?_map, hqg]; rfl)) (TO.quiet (q_assign rfl) ?_))
  refine TO.nil (T.seq (T.region ?_))
  refine TO.quiet (q_load_box 3 Try.underlying22 rfl rfl rfl rfl) (TO.quiet (q_load_box 3 Try.underlying22 rfl rfl rfl rfl) (TO.quiet (q_len Try.underlying22 rfl) (TO.quiet (QT.cast (q_subN (a := q.length) (b := 1) rfl rfl (by omega) (by omega)) (v' := .int .i64 ((st2.length : Nat) : Int)) (by rw [show q.length - 1 = st2.length by omega])) ?_)))
  refine TO.loud rfl (l_head (m := st2.length) 10 Try.underlying22 inf3 rfl rfl rfl (by omega) ?_)
  refine TO.sub (O' := [oI xc 3 [(.int .i64 (z.clk : Int))], oI xi 22 [(.slice ib nx.length ic)], oI xl 22 [(.slice lb nx.length lc)], oI xs 22 [(.slice zb q.length zc)], oI xg 79 [(.slice nb nx.length nc), (.slice mb mn mc), .int .u64 full], oI xv 104 [(.func (.func 107) #[] #[(.pointer (some ⟨xc, 0, none⟩)), (.pointer (some ⟨xi, 0, none⟩)), (.pointer (some ⟨xl, 0, none⟩)), (.pointer (some ⟨xs, 0, none⟩)), (.pointer (some ⟨xg, 0, none⟩)), (.pointer (some ⟨xv, 0, none⟩)), (.pointer (some ⟨xp, 0, none⟩)), (.pointer (some ⟨xn, 0, none⟩))])], oI xp 22 [(.slice pb nx.length pc)], oI xn 3 [(.int .i64 (z.cnt : Int))], rowI ib ic 3 1 (nats z.idx), rowI lb lc 3 1 (nats z.low), rowI zb zc 3 1 (nats st2), rowI pb pc 3 1 (ints cp)]) (by rw [show (nats q).take (st2.length * 1) = nats st2 from (by rw [Nat.mul_one, ← List.map_take, hst, List.take_left])]; exact Sub.of (List.Sublist.refl _)) ?_
  refine TO.loud rfl (l_store_box (v := (.slice zb st2.length zc)) (vs := [(.slice zb st2.length zc)]) 3 inf22 rfl rfl rfl rfl rfl rfl (by simp [putL]) ?_)
  refine TO.nil (T.seq (T.region ?_))
  refine TO.quiet (q_load_box 6 Try.underlying22 rfl rfl rfl rfl) (TO.quiet (q_move rfl) (TO.quiet (q_load_box 7 Try.underlying3 rfl rfl rfl rfl) (TO.quiet (q_ix (i := u) Try.underlying22 inf3 rfl rfl (rowO (List.mem_of_getElem? (i := 11) rfl))) ?_)))
  refine TO.loud rfl (l_st (j := u) (v := (.int .i64 (z.cnt : Int))) (vs := [(.int .i64 (z.cnt : Int))]) (cs := ints cp) 11 inf3 rfl rfl rfl rfl rfl (by simp) rfl (by first | (simp; omega) | (simp_all; omega)) ?_)
  refine TO.sub (O' := [oI xc 3 [(.int .i64 (z.clk : Int))], oI xi 22 [(.slice ib nx.length ic)], oI xl 22 [(.slice lb nx.length lc)], oI xs 22 [(.slice zb st2.length zc)], oI xg 79 [(.slice nb nx.length nc), (.slice mb mn mc), .int .u64 full], oI xv 104 [(.func (.func 107) #[] #[(.pointer (some ⟨xc, 0, none⟩)), (.pointer (some ⟨xi, 0, none⟩)), (.pointer (some ⟨xl, 0, none⟩)), (.pointer (some ⟨xs, 0, none⟩)), (.pointer (some ⟨xg, 0, none⟩)), (.pointer (some ⟨xv, 0, none⟩)), (.pointer (some ⟨xp, 0, none⟩)), (.pointer (some ⟨xn, 0, none⟩))])], oI xp 22 [(.slice pb nx.length pc)], oI xn 3 [(.int .i64 (z.cnt : Int))], rowI ib ic 3 1 (nats z.idx), rowI lb lc 3 1 (nats z.low), rowI zb zc 3 1 (nats st2), rowI pb pc 3 1 (ints (cp.set u (z.cnt : Int)))]) (by rw [show putL (ints cp) u [(.int .i64 (z.cnt : Int))] = ints (cp.set u (z.cnt : Int)) from (by simp [putL])]; exact Sub.of (List.Sublist.refl _)) ?_
  refine TO.nil (T.seq (T.region ?_))
  refine TO.quiet (q_move rfl) (TO.quiet (q_move rfl) (TO.quiet (q_eql rfl rfl) ?_))
  refine TO.nil ?_
  refine T.condP rfl (fun hc => ?_) (fun hc => ?_)
  · have hlt101 : u = v := by omega
    refine T.exit ?_
    refine T.region ?_
    refine TO.quiet (q_load_box 7 Try.underlying3 rfl rfl rfl rfl) (TO.quiet (q_addN (a := z.cnt) (b := 1) rfl rfl (by omega)) ?_)
    refine TO.loud rfl (l_store_box (v := .int .i64 ((z.cnt + 1 : Nat) : Int)) (vs := [(.int .i64 ((z.cnt + 1 : Nat) : Int))]) 7 inf3 rfl rfl rfl rfl rfl rfl (by simp [putL]) ?_)
    refine TO.nil ?_
    refine Res.zero Try.results107 ?_
    have hnt : v ∉ t1 := fun hm => by
      have := hr.lp.tnew (x := v) (by rw [ht]; exact List.mem_append_left _ hm)
      exact Nat.lt_irrefl _ this
    obtain ⟨h5, h6⟩ := pop_last (hq ▸ hst) (by omega) hnt
    have huv : u = v := by omega
    subst h6 h5 huv
    exact ⟨{ z with comp := cp.set u z.cnt, stk := s.stk, cnt := z.cnt + 1 }, zb, zc, [], rfl, hr.pop h0 hok hv hge34 hlow (by simp [hcl]) (fun x => by rw [fz_pop (by omega) hcp x, ht]; rfl)⟩
  have hge101 : ¬ u = v := by omega
  refine T.skip ?_
  obtain ⟨t1b, ht1, hs2⟩ := pop_split (hq ▸ hst) (by omega)
  exact ⟨st2, by omega, t1b, u :: pop, cp.set u z.cnt, rfl, hs2, by rw [ht, ht1]; simp, by simp [hcl], fz_pop (by omega) hcp, ⟨rfl, rfl, rfl, rfl, rfl, rfl, rfl, rfl, rfl, trivial⟩⟩
end Go.Proofs.Ytnamoapbienooaa


namespace Go.Proofs.Ytnamoapbienooaa
open Go.Lx Go.RowKit
set_option linter.unusedVariables false
set_option linter.unusedSimpArgs false
set_option maxHeartbeats 1000000 in
set_option maxRecDepth 20000 in
theorem componentsF (base : World) (nb mb : Option Addr) (nc mn mc : Nat) (full : Int) (vs : List Value) (nx : List (List Int)) (hS : Sl base nb vs) (hR : RowsR base vs nx) (hn : nx.length ≤ 1000000) (hrl : ∀ r ∈ nx, r.length ≤ 1000000) (hval : ∀ r ∈ nx, ∀ x ∈ r, 0 ≤ x ∧ x < (nx.length : Int)) :
    PureT Try.prog 74 [.agg #[.slice nb nx.length nc, .slice mb mn mc, .int .u64 full]] base fun v N => ∃ cb cc cn cnt, v = .tuple #[.slice cb nx.length cc, .int .i64 ((cnt : Nat) : Int)] ∧ N = [rowI cb cc 3 1 (nats cn)] ∧ cn.length = nx.length ∧ CompN nx cn cnt ∧ cnt ≤ nx.length := by
  refine CallT.enter Try.func74 rfl Try.ntmps74 rfl ?_
  refine T.seq (T.region ?_)
  refine TO.loud rfl (l_box (v := (.agg #[(.slice nb nx.length nc), (.slice mb mn mc), .int .u64 full])) (cs := [(.slice nb nx.length nc), (.slice mb mn mc), .int .u64 full]) rfl rfl (fun bx1 => ?_))
  refine TO.loud rfl (l_alloc inf22 rfl (fun bx2 => ?_))
  refine TO.loud rfl (l_alloc inf3 rfl (fun bx3 => ?_))
  refine TO.nil (T.seq (T.region ?_))
  refine TO.quiet (q_fieldAddr Try.underlying79 rfl inf24 rfl rfl) (TO.quiet (q_load_box 2 Try.underlying24 rfl rfl rfl rfl) (TO.quiet (q_len Try.underlying24 rfl) (TO.quiet (q_assign rfl) ?_)))
  refine TO.nil ?_
  refine T.cut (fun ρ O => ∃ (zA zB zC zD : Nat), O = [oI zC 22 [(.slice (some ⟨zA, 0, none⟩) nx.length nx.length)], oI zD 22 [(.slice (some ⟨zB, 0, none⟩) nx.length nx.length)], rowI (some ⟨zA, 0, none⟩) nx.length 3 1 (List.replicate nx.length (.int .i64 0)), rowI (some ⟨zB, 0, none⟩) nx.length 3 1 (List.replicate nx.length (.int .i64 0)), oI bx3 3 [(.int .i64 0)], oI bx2 22 [(.slice none 0 0)], oI bx1 79 [(.slice nb nx.length nc), (.slice mb mn mc), .int .u64 full]] ∧ Heads [(0, (.agg #[(.slice nb nx.length nc), (.slice mb mn mc), .int .u64 full])), (1, (.pointer (some ⟨bx1, 0, none⟩))), (2, (.pointer (some ⟨bx2, 0, none⟩))), (3, (.pointer (some ⟨bx3, 0, none⟩))), (4, .int .i64 (nx.length : Int)), (5, (.pointer (some ⟨zC, 0, none⟩))), (6, (.pointer (some ⟨zD, 0, none⟩)))] ρ) ?_ ?_
  · refine T.tree [] 8 mixed rfl (Sub.pick [] rfl) (fun _ _ _ h => h) ?_
    refine RO.quietT 0 rfl (by kernel_rfl) (q_move rfl) ?_
    refine RO.quietT 2 rfl (by kernel_rfl) (q_move rfl) ?_
    refine RO.fork [1, 3, 4, 5] (by kernel_rfl) rfl ⟨⟨_, rfl, rfl, l_makeSlice (m := nx.length) Try.underlying22 inf3 rfl rfl (by omega) (by omega) (fun zA => ⟨Sub.pick [] rfl, ?_⟩)⟩, ⟨_, rfl, rfl, l_makeSlice (m := nx.length) Try.underlying22 inf3 rfl rfl (by omega) (by omega) (fun zB => ⟨Sub.pick [] rfl, ?_⟩)⟩, ⟨_, rfl, rfl, l_alloc inf22 rfl (fun zC => ⟨Sub.pick [] rfl, ?_⟩)⟩, ⟨_, rfl, rfl, l_alloc inf22 rfl (fun zD => ⟨Sub.pick [] rfl, ?_⟩)⟩, trivial⟩
    · refine RO.fork [3, 4, 5] (by kernel_rfl) rfl ⟨⟨_, rfl, rfl, l_makeSlice (m := nx.length) Try.underlying22 inf3 rfl rfl (by omega) (by omega) (fun zB => ⟨Sub.pick [] rfl, ?_⟩)⟩, ⟨_, rfl, rfl, l_alloc inf22 rfl (fun zC => ⟨Sub.pick [] rfl, ?_⟩)⟩, ⟨_, rfl, rfl, l_alloc inf22 rfl (fun zD => ⟨Sub.pick [] rfl, ?_⟩)⟩, trivial⟩
      · refine RO.fork [4, 5] (by kernel_rfl) rfl ⟨⟨_, rfl, rfl, l_alloc inf22 rfl (fun zC => ⟨Sub.pick [] rfl, ?_⟩)⟩, ⟨_, rfl, rfl, l_alloc inf22 rfl (fun zD => ⟨Sub.pick [] rfl, ?_⟩)⟩, trivial⟩
        · refine RO.fork [5] (by kernel_rfl) rfl ⟨⟨_, rfl, rfl, l_alloc inf22 rfl (fun zD => ⟨Sub.pick [] rfl, ?_⟩)⟩, trivial⟩
          refine RO.fork [6] (by kernel_rfl) rfl ⟨⟨_, rfl, rfl, l_store_box (v := (.slice (some ⟨zA, 0, none⟩) nx.length nx.length)) (vs := [(.slice (some ⟨zA, 0, none⟩) nx.length nx.length)]) 1 inf22 rfl rfl rfl rfl rfl rfl (by simp [putL]) ⟨Sub.pick [] rfl, ?_⟩⟩, trivial⟩
          refine RO.fork [7] (by kernel_rfl) rfl ⟨⟨_, rfl, rfl, l_store_box (v := (.slice (some ⟨zB, 0, none⟩) nx.length nx.length)) (vs := [(.slice (some ⟨zB, 0, none⟩) nx.length nx.length)]) 0 inf22 rfl rfl rfl rfl rfl rfl (by simp [putL]) ⟨Sub.pick [] rfl, ?_⟩⟩, trivial⟩
          exact RO.fin (by kernel_rfl) ⟨zA, zB, zC, zD, rfl, ⟨rfl, rfl, rfl, rfl, rfl, rfl, rfl, trivial⟩⟩ (Sub.pick [1, 0, 1, 0, 0, 0, 0] rfl)
        refine RO.fork [4] (by kernel_rfl) rfl ⟨⟨_, rfl, rfl, l_alloc inf22 rfl (fun zC => ⟨Sub.pick [] rfl, ?_⟩)⟩, trivial⟩
        refine RO.fork [6] (by kernel_rfl) rfl ⟨⟨_, rfl, rfl, l_store_box (v := (.slice (some ⟨zA, 0, none⟩) nx.length nx.length)) (vs := [(.slice (some ⟨zA, 0, none⟩) nx.length nx.length)]) 0 inf22 rfl rfl rfl rfl rfl rfl (by simp [putL]) ⟨Sub.pick [] rfl, ?_⟩⟩, trivial⟩
        refine RO.fork [7] (by kernel_rfl) rfl ⟨⟨_, rfl, rfl, l_store_box (v := (.slice (some ⟨zB, 0, none⟩) nx.length nx.length)) (vs := [(.slice (some ⟨zB, 0, none⟩) nx.length nx.length)]) 1 inf22 rfl rfl rfl rfl rfl rfl (by simp [putL]) ⟨Sub.pick [] rfl, ?_⟩⟩, trivial⟩
        exact RO.fin (by kernel_rfl) ⟨zA, zB, zC, zD, rfl, ⟨rfl, rfl, rfl, rfl, rfl, rfl, rfl, trivial⟩⟩ (Sub.pick [0, 0, 1, 0, 0, 0, 0] rfl)
      · refine RO.fork [3, 5] (by kernel_rfl) rfl ⟨⟨_, rfl, rfl, l_makeSlice (m := nx.length) Try.underlying22 inf3 rfl rfl (by omega) (by omega) (fun zB => ⟨Sub.pick [] rfl, ?_⟩)⟩, ⟨_, rfl, rfl, l_alloc inf22 rfl (fun zD => ⟨Sub.pick [] rfl, ?_⟩)⟩, trivial⟩
        · refine RO.fork [5] (by kernel_rfl) rfl ⟨⟨_, rfl, rfl, l_alloc inf22 rfl (fun zD => ⟨Sub.pick [] rfl, ?_⟩)⟩, trivial⟩
          refine RO.fork [6] (by kernel_rfl) rfl ⟨⟨_, rfl, rfl, l_store_box (v := (.slice (some ⟨zA, 0, none⟩) nx.length nx.length)) (vs := [(.slice (some ⟨zA, 0, none⟩) nx.length nx.length)]) 2 inf22 rfl rfl rfl rfl rfl rfl (by simp [putL]) ⟨Sub.pick [] rfl, ?_⟩⟩, trivial⟩
          refine RO.fork [7] (by kernel_rfl) rfl ⟨⟨_, rfl, rfl, l_store_box (v := (.slice (some ⟨zB, 0, none⟩) nx.length nx.length)) (vs := [(.slice (some ⟨zB, 0, none⟩) nx.length nx.length)]) 0 inf22 rfl rfl rfl rfl rfl rfl (by simp [putL]) ⟨Sub.pick [] rfl, ?_⟩⟩, trivial⟩
          exact RO.fin (by kernel_rfl) ⟨zA, zB, zC, zD, rfl, ⟨rfl, rfl, rfl, rfl, rfl, rfl, rfl, trivial⟩⟩ (Sub.pick [2, 0, 1, 0, 0, 0, 0] rfl)
        refine RO.fork [3, 6] (by kernel_rfl) rfl ⟨⟨_, rfl, rfl, l_makeSlice (m := nx.length) Try.underlying22 inf3 rfl rfl (by omega) (by omega) (fun zB => ⟨Sub.pick [] rfl, ?_⟩)⟩, ⟨_, rfl, rfl, l_store_box (v := (.slice (some ⟨zA, 0, none⟩) nx.length nx.length)) (vs := [(.slice (some ⟨zA, 0, none⟩) nx.length nx.length)]) 1 inf22 rfl rfl rfl rfl rfl rfl (by simp [putL]) ⟨Sub.pick [] rfl, ?_⟩⟩, trivial⟩
        · refine RO.fork [6] (by kernel_rfl) rfl ⟨⟨_, rfl, rfl, l_store_box (v := (.slice (some ⟨zA, 0, none⟩) nx.length nx.length)) (vs := [(.slice (some ⟨zA, 0, none⟩) nx.length nx.length)]) 2 inf22 rfl rfl rfl rfl rfl rfl (by simp [putL]) ⟨Sub.pick [] rfl, ?_⟩⟩, trivial⟩
          refine RO.fork [7] (by kernel_rfl) rfl ⟨⟨_, rfl, rfl, l_store_box (v := (.slice (some ⟨zB, 0, none⟩) nx.length nx.length)) (vs := [(.slice (some ⟨zB, 0, none⟩) nx.length nx.length)]) 1 inf22 rfl rfl rfl rfl rfl rfl (by simp [putL]) ⟨Sub.pick [] rfl, ?_⟩⟩, trivial⟩
          exact RO.fin (by kernel_rfl) ⟨zA, zB, zC, zD, rfl, ⟨rfl, rfl, rfl, rfl, rfl, rfl, rfl, trivial⟩⟩ (Sub.pick [2, 1, 1, 0, 0, 0, 0] rfl)
        refine RO.fork [3] (by kernel_rfl) rfl ⟨⟨_, rfl, rfl, l_makeSlice (m := nx.length) Try.underlying22 inf3 rfl rfl (by omega) (by omega) (fun zB => ⟨Sub.pick [] rfl, ?_⟩)⟩, trivial⟩
        refine RO.fork [7] (by kernel_rfl) rfl ⟨⟨_, rfl, rfl, l_store_box (v := (.slice (some ⟨zB, 0, none⟩) nx.length nx.length)) (vs := [(.slice (some ⟨zB, 0, none⟩) nx.length nx.length)]) 1 inf22 rfl rfl rfl rfl rfl rfl (by simp [putL]) ⟨Sub.pick [] rfl, ?_⟩⟩, trivial⟩
        exact RO.fin (by kernel_rfl) ⟨zA, zB, zC, zD, rfl, ⟨rfl, rfl, rfl, rfl, rfl, rfl, rfl, trivial⟩⟩ (Sub.pick [2, 1, 1, 0, 0, 0, 0] rfl)
      refine RO.fork [3, 4] (by kernel_rfl) rfl ⟨⟨_, rfl, rfl, l_makeSlice (m := nx.length) Try.underlying22 inf3 rfl rfl (by omega) (by omega) (fun zB => ⟨Sub.pick [] rfl, ?_⟩)⟩, ⟨_, rfl, rfl, l_alloc inf22 rfl (fun zC => ⟨Sub.pick [] rfl, ?_⟩)⟩, trivial⟩
      · refine RO.fork [4] (by kernel_rfl) rfl ⟨⟨_, rfl, rfl, l_alloc inf22 rfl (fun zC => ⟨Sub.pick [] rfl, ?_⟩)⟩, trivial⟩
        refine RO.fork [6] (by kernel_rfl) rfl ⟨⟨_, rfl, rfl, l_store_box (v := (.slice (some ⟨zA, 0, none⟩) nx.length nx.length)) (vs := [(.slice (some ⟨zA, 0, none⟩) nx.length nx.length)]) 0 inf22 rfl rfl rfl rfl rfl rfl (by simp [putL]) ⟨Sub.pick [] rfl, ?_⟩⟩, trivial⟩
        refine RO.fork [7] (by kernel_rfl) rfl ⟨⟨_, rfl, rfl, l_store_box (v := (.slice (some ⟨zB, 0, none⟩) nx.length nx.length)) (vs := [(.slice (some ⟨zB, 0, none⟩) nx.length nx.length)]) 2 inf22 rfl rfl rfl rfl rfl rfl (by simp [putL]) ⟨Sub.pick [] rfl, ?_⟩⟩, trivial⟩
        exact RO.fin (by kernel_rfl) ⟨zA, zB, zC, zD, rfl, ⟨rfl, rfl, rfl, rfl, rfl, rfl, rfl, trivial⟩⟩ (Sub.pick [0, 1, 1, 0, 0, 0, 0] rfl)
      refine RO.fork [3, 6] (by kernel_rfl) rfl ⟨⟨_, rfl, rfl, l_makeSlice (m := nx.length) Try.underlying22 inf3 rfl rfl (by omega) (by omega) (fun zB => ⟨Sub.pick [] rfl, ?_⟩)⟩, ⟨_, rfl, rfl, l_store_box (v := (.slice (some ⟨zA, 0, none⟩) nx.length nx.length)) (vs := [(.slice (some ⟨zA, 0, none⟩) nx.length nx.length)]) 0 inf22 rfl rfl rfl rfl rfl rfl (by simp [putL]) ⟨Sub.pick [] rfl, ?_⟩⟩, trivial⟩
      · refine RO.fork [6] (by kernel_rfl) rfl ⟨⟨_, rfl, rfl, l_store_box (v := (.slice (some ⟨zA, 0, none⟩) nx.length nx.length)) (vs := [(.slice (some ⟨zA, 0, none⟩) nx.length nx.length)]) 1 inf22 rfl rfl rfl rfl rfl rfl (by simp [putL]) ⟨Sub.pick [] rfl, ?_⟩⟩, trivial⟩
        refine RO.fork [7] (by kernel_rfl) rfl ⟨⟨_, rfl, rfl, l_store_box (v := (.slice (some ⟨zB, 0, none⟩) nx.length nx.length)) (vs := [(.slice (some ⟨zB, 0, none⟩) nx.length nx.length)]) 2 inf22 rfl rfl rfl rfl rfl rfl (by simp [putL]) ⟨Sub.pick [] rfl, ?_⟩⟩, trivial⟩
        exact RO.fin (by kernel_rfl) ⟨zA, zB, zC, zD, rfl, ⟨rfl, rfl, rfl, rfl, rfl, rfl, rfl, trivial⟩⟩ (Sub.pick [1, 1, 1, 0, 0, 0, 0] rfl)
      refine RO.fork [3] (by kernel_rfl) rfl ⟨⟨_, rfl, rfl, l_makeSlice (m := nx.length) Try.underlying22 inf3 rfl rfl (by omega) (by omega) (fun zB => ⟨Sub.pick [] rfl, ?_⟩)⟩, trivial⟩
      refine RO.fork [7] (by kernel_rfl) rfl ⟨⟨_, rfl, rfl, l_store_box (v := (.slice (some ⟨zB, 0, none⟩) nx.length nx.length)) (vs := [(.slice (some ⟨zB, 0, none⟩) nx.length nx.length)]) 2 inf22 rfl rfl rfl rfl rfl rfl (by simp [putL]) ⟨Sub.pick [] rfl, ?_⟩⟩, trivial⟩
      exact RO.fin (by kernel_rfl) ⟨zA, zB, zC, zD, rfl, ⟨rfl, rfl, rfl, rfl, rfl, rfl, rfl, trivial⟩⟩ (Sub.pick [1, 1, 1, 0, 0, 0, 0] rfl)
    · refine RO.fork [1, 4, 5] (by kernel_rfl) rfl ⟨⟨_, rfl, rfl, l_makeSlice (m := nx.length) Try.underlying22 inf3 rfl rfl (by omega) (by omega) (fun zA => ⟨Sub.pick [] rfl, ?_⟩)⟩, ⟨_, rfl, rfl, l_alloc inf22 rfl (fun zC => ⟨Sub.pick [] rfl, ?_⟩)⟩, ⟨_, rfl, rfl, l_alloc inf22 rfl (fun zD => ⟨Sub.pick [] rfl, ?_⟩)⟩, trivial⟩
      · refine RO.fork [4, 5] (by kernel_rfl) rfl ⟨⟨_, rfl, rfl, l_alloc inf22 rfl (fun zC => ⟨Sub.pick [] rfl, ?_⟩)⟩, ⟨_, rfl, rfl, l_alloc inf22 rfl (fun zD => ⟨Sub.pick [] rfl, ?_⟩)⟩, trivial⟩
        · refine RO.fork [5] (by kernel_rfl) rfl ⟨⟨_, rfl, rfl, l_alloc inf22 rfl (fun zD => ⟨Sub.pick [] rfl, ?_⟩)⟩, trivial⟩
          refine RO.fork [6] (by kernel_rfl) rfl ⟨⟨_, rfl, rfl, l_store_box (v := (.slice (some ⟨zA, 0, none⟩) nx.length nx.length)) (vs := [(.slice (some ⟨zA, 0, none⟩) nx.length nx.length)]) 1 inf22 rfl rfl rfl rfl rfl rfl (by simp [putL]) ⟨Sub.pick [] rfl, ?_⟩⟩, trivial⟩
          refine RO.fork [7] (by kernel_rfl) rfl ⟨⟨_, rfl, rfl, l_store_box (v := (.slice (some ⟨zB, 0, none⟩) nx.length nx.length)) (vs := [(.slice (some ⟨zB, 0, none⟩) nx.length nx.length)]) 0 inf22 rfl rfl rfl rfl rfl rfl (by simp [putL]) ⟨Sub.pick [] rfl, ?_⟩⟩, trivial⟩
          exact RO.fin (by kernel_rfl) ⟨zA, zB, zC, zD, rfl, ⟨rfl, rfl, rfl, rfl, rfl, rfl, rfl, trivial⟩⟩ (Sub.pick [1, 0, 0, 0, 0, 0, 0] rfl)
        refine RO.fork [4] (by kernel_rfl) rfl ⟨⟨_, rfl, rfl, l_alloc inf22 rfl (fun zC => ⟨Sub.pick [] rfl, ?_⟩)⟩, trivial⟩
        refine RO.fork [6] (by kernel_rfl) rfl ⟨⟨_, rfl, rfl, l_store_box (v := (.slice (some ⟨zA, 0, none⟩) nx.length nx.length)) (vs := [(.slice (some ⟨zA, 0, none⟩) nx.length nx.length)]) 0 inf22 rfl rfl rfl rfl rfl rfl (by simp [putL]) ⟨Sub.pick [] rfl, ?_⟩⟩, trivial⟩
        refine RO.fork [7] (by kernel_rfl) rfl ⟨⟨_, rfl, rfl, l_store_box (v := (.slice (some ⟨zB, 0, none⟩) nx.length nx.length)) (vs := [(.slice (some ⟨zB, 0, none⟩) nx.length nx.length)]) 1 inf22 rfl rfl rfl rfl rfl rfl (by simp [putL]) ⟨Sub.pick [] rfl, ?_⟩⟩, trivial⟩
        exact RO.fin (by kernel_rfl) ⟨zA, zB, zC, zD, rfl, ⟨rfl, rfl, rfl, rfl, rfl, rfl, rfl, trivial⟩⟩ (Sub.pick [0, 0, 0, 0, 0, 0, 0] rfl)
      · refine RO.fork [1, 5] (by kernel_rfl) rfl ⟨⟨_, rfl, rfl, l_makeSlice (m := nx.length) Try.underlying22 inf3 rfl rfl (by omega) (by omega) (fun zA => ⟨Sub.pick [] rfl, ?_⟩)⟩, ⟨_, rfl, rfl, l_alloc inf22 rfl (fun zD => ⟨Sub.pick [] rfl, ?_⟩)⟩, trivial⟩
        · refine RO.fork [5] (by kernel_rfl) rfl ⟨⟨_, rfl, rfl, l_alloc inf22 rfl (fun zD => ⟨Sub.pick [] rfl, ?_⟩)⟩, trivial⟩
          refine RO.fork [6] (by kernel_rfl) rfl ⟨⟨_, rfl, rfl, l_store_box (v := (.slice (some ⟨zA, 0, none⟩) nx.length nx.length)) (vs := [(.slice (some ⟨zA, 0, none⟩) nx.length nx.length)]) 2 inf22 rfl rfl rfl rfl rfl rfl (by simp [putL]) ⟨Sub.pick [] rfl, ?_⟩⟩, trivial⟩
          refine RO.fork [7] (by kernel_rfl) rfl ⟨⟨_, rfl, rfl, l_store_box (v := (.slice (some ⟨zB, 0, none⟩) nx.length nx.length)) (vs := [(.slice (some ⟨zB, 0, none⟩) nx.length nx.length)]) 0 inf22 rfl rfl rfl rfl rfl rfl (by simp [putL]) ⟨Sub.pick [] rfl, ?_⟩⟩, trivial⟩
          exact RO.fin (by kernel_rfl) ⟨zA, zB, zC, zD, rfl, ⟨rfl, rfl, rfl, rfl, rfl, rfl, rfl, trivial⟩⟩ (Sub.pick [2, 0, 0, 0, 0, 0, 0] rfl)
        refine RO.fork [1] (by kernel_rfl) rfl ⟨⟨_, rfl, rfl, l_makeSlice (m := nx.length) Try.underlying22 inf3 rfl rfl (by omega) (by omega) (fun zA => ⟨Sub.pick [] rfl, ?_⟩)⟩, trivial⟩
        refine RO.fork [6] (by kernel_rfl) rfl ⟨⟨_, rfl, rfl, l_store_box (v := (.slice (some ⟨zA, 0, none⟩) nx.length nx.length)) (vs := [(.slice (some ⟨zA, 0, none⟩) nx.length nx.length)]) 2 inf22 rfl rfl rfl rfl rfl rfl (by simp [putL]) ⟨Sub.pick [] rfl, ?_⟩⟩, trivial⟩
        refine RO.fork [7] (by kernel_rfl) rfl ⟨⟨_, rfl, rfl, l_store_box (v := (.slice (some ⟨zB, 0, none⟩) nx.length nx.length)) (vs := [(.slice (some ⟨zB, 0, none⟩) nx.length nx.length)]) 1 inf22 rfl rfl rfl rfl rfl rfl (by simp [putL]) ⟨Sub.pick [] rfl, ?_⟩⟩, trivial⟩
        exact RO.fin (by kernel_rfl) ⟨zA, zB, zC, zD, rfl, ⟨rfl, rfl, rfl, rfl, rfl, rfl, rfl, trivial⟩⟩ (Sub.pick [2, 1, 0, 0, 0, 0, 0] rfl)
      refine RO.fork [1, 4] (by kernel_rfl) rfl ⟨⟨_, rfl, rfl, l_makeSlice (m := nx.length) Try.underlying22 inf3 rfl rfl (by omega) (by omega) (fun zA => ⟨Sub.pick [] rfl, ?_⟩)⟩, ⟨_, rfl, rfl, l_alloc inf22 rfl (fun zC => ⟨Sub.pick [] rfl, ?_⟩)⟩, trivial⟩
      · refine RO.fork [4] (by kernel_rfl) rfl ⟨⟨_, rfl, rfl, l_alloc inf22 rfl (fun zC => ⟨Sub.pick [] rfl, ?_⟩)⟩, trivial⟩
        refine RO.fork [6] (by kernel_rfl) rfl ⟨⟨_, rfl, rfl, l_store_box (v := (.slice (some ⟨zA, 0, none⟩) nx.length nx.length)) (vs := [(.slice (some ⟨zA, 0, none⟩) nx.length nx.length)]) 0 inf22 rfl rfl rfl rfl rfl rfl (by simp [putL]) ⟨Sub.pick [] rfl, ?_⟩⟩, trivial⟩
        refine RO.fork [7] (by kernel_rfl) rfl ⟨⟨_, rfl, rfl, l_store_box (v := (.slice (some ⟨zB, 0, none⟩) nx.length nx.length)) (vs := [(.slice (some ⟨zB, 0, none⟩) nx.length nx.length)]) 2 inf22 rfl rfl rfl rfl rfl rfl (by simp [putL]) ⟨Sub.pick [] rfl, ?_⟩⟩, trivial⟩
        exact RO.fin (by kernel_rfl) ⟨zA, zB, zC, zD, rfl, ⟨rfl, rfl, rfl, rfl, rfl, rfl, rfl, trivial⟩⟩ (Sub.pick [0, 1, 0, 0, 0, 0, 0] rfl)
      refine RO.fork [1] (by kernel_rfl) rfl ⟨⟨_, rfl, rfl, l_makeSlice (m := nx.length) Try.underlying22 inf3 rfl rfl (by omega) (by omega) (fun zA => ⟨Sub.pick [] rfl, ?_⟩)⟩, trivial⟩
      refine RO.fork [6] (by kernel_rfl) rfl ⟨⟨_, rfl, rfl, l_store_box (v := (.slice (some ⟨zA, 0, none⟩) nx.length nx.length)) (vs := [(.slice (some ⟨zA, 0, none⟩) nx.length nx.length)]) 1 inf22 rfl rfl rfl rfl rfl rfl (by simp [putL]) ⟨Sub.pick [] rfl, ?_⟩⟩, trivial⟩
      refine RO.fork [7] (by kernel_rfl) rfl ⟨⟨_, rfl, rfl, l_store_box (v := (.slice (some ⟨zB, 0, none⟩) nx.length nx.length)) (vs := [(.slice (some ⟨zB, 0, none⟩) nx.length nx.length)]) 2 inf22 rfl rfl rfl rfl rfl rfl (by simp [putL]) ⟨Sub.pick [] rfl, ?_⟩⟩, trivial⟩
      exact RO.fin (by kernel_rfl) ⟨zA, zB, zC, zD, rfl, ⟨rfl, rfl, rfl, rfl, rfl, rfl, rfl, trivial⟩⟩ (Sub.pick [1, 1, 0, 0, 0, 0, 0] rfl)
    · refine RO.fork [1, 3, 5] (by kernel_rfl) rfl ⟨⟨_, rfl, rfl, l_makeSlice (m := nx.length) Try.underlying22 inf3 rfl rfl (by omega) (by omega) (fun zA => ⟨Sub.pick [] rfl, ?_⟩)⟩, ⟨_, rfl, rfl, l_makeSlice (m := nx.length) Try.underlying22 inf3 rfl rfl (by omega) (by omega) (fun zB => ⟨Sub.pick [] rfl, ?_⟩)⟩, ⟨_, rfl, rfl, l_alloc inf22 rfl (fun zD => ⟨Sub.pick [] rfl, ?_⟩)⟩, trivial⟩
      · refine RO.fork [3, 5] (by kernel_rfl) rfl ⟨⟨_, rfl, rfl, l_makeSlice (m := nx.length) Try.underlying22 inf3 rfl rfl (by omega) (by omega) (fun zB => ⟨Sub.pick [] rfl, ?_⟩)⟩, ⟨_, rfl, rfl, l_alloc inf22 rfl (fun zD => ⟨Sub.pick [] rfl, ?_⟩)⟩, trivial⟩
        · refine RO.fork [5] (by kernel_rfl) rfl ⟨⟨_, rfl, rfl, l_alloc inf22 rfl (fun zD => ⟨Sub.pick [] rfl, ?_⟩)⟩, trivial⟩
          refine RO.fork [6] (by kernel_rfl) rfl ⟨⟨_, rfl, rfl, l_store_box (v := (.slice (some ⟨zA, 0, none⟩) nx.length nx.length)) (vs := [(.slice (some ⟨zA, 0, none⟩) nx.length nx.length)]) 3 inf22 rfl rfl rfl rfl rfl rfl (by simp [putL]) ⟨Sub.pick [] rfl, ?_⟩⟩, trivial⟩
          refine RO.fork [7] (by kernel_rfl) rfl ⟨⟨_, rfl, rfl, l_store_box (v := (.slice (some ⟨zB, 0, none⟩) nx.length nx.length)) (vs := [(.slice (some ⟨zB, 0, none⟩) nx.length nx.length)]) 0 inf22 rfl rfl rfl rfl rfl rfl (by simp [putL]) ⟨Sub.pick [] rfl, ?_⟩⟩, trivial⟩
          exact RO.fin (by kernel_rfl) ⟨zA, zB, zC, zD, rfl, ⟨rfl, rfl, rfl, rfl, rfl, rfl, rfl, trivial⟩⟩ (Sub.pick [3, 0, 1, 0, 0, 0, 0] rfl)
        refine RO.fork [3, 6] (by kernel_rfl) rfl ⟨⟨_, rfl, rfl, l_makeSlice (m := nx.length) Try.underlying22 inf3 rfl rfl (by omega) (by omega) (fun zB => ⟨Sub.pick [] rfl, ?_⟩)⟩, ⟨_, rfl, rfl, l_store_box (v := (.slice (some ⟨zA, 0, none⟩) nx.length nx.length)) (vs := [(.slice (some ⟨zA, 0, none⟩) nx.length nx.length)]) 2 inf22 rfl rfl rfl rfl rfl rfl (by simp [putL]) ⟨Sub.pick [] rfl, ?_⟩⟩, trivial⟩
        · refine RO.fork [6] (by kernel_rfl) rfl ⟨⟨_, rfl, rfl, l_store_box (v := (.slice (some ⟨zA, 0, none⟩) nx.length nx.length)) (vs := [(.slice (some ⟨zA, 0, none⟩) nx.length nx.length)]) 3 inf22 rfl rfl rfl rfl rfl rfl (by simp [putL]) ⟨Sub.pick [] rfl, ?_⟩⟩, trivial⟩
          refine RO.fork [7] (by kernel_rfl) rfl ⟨⟨_, rfl, rfl, l_store_box (v := (.slice (some ⟨zB, 0, none⟩) nx.length nx.length)) (vs := [(.slice (some ⟨zB, 0, none⟩) nx.length nx.length)]) 1 inf22 rfl rfl rfl rfl rfl rfl (by simp [putL]) ⟨Sub.pick [] rfl, ?_⟩⟩, trivial⟩
          exact RO.fin (by kernel_rfl) ⟨zA, zB, zC, zD, rfl, ⟨rfl, rfl, rfl, rfl, rfl, rfl, rfl, trivial⟩⟩ (Sub.pick [3, 1, 1, 0, 0, 0, 0] rfl)
        refine RO.fork [3] (by kernel_rfl) rfl ⟨⟨_, rfl, rfl, l_makeSlice (m := nx.length) Try.underlying22 inf3 rfl rfl (by omega) (by omega) (fun zB => ⟨Sub.pick [] rfl, ?_⟩)⟩, trivial⟩
        refine RO.fork [7] (by kernel_rfl) rfl ⟨⟨_, rfl, rfl, l_store_box (v := (.slice (some ⟨zB, 0, none⟩) nx.length nx.length)) (vs := [(.slice (some ⟨zB, 0, none⟩) nx.length nx.length)]) 1 inf22 rfl rfl rfl rfl rfl rfl (by simp [putL]) ⟨Sub.pick [] rfl, ?_⟩⟩, trivial⟩
        exact RO.fin (by kernel_rfl) ⟨zA, zB, zC, zD, rfl, ⟨rfl, rfl, rfl, rfl, rfl, rfl, rfl, trivial⟩⟩ (Sub.pick [3, 1, 1, 0, 0, 0, 0] rfl)
      · refine RO.fork [1, 5] (by kernel_rfl) rfl ⟨⟨_, rfl, rfl, l_makeSlice (m := nx.length) Try.underlying22 inf3 rfl rfl (by omega) (by omega) (fun zA => ⟨Sub.pick [] rfl, ?_⟩)⟩, ⟨_, rfl, rfl, l_alloc inf22 rfl (fun zD => ⟨Sub.pick [] rfl, ?_⟩)⟩, trivial⟩
        · refine RO.fork [5] (by kernel_rfl) rfl ⟨⟨_, rfl, rfl, l_alloc inf22 rfl (fun zD => ⟨Sub.pick [] rfl, ?_⟩)⟩, trivial⟩
          refine RO.fork [6] (by kernel_rfl) rfl ⟨⟨_, rfl, rfl, l_store_box (v := (.slice (some ⟨zA, 0, none⟩) nx.length nx.length)) (vs := [(.slice (some ⟨zA, 0, none⟩) nx.length nx.length)]) 3 inf22 rfl rfl rfl rfl rfl rfl (by simp [putL]) ⟨Sub.pick [] rfl, ?_⟩⟩, trivial⟩
          refine RO.fork [7] (by kernel_rfl) rfl ⟨⟨_, rfl, rfl, l_store_box (v := (.slice (some ⟨zB, 0, none⟩) nx.length nx.length)) (vs := [(.slice (some ⟨zB, 0, none⟩) nx.length nx.length)]) 0 inf22 rfl rfl rfl rfl rfl rfl (by simp [putL]) ⟨Sub.pick [] rfl, ?_⟩⟩, trivial⟩
          exact RO.fin (by kernel_rfl) ⟨zA, zB, zC, zD, rfl, ⟨rfl, rfl, rfl, rfl, rfl, rfl, rfl, trivial⟩⟩ (Sub.pick [3, 0, 0, 0, 0, 0, 0] rfl)
        refine RO.fork [1] (by kernel_rfl) rfl ⟨⟨_, rfl, rfl, l_makeSlice (m := nx.length) Try.underlying22 inf3 rfl rfl (by omega) (by omega) (fun zA => ⟨Sub.pick [] rfl, ?_⟩)⟩, trivial⟩
        refine RO.fork [6] (by kernel_rfl) rfl ⟨⟨_, rfl, rfl, l_store_box (v := (.slice (some ⟨zA, 0, none⟩) nx.length nx.length)) (vs := [(.slice (some ⟨zA, 0, none⟩) nx.length nx.length)]) 3 inf22 rfl rfl rfl rfl rfl rfl (by simp [putL]) ⟨Sub.pick [] rfl, ?_⟩⟩, trivial⟩
        refine RO.fork [7] (by kernel_rfl) rfl ⟨⟨_, rfl, rfl, l_store_box (v := (.slice (some ⟨zB, 0, none⟩) nx.length nx.length)) (vs := [(.slice (some ⟨zB, 0, none⟩) nx.length nx.length)]) 1 inf22 rfl rfl rfl rfl rfl rfl (by simp [putL]) ⟨Sub.pick [] rfl, ?_⟩⟩, trivial⟩
        exact RO.fin (by kernel_rfl) ⟨zA, zB, zC, zD, rfl, ⟨rfl, rfl, rfl, rfl, rfl, rfl, rfl, trivial⟩⟩ (Sub.pick [3, 1, 0, 0, 0, 0, 0] rfl)
      refine RO.fork [1, 3] (by kernel_rfl) rfl ⟨⟨_, rfl, rfl, l_makeSlice (m := nx.length) Try.underlying22 inf3 rfl rfl (by omega) (by omega) (fun zA => ⟨Sub.pick [] rfl, ?_⟩)⟩, ⟨_, rfl, rfl, l_makeSlice (m := nx.length) Try.underlying22 inf3 rfl rfl (by omega) (by omega) (fun zB => ⟨Sub.pick [] rfl, ?_⟩)⟩, trivial⟩
      · refine RO.fork [3, 6] (by kernel_rfl) rfl ⟨⟨_, rfl, rfl, l_makeSlice (m := nx.length) Try.underlying22 inf3 rfl rfl (by omega) (by omega) (fun zB => ⟨Sub.pick [] rfl, ?_⟩)⟩, ⟨_, rfl, rfl, l_store_box (v := (.slice (some ⟨zA, 0, none⟩) nx.length nx.length)) (vs := [(.slice (some ⟨zA, 0, none⟩) nx.length nx.length)]) 2 inf22 rfl rfl rfl rfl rfl rfl (by simp [putL]) ⟨Sub.pick [] rfl, ?_⟩⟩, trivial⟩
        · refine RO.fork [6] (by kernel_rfl) rfl ⟨⟨_, rfl, rfl, l_store_box (v := (.slice (some ⟨zA, 0, none⟩) nx.length nx.length)) (vs := [(.slice (some ⟨zA, 0, none⟩) nx.length nx.length)]) 3 inf22 rfl rfl rfl rfl rfl rfl (by simp [putL]) ⟨Sub.pick [] rfl, ?_⟩⟩, trivial⟩
          refine RO.fork [7] (by kernel_rfl) rfl ⟨⟨_, rfl, rfl, l_store_box (v := (.slice (some ⟨zB, 0, none⟩) nx.length nx.length)) (vs := [(.slice (some ⟨zB, 0, none⟩) nx.length nx.length)]) 2 inf22 rfl rfl rfl rfl rfl rfl (by simp [putL]) ⟨Sub.pick [] rfl, ?_⟩⟩, trivial⟩
          exact RO.fin (by kernel_rfl) ⟨zA, zB, zC, zD, rfl, ⟨rfl, rfl, rfl, rfl, rfl, rfl, rfl, trivial⟩⟩ (Sub.pick [3, 2, 1, 0, 0, 0, 0] rfl)
        refine RO.fork [3] (by kernel_rfl) rfl ⟨⟨_, rfl, rfl, l_makeSlice (m := nx.length) Try.underlying22 inf3 rfl rfl (by omega) (by omega) (fun zB => ⟨Sub.pick [] rfl, ?_⟩)⟩, trivial⟩
        refine RO.fork [7] (by kernel_rfl) rfl ⟨⟨_, rfl, rfl, l_store_box (v := (.slice (some ⟨zB, 0, none⟩) nx.length nx.length)) (vs := [(.slice (some ⟨zB, 0, none⟩) nx.length nx.length)]) 2 inf22 rfl rfl rfl rfl rfl rfl (by simp [putL]) ⟨Sub.pick [] rfl, ?_⟩⟩, trivial⟩
        exact RO.fin (by kernel_rfl) ⟨zA, zB, zC, zD, rfl, ⟨rfl, rfl, rfl, rfl, rfl, rfl, rfl, trivial⟩⟩ (Sub.pick [3, 2, 1, 0, 0, 0, 0] rfl)
      refine RO.fork [1] (by kernel_rfl) rfl ⟨⟨_, rfl, rfl, l_makeSlice (m := nx.length) Try.underlying22 inf3 rfl rfl (by omega) (by omega) (fun zA => ⟨Sub.pick [] rfl, ?_⟩)⟩, trivial⟩
      refine RO.fork [6] (by kernel_rfl) rfl ⟨⟨_, rfl, rfl, l_store_box (v := (.slice (some ⟨zA, 0, none⟩) nx.length nx.length)) (vs := [(.slice (some ⟨zA, 0, none⟩) nx.length nx.length)]) 3 inf22 rfl rfl rfl rfl rfl rfl (by simp [putL]) ⟨Sub.pick [] rfl, ?_⟩⟩, trivial⟩
      refine RO.fork [7] (by kernel_rfl) rfl ⟨⟨_, rfl, rfl, l_store_box (v := (.slice (some ⟨zB, 0, none⟩) nx.length nx.length)) (vs := [(.slice (some ⟨zB, 0, none⟩) nx.length nx.length)]) 2 inf22 rfl rfl rfl rfl rfl rfl (by simp [putL]) ⟨Sub.pick [] rfl, ?_⟩⟩, trivial⟩
      exact RO.fin (by kernel_rfl) ⟨zA, zB, zC, zD, rfl, ⟨rfl, rfl, rfl, rfl, rfl, rfl, rfl, trivial⟩⟩ (Sub.pick [3, 2, 0, 0, 0, 0, 0] rfl)
    refine RO.fork [1, 3, 4] (by kernel_rfl) rfl ⟨⟨_, rfl, rfl, l_makeSlice (m := nx.length) Try.underlying22 inf3 rfl rfl (by omega) (by omega) (fun zA => ⟨Sub.pick [] rfl, ?_⟩)⟩, ⟨_, rfl, rfl, l_makeSlice (m := nx.length) Try.underlying22 inf3 rfl rfl (by omega) (by omega) (fun zB => ⟨Sub.pick [] rfl, ?_⟩)⟩, ⟨_, rfl, rfl, l_alloc inf22 rfl (fun zC => ⟨Sub.pick [] rfl, ?_⟩)⟩, trivial⟩
    · refine RO.fork [3, 4] (by kernel_rfl) rfl ⟨⟨_, rfl, rfl, l_makeSlice (m := nx.length) Try.underlying22 inf3 rfl rfl (by omega) (by omega) (fun zB => ⟨Sub.pick [] rfl, ?_⟩)⟩, ⟨_, rfl, rfl, l_alloc inf22 rfl (fun zC => ⟨Sub.pick [] rfl, ?_⟩)⟩, trivial⟩
      · refine RO.fork [4] (by kernel_rfl) rfl ⟨⟨_, rfl, rfl, l_alloc inf22 rfl (fun zC => ⟨Sub.pick [] rfl, ?_⟩)⟩, trivial⟩
        refine RO.fork [6] (by kernel_rfl) rfl ⟨⟨_, rfl, rfl, l_store_box (v := (.slice (some ⟨zA, 0, none⟩) nx.length nx.length)) (vs := [(.slice (some ⟨zA, 0, none⟩) nx.length nx.length)]) 0 inf22 rfl rfl rfl rfl rfl rfl (by simp [putL]) ⟨Sub.pick [] rfl, ?_⟩⟩, trivial⟩
        refine RO.fork [7] (by kernel_rfl) rfl ⟨⟨_, rfl, rfl, l_store_box (v := (.slice (some ⟨zB, 0, none⟩) nx.length nx.length)) (vs := [(.slice (some ⟨zB, 0, none⟩) nx.length nx.length)]) 3 inf22 rfl rfl rfl rfl rfl rfl (by simp [putL]) ⟨Sub.pick [] rfl, ?_⟩⟩, trivial⟩
        exact RO.fin (by kernel_rfl) ⟨zA, zB, zC, zD, rfl, ⟨rfl, rfl, rfl, rfl, rfl, rfl, rfl, trivial⟩⟩ (Sub.pick [0, 2, 1, 0, 0, 0, 0] rfl)
      refine RO.fork [3, 6] (by kernel_rfl) rfl ⟨⟨_, rfl, rfl, l_makeSlice (m := nx.length) Try.underlying22 inf3 rfl rfl (by omega) (by omega) (fun zB => ⟨Sub.pick [] rfl, ?_⟩)⟩, ⟨_, rfl, rfl, l_store_box (v := (.slice (some ⟨zA, 0, none⟩) nx.length nx.length)) (vs := [(.slice (some ⟨zA, 0, none⟩) nx.length nx.length)]) 0 inf22 rfl rfl rfl rfl rfl rfl (by simp [putL]) ⟨Sub.pick [] rfl, ?_⟩⟩, trivial⟩
      · refine RO.fork [6] (by kernel_rfl) rfl ⟨⟨_, rfl, rfl, l_store_box (v := (.slice (some ⟨zA, 0, none⟩) nx.length nx.length)) (vs := [(.slice (some ⟨zA, 0, none⟩) nx.length nx.length)]) 1 inf22 rfl rfl rfl rfl rfl rfl (by simp [putL]) ⟨Sub.pick [] rfl, ?_⟩⟩, trivial⟩
        refine RO.fork [7] (by kernel_rfl) rfl ⟨⟨_, rfl, rfl, l_store_box (v := (.slice (some ⟨zB, 0, none⟩) nx.length nx.length)) (vs := [(.slice (some ⟨zB, 0, none⟩) nx.length nx.length)]) 3 inf22 rfl rfl rfl rfl rfl rfl (by simp [putL]) ⟨Sub.pick [] rfl, ?_⟩⟩, trivial⟩
        exact RO.fin (by kernel_rfl) ⟨zA, zB, zC, zD, rfl, ⟨rfl, rfl, rfl, rfl, rfl, rfl, rfl, trivial⟩⟩ (Sub.pick [1, 2, 1, 0, 0, 0, 0] rfl)
      refine RO.fork [3] (by kernel_rfl) rfl ⟨⟨_, rfl, rfl, l_makeSlice (m := nx.length) Try.underlying22 inf3 rfl rfl (by omega) (by omega) (fun zB => ⟨Sub.pick [] rfl, ?_⟩)⟩, trivial⟩
      refine RO.fork [7] (by kernel_rfl) rfl ⟨⟨_, rfl, rfl, l_store_box (v := (.slice (some ⟨zB, 0, none⟩) nx.length nx.length)) (vs := [(.slice (some ⟨zB, 0, none⟩) nx.length nx.length)]) 3 inf22 rfl rfl rfl rfl rfl rfl (by simp [putL]) ⟨Sub.pick [] rfl, ?_⟩⟩, trivial⟩
      exact RO.fin (by kernel_rfl) ⟨zA, zB, zC, zD, rfl, ⟨rfl, rfl, rfl, rfl, rfl, rfl, rfl, trivial⟩⟩ (Sub.pick [1, 2, 1, 0, 0, 0, 0] rfl)
    · refine RO.fork [1, 4] (by kernel_rfl) rfl ⟨⟨_, rfl, rfl, l_makeSlice (m := nx.length) Try.underlying22 inf3 rfl rfl (by omega) (by omega) (fun zA => ⟨Sub.pick [] rfl, ?_⟩)⟩, ⟨_, rfl, rfl, l_alloc inf22 rfl (fun zC => ⟨Sub.pick [] rfl, ?_⟩)⟩, trivial⟩
      · refine RO.fork [4] (by kernel_rfl) rfl ⟨⟨_, rfl, rfl, l_alloc inf22 rfl (fun zC => ⟨Sub.pick [] rfl, ?_⟩)⟩, trivial⟩
        refine RO.fork [6] (by kernel_rfl) rfl ⟨⟨_, rfl, rfl, l_store_box (v := (.slice (some ⟨zA, 0, none⟩) nx.length nx.length)) (vs := [(.slice (some ⟨zA, 0, none⟩) nx.length nx.length)]) 0 inf22 rfl rfl rfl rfl rfl rfl (by simp [putL]) ⟨Sub.pick [] rfl, ?_⟩⟩, trivial⟩
        refine RO.fork [7] (by kernel_rfl) rfl ⟨⟨_, rfl, rfl, l_store_box (v := (.slice (some ⟨zB, 0, none⟩) nx.length nx.length)) (vs := [(.slice (some ⟨zB, 0, none⟩) nx.length nx.length)]) 3 inf22 rfl rfl rfl rfl rfl rfl (by simp [putL]) ⟨Sub.pick [] rfl, ?_⟩⟩, trivial⟩
        exact RO.fin (by kernel_rfl) ⟨zA, zB, zC, zD, rfl, ⟨rfl, rfl, rfl, rfl, rfl, rfl, rfl, trivial⟩⟩ (Sub.pick [0, 2, 0, 0, 0, 0, 0] rfl)
      refine RO.fork [1] (by kernel_rfl) rfl ⟨⟨_, rfl, rfl, l_makeSlice (m := nx.length) Try.underlying22 inf3 rfl rfl (by omega) (by omega) (fun zA => ⟨Sub.pick [] rfl, ?_⟩)⟩, trivial⟩
      refine RO.fork [6] (by kernel_rfl) rfl ⟨⟨_, rfl, rfl, l_store_box (v := (.slice (some ⟨zA, 0, none⟩) nx.length nx.length)) (vs := [(.slice (some ⟨zA, 0, none⟩) nx.length nx.length)]) 1 inf22 rfl rfl rfl rfl rfl rfl (by simp [putL]) ⟨Sub.pick [] rfl, ?_⟩⟩, trivial⟩
      refine RO.fork [7] (by kernel_rfl) rfl ⟨⟨_, rfl, rfl, l_store_box (v := (.slice (some ⟨zB, 0, none⟩) nx.length nx.length)) (vs := [(.slice (some ⟨zB, 0, none⟩) nx.length nx.length)]) 3 inf22 rfl rfl rfl rfl rfl rfl (by simp [putL]) ⟨Sub.pick [] rfl, ?_⟩⟩, trivial⟩
      exact RO.fin (by kernel_rfl) ⟨zA, zB, zC, zD, rfl, ⟨rfl, rfl, rfl, rfl, rfl, rfl, rfl, trivial⟩⟩ (Sub.pick [1, 2, 0, 0, 0, 0, 0] rfl)
    refine RO.fork [1, 3] (by kernel_rfl) rfl ⟨⟨_, rfl, rfl, l_makeSlice (m := nx.length) Try.underlying22 inf3 rfl rfl (by omega) (by omega) (fun zA => ⟨Sub.pick [] rfl, ?_⟩)⟩, ⟨_, rfl, rfl, l_makeSlice (m := nx.length) Try.underlying22 inf3 rfl rfl (by omega) (by omega) (fun zB => ⟨Sub.pick [] rfl, ?_⟩)⟩, trivial⟩
    · refine RO.fork [3, 6] (by kernel_rfl) rfl ⟨⟨_, rfl, rfl, l_makeSlice (m := nx.length) Try.underlying22 inf3 rfl rfl (by omega) (by omega) (fun zB => ⟨Sub.pick [] rfl, ?_⟩)⟩, ⟨_, rfl, rfl, l_store_box (v := (.slice (some ⟨zA, 0, none⟩) nx.length nx.length)) (vs := [(.slice (some ⟨zA, 0, none⟩) nx.length nx.length)]) 1 inf22 rfl rfl rfl rfl rfl rfl (by simp [putL]) ⟨Sub.pick [] rfl, ?_⟩⟩, trivial⟩
      · refine RO.fork [6] (by kernel_rfl) rfl ⟨⟨_, rfl, rfl, l_store_box (v := (.slice (some ⟨zA, 0, none⟩) nx.length nx.length)) (vs := [(.slice (some ⟨zA, 0, none⟩) nx.length nx.length)]) 2 inf22 rfl rfl rfl rfl rfl rfl (by simp [putL]) ⟨Sub.pick [] rfl, ?_⟩⟩, trivial⟩
        refine RO.fork [7] (by kernel_rfl) rfl ⟨⟨_, rfl, rfl, l_store_box (v := (.slice (some ⟨zB, 0, none⟩) nx.length nx.length)) (vs := [(.slice (some ⟨zB, 0, none⟩) nx.length nx.length)]) 3 inf22 rfl rfl rfl rfl rfl rfl (by simp [putL]) ⟨Sub.pick [] rfl, ?_⟩⟩, trivial⟩
        exact RO.fin (by kernel_rfl) ⟨zA, zB, zC, zD, rfl, ⟨rfl, rfl, rfl, rfl, rfl, rfl, rfl, trivial⟩⟩ (Sub.pick [2, 2, 1, 0, 0, 0, 0] rfl)
      refine RO.fork [3] (by kernel_rfl) rfl ⟨⟨_, rfl, rfl, l_makeSlice (m := nx.length) Try.underlying22 inf3 rfl rfl (by omega) (by omega) (fun zB => ⟨Sub.pick [] rfl, ?_⟩)⟩, trivial⟩
      refine RO.fork [7] (by kernel_rfl) rfl ⟨⟨_, rfl, rfl, l_store_box (v := (.slice (some ⟨zB, 0, none⟩) nx.length nx.length)) (vs := [(.slice (some ⟨zB, 0, none⟩) nx.length nx.length)]) 3 inf22 rfl rfl rfl rfl rfl rfl (by simp [putL]) ⟨Sub.pick [] rfl, ?_⟩⟩, trivial⟩
      exact RO.fin (by kernel_rfl) ⟨zA, zB, zC, zD, rfl, ⟨rfl, rfl, rfl, rfl, rfl, rfl, rfl, trivial⟩⟩ (Sub.pick [2, 2, 1, 0, 0, 0, 0] rfl)
    refine RO.fork [1] (by kernel_rfl) rfl ⟨⟨_, rfl, rfl, l_makeSlice (m := nx.length) Try.underlying22 inf3 rfl rfl (by omega) (by omega) (fun zA => ⟨Sub.pick [] rfl, ?_⟩)⟩, trivial⟩
    refine RO.fork [6] (by kernel_rfl) rfl ⟨⟨_, rfl, rfl, l_store_box (v := (.slice (some ⟨zA, 0, none⟩) nx.length nx.length)) (vs := [(.slice (some ⟨zA, 0, none⟩) nx.length nx.length)]) 2 inf22 rfl rfl rfl rfl rfl rfl (by simp [putL]) ⟨Sub.pick [] rfl, ?_⟩⟩, trivial⟩
    refine RO.fork [7] (by kernel_rfl) rfl ⟨⟨_, rfl, rfl, l_store_box (v := (.slice (some ⟨zB, 0, none⟩) nx.length nx.length)) (vs := [(.slice (some ⟨zB, 0, none⟩) nx.length nx.length)]) 3 inf22 rfl rfl rfl rfl rfl rfl (by simp [putL]) ⟨Sub.pick [] rfl, ?_⟩⟩, trivial⟩
    exact RO.fin (by kernel_rfl) ⟨zA, zB, zC, zD, rfl, ⟨rfl, rfl, rfl, rfl, rfl, rfl, rfl, trivial⟩⟩ (Sub.pick [2, 2, 0, 0, 0, 0, 0] rfl)
  rintro ρ O ⟨zA, zB, zC, zD, rfl, hH⟩
  obtain ⟨ρ0, rfl⟩ := hH.elim
  clear hH
  refine T.seq (T.region ?_)
  refine TO.quiet (q_move rfl) ?_
  refine TO.loud rfl (l_makeSlice (m := nx.length) Try.underlying22 inf3 rfl rfl (by omega) (by omega) (fun bx4 => ?_))
  refine TO.loud rfl (l_store_box (v := (.slice (some ⟨bx4, 0, none⟩) nx.length nx.length)) (vs := [(.slice (some ⟨bx4, 0, none⟩) nx.length nx.length)]) 6 inf22 rfl rfl rfl rfl rfl rfl (by simp [putL]) ?_)
  refine TO.nil (T.seq (T.seq (T.region ?_)))
  refine TO.quiet (q_load_box 6 Try.underlying22 rfl rfl rfl rfl) (TO.quiet (q_len Try.underlying22 rfl) (TO.quiet (q_move rfl) ?_))
  refine TO.nil (T.block ?_)
  refine T.loop (fun (k : Nat) ρ O => ∃ (cp : List Int), O = [rowI (some ⟨bx4, 0, none⟩) nx.length 3 1 (ints cp), oI zC 22 [(.slice (some ⟨zA, 0, none⟩) nx.length nx.length)], oI zD 22 [(.slice (some ⟨zB, 0, none⟩) nx.length nx.length)], rowI (some ⟨zA, 0, none⟩) nx.length 3 1 (List.replicate nx.length (.int .i64 0)), rowI (some ⟨zB, 0, none⟩) nx.length 3 1 (List.replicate nx.length (.int .i64 0)), oI bx3 3 [(.int .i64 0)], oI bx2 22 [(.slice (some ⟨bx4, 0, none⟩) nx.length nx.length)], oI bx1 79 [(.slice nb nx.length nc), (.slice mb mn mc), .int .u64 full]] ∧ k ≤ nx.length ∧ cp.length = nx.length ∧ cp.take k = List.replicate k (-1) ∧ Heads [(0, (.agg #[(.slice nb nx.length nc), (.slice mb mn mc), .int .u64 full])), (1, (.pointer (some ⟨bx1, 0, none⟩))), (2, (.pointer (some ⟨bx2, 0, none⟩))), (3, (.pointer (some ⟨bx3, 0, none⟩))), (4, .int .i64 (nx.length : Int)), (5, (.pointer (some ⟨zC, 0, none⟩))), (6, (.pointer (some ⟨zD, 0, none⟩))), (22, .int .i64 (nx.length : Int)), (23, .int .i64 (k : Int))] ρ) (fun k => nx.length - k) 0 ?_ ?_
  · exact ⟨List.replicate nx.length 0, by simp [putL], Nat.zero_le _, by simp, by simp, ⟨rfl, rfl, rfl, rfl, rfl, rfl, rfl, rfl, rfl, trivial⟩⟩
  rintro k ρ O ⟨cp, rfl, hk, hcl, hcp, hH⟩
  obtain ⟨ρ0, rfl⟩ := hH.elim
  clear hH
  refine T.seq (T.region ?_)
  refine TO.quiet (q_lss rfl rfl) ?_
  refine TO.nil (T.seq ?_)
  refine T.condP rfl (fun hc => ?_) (fun hc => ?_)
  · have hlt24 : k < nx.length := by omega
    refine T.skip (T.seq (T.block (T.seq (T.region ?_))))
    refine TO.quiet (q_move rfl) (TO.quiet (q_assign rfl) ?_)
    refine TO.nil (T.region ?_)
    refine TO.quiet (q_load_box 6 Try.underlying22 rfl rfl rfl rfl) (TO.quiet (q_move rfl) (TO.quiet (q_ix (i := k) Try.underlying22 inf3 rfl rfl (rowO (List.mem_of_getElem? (i := 0) rfl))) ?_))
    refine TO.loud rfl (l_st (j := k) (v := .int .i64 (-1)) (vs := [(.int .i64 (-1))]) (cs := ints cp) 0 inf3 rfl rfl rfl rfl rfl (by simp) rfl (by first | (simp; omega) | (simp_all; omega)) ?_)
    refine TO.sub (O' := [rowI (some ⟨bx4, 0, none⟩) nx.length 3 1 (ints (cp.set k (-1))), oI zC 22 [(.slice (some ⟨zA, 0, none⟩) nx.length nx.length)], oI zD 22 [(.slice (some ⟨zB, 0, none⟩) nx.length nx.length)], rowI (some ⟨zA, 0, none⟩) nx.length 3 1 (List.replicate nx.length (.int .i64 0)), rowI (some ⟨zB, 0, none⟩) nx.length 3 1 (List.replicate nx.length (.int .i64 0)), oI bx3 3 [(.int .i64 0)], oI bx2 22 [(.slice (some ⟨bx4, 0, none⟩) nx.length nx.length)], oI bx1 79 [(.slice nb nx.length nc), (.slice mb mn mc), .int .u64 full]]) (by rw [show putL (ints cp) k [(.int .i64 (-1))] = ints (cp.set k (-1)) from (by simp [putL])]; exact Sub.of (List.Sublist.refl _)) ?_
    refine TO.nil (T.region ?_)
    refine TO.quiet (q_addN (a := k) (b := 1) rfl rfl (by omega)) (TO.quiet (q_move rfl) ?_)
    refine TO.nil ?_
    exact ⟨k + 1, by omega, cp.set k (-1), rfl, by omega, by simp [hcl], set_take hcp (by omega), ⟨rfl, rfl, rfl, rfl, rfl, rfl, rfl, rfl, rfl, trivial⟩⟩
  have hge24 : ¬ k < nx.length := by omega
  refine T.exit ?_
  refine T.seq (T.region ?_)
  refine TO.loud rfl (l_alloc inf22 rfl (fun bx5 => ?_))
  refine TO.nil (T.seq (T.region ?_))
  refine TO.loud rfl (l_alloc inf3 rfl (fun bx6 => ?_))
  refine TO.loud rfl (l_store_box (v := .int .i64 0) (vs := [(.int .i64 0)]) 0 inf3 rfl rfl rfl rfl rfl rfl (by simp [putL]) ?_)
  refine TO.nil (T.seq (T.region ?_))
  refine TO.loud rfl (l_alloc inf104 rfl (fun bx7 => ?_))
  refine TO.nil (T.seq (T.region ?_))
  refine TO.quiet (q_makeFunc) ?_
  refine TO.loud rfl (l_store_box (v := (.func (.func 107) #[] #[(.pointer (some ⟨bx6, 0, none⟩)), (.pointer (some ⟨zC, 0, none⟩)), (.pointer (some ⟨zD, 0, none⟩)), (.pointer (some ⟨bx5, 0, none⟩)), (.pointer (some ⟨bx1, 0, none⟩)), (.pointer (some ⟨bx7, 0, none⟩)), (.pointer (some ⟨bx2, 0, none⟩)), (.pointer (some ⟨bx3, 0, none⟩))])) (vs := [(.func (.func 107) #[] #[(.pointer (some ⟨bx6, 0, none⟩)), (.pointer (some ⟨zC, 0, none⟩)), (.pointer (some ⟨zD, 0, none⟩)), (.pointer (some ⟨bx5, 0, none⟩)), (.pointer (some ⟨bx1, 0, none⟩)), (.pointer (some ⟨bx7, 0, none⟩)), (.pointer (some ⟨bx2, 0, none⟩)), (.pointer (some ⟨bx3, 0, none⟩))])]) 0 inf104 rfl rfl rfl rfl rfl rfl (by simp [putL]) ?_)
  refine TO.nil (T.seq (T.seq (T.region ?_)))
  refine TO.quiet (q_move rfl) (TO.quiet (q_move rfl) ?_)
  refine TO.nil (T.block ?_)
  have hcpe : cp = List.replicate nx.length (-1) := by rw [List.take_of_length_le (by omega)] at hcp; rw [hcp]; congr 1; omega
  subst hcpe
  refine T.nilRow 3 1 ?_
  refine T.sub (O' := [oI bx6 3 [(.int .i64 0)], oI zC 22 [(.slice (some ⟨zA, 0, none⟩) nx.length nx.length)], oI zD 22 [(.slice (some ⟨zB, 0, none⟩) nx.length nx.length)], oI bx5 22 [(.slice none 0 0)], oI bx1 79 [(.slice nb nx.length nc), (.slice mb mn mc), .int .u64 full], oI bx7 104 [(.func (.func 107) #[] #[(.pointer (some ⟨bx6, 0, none⟩)), (.pointer (some ⟨zC, 0, none⟩)), (.pointer (some ⟨zD, 0, none⟩)), (.pointer (some ⟨bx5, 0, none⟩)), (.pointer (some ⟨bx1, 0, none⟩)), (.pointer (some ⟨bx7, 0, none⟩)), (.pointer (some ⟨bx2, 0, none⟩)), (.pointer (some ⟨bx3, 0, none⟩))])], oI bx2 22 [(.slice (some ⟨bx4, 0, none⟩) nx.length nx.length)], oI bx3 3 [(.int .i64 0)], rowI (some ⟨zA, 0, none⟩) nx.length 3 1 (List.replicate nx.length (.int .i64 0)), rowI (some ⟨zB, 0, none⟩) nx.length 3 1 (List.replicate nx.length (.int .i64 0)), rowI none 0 3 1 [], rowI (some ⟨bx4, 0, none⟩) nx.length 3 1 (ints (List.replicate nx.length (-1)))]) (Sub.pick [2, 4, 4, 2, 7, 1, 5, 4, 2, 2, 0, 0] rfl) ?_
  refine T.loop (fun (k : Nat) ρ O => ∃ (s : TL) (sb : Option Addr) (sc : Nat), O = [oI bx6 3 [(.int .i64 (s.clk : Int))], oI zC 22 [(.slice (some ⟨zA, 0, none⟩) nx.length nx.length)], oI zD 22 [(.slice (some ⟨zB, 0, none⟩) nx.length nx.length)], oI bx5 22 [(.slice sb s.stk.length sc)], oI bx1 79 [(.slice nb nx.length nc), (.slice mb mn mc), .int .u64 full], oI bx7 104 [(.func (.func 107) #[] #[(.pointer (some ⟨bx6, 0, none⟩)), (.pointer (some ⟨zC, 0, none⟩)), (.pointer (some ⟨zD, 0, none⟩)), (.pointer (some ⟨bx5, 0, none⟩)), (.pointer (some ⟨bx1, 0, none⟩)), (.pointer (some ⟨bx7, 0, none⟩)), (.pointer (some ⟨bx2, 0, none⟩)), (.pointer (some ⟨bx3, 0, none⟩))])], oI bx2 22 [(.slice (some ⟨bx4, 0, none⟩) nx.length nx.length)], oI bx3 3 [(.int .i64 (s.cnt : Int))], rowI (some ⟨zA, 0, none⟩) nx.length 3 1 (nats s.idx), rowI (some ⟨zB, 0, none⟩) nx.length 3 1 (nats s.low), rowI sb sc 3 1 (nats s.stk), rowI (some ⟨bx4, 0, none⟩) nx.length 3 1 (ints s.comp)] ∧ k ≤ nx.length ∧ TLok nx.length s ∧ TInv nx.length (adjE nx) [] s.ts ∧ (∀ x, x < k → s.idx.getD x 0 ≠ 0) ∧ Heads [(0, (.agg #[(.slice nb nx.length nc), (.slice mb mn mc), .int .u64 full])), (1, (.pointer (some ⟨bx1, 0, none⟩))), (2, (.pointer (some ⟨bx2, 0, none⟩))), (3, (.pointer (some ⟨bx3, 0, none⟩))), (4, .int .i64 (nx.length : Int)), (5, (.pointer (some ⟨zC, 0, none⟩))), (6, (.pointer (some ⟨zD, 0, none⟩))), (8, (.pointer (some ⟨bx5, 0, none⟩))), (9, (.pointer (some ⟨bx6, 0, none⟩))), (10, (.pointer (some ⟨bx7, 0, none⟩))), (31, .int .i64 (nx.length : Int)), (32, .int .i64 (k : Int))] ρ) (fun k => nx.length - k) 0 ?_ ?_
  · refine ⟨{ idx := List.replicate nx.length 0, low := List.replicate nx.length 0, comp := List.replicate nx.length (-1), stk := [], clk := 0, cnt := 0 }, none, 0, by simp only [List.map_replicate, List.map_nil, List.length_nil]; rfl, Nat.zero_le _, tlok_start _, tinv_start _, fun x hx => absurd hx (by omega), ⟨rfl, rfl, rfl, rfl, rfl, rfl, rfl, rfl, rfl, rfl, rfl, rfl, trivial⟩⟩
  rintro k ρ O ⟨s, sb, sc, rfl, hk, hok, hinv, hvis, hH⟩
  obtain ⟨ρ0, rfl⟩ := hH.elim
  clear hH
  have hli := hok.li
  refine T.seq (T.region ?_)
  refine TO.quiet (q_lss rfl rfl) ?_
  refine TO.nil (T.seq ?_)
  refine T.condP rfl (fun hc => ?_) (fun hc => ?_)
  · have hlt33 : k < nx.length := by omega
    refine T.skip (T.seq (T.block (T.seq (T.region ?_))))
    refine TO.quiet (q_move rfl) (TO.quiet (q_assign rfl) ?_)
    refine TO.nil (T.seq (T.region ?_))
    refine TO.quiet (q_load_box 1 Try.underlying22 rfl rfl rfl rfl) (TO.quiet (q_move rfl) (TO.quiet (q_ix (i := k) Try.underlying22 inf3 rfl rfl (rowO (List.mem_of_getElem? (i := 8) rfl))) (TO.quiet (q_ld Try.underlying3 rfl rfl (rowO (List.mem_of_getElem? (i := 8) rfl)) nats_get) ?_)))
    refine TO.quiet (q_eql rfl rfl) ?_
    refine TO.nil ?_
    refine T.condP rfl (fun hc => ?_) (fun hc => ?_)
    · have hlt39 : s.idx[k] = 0 := by omega
      refine T.region ?_
      refine TO.quiet (q_load_box 5 Try.underlying104 rfl rfl rfl rfl) (TO.quiet (q_move rfl) ?_)
      have hk42 := CallV.of_fn (first := []) (args := [.int .i64 (k : Int)]) (caps := [(.pointer (some ⟨bx6, 0, none⟩)), (.pointer (some ⟨zC, 0, none⟩)), (.pointer (some ⟨zD, 0, none⟩)), (.pointer (some ⟨bx5, 0, none⟩)), (.pointer (some ⟨bx1, 0, none⟩)), (.pointer (some ⟨bx7, 0, none⟩)), (.pointer (some ⟨bx2, 0, none⟩)), (.pointer (some ⟨bx3, 0, none⟩))]) ent107 (visitF base nb mb nc mn mc full vs nx hS hR hn hrl hval bx6 zC zD bx5 bx1 bx7 bx2 bx3 (some ⟨zA, 0, none⟩) (some ⟨zB, 0, none⟩) (some ⟨bx4, 0, none⟩) nx.length nx.length nx.length _ s sb sc [] k rfl hok hinv hlt33 (by omega) (fun g hg => (List.not_mem_nil hg).elim))
      refine TO.loud rfl (l_callG hk42 rfl rfl ?_)
      clear hk42
      rintro vr O' ⟨s2, sb2, sc2, t2, rfl, hd⟩
      refine TO.nil (T.region ?_)
      refine TO.quiet (q_addN (a := k) (b := 1) rfl rfl (by omega)) (TO.quiet (q_move rfl) ?_)
      refine TO.nil ?_
      exact ⟨k + 1, by omega, s2, sb2, sc2, rfl, by omega, hd.ok, hd.inv, vis_step hd.ext hvis hd.post.1, ⟨rfl, rfl, rfl, rfl, rfl, rfl, rfl, rfl, rfl, rfl, rfl, rfl, trivial⟩⟩
    have hge39 : ¬ s.idx[k] = 0 := by omega
    refine T.skip (T.region ?_)
    refine TO.quiet (q_addN (a := k) (b := 1) rfl rfl (by omega)) (TO.quiet (q_move rfl) ?_)
    refine TO.nil ?_
    exact ⟨k + 1, by omega, s, sb, sc, rfl, by omega, hok, hinv, vis_snoc hvis (by rw [gd (by omega)]; omega), ⟨rfl, rfl, rfl, rfl, rfl, rfl, rfl, rfl, rfl, rfl, rfl, rfl, trivial⟩⟩
  have hge33 : ¬ k < nx.length := by omega
  refine T.exit ?_
  refine T.seq ?_
  refine T.draws _ [(0, 0), (1, 0), (2, 1), (3, 2)] mixed (by kernel_rfl) (Sub.of (List.Sublist.refl _)) (fun _ _ _ h => h) ?_
  refine DO.quiet rfl (q_load_box 6 Try.underlying22 rfl rfl rfl rfl) (DO.quiet rfl (q_load_box 7 Try.underlying3 rfl rfl rfl rfl) ?_)
  refine DO.loud rfl rfl (l_store_box (v := (.slice (some ⟨bx4, 0, none⟩) nx.length nx.length)) (vs := [(.slice (some ⟨bx4, 0, none⟩) nx.length nx.length)]) 6 inf22 rfl rfl rfl rfl rfl rfl (by simp [putL]) ⟨Sub.pick [0, 0, 0, 0, 0, 0, 0, 0, 0, 0, 0, 0] rfl, ?_⟩)
  refine DO.last rfl rfl (l_store_box (v := (.int .i64 (s.cnt : Int))) (vs := [(.int .i64 (s.cnt : Int))]) 7 inf3 rfl rfl rfl rfl rfl rfl (by simp [putL]) ?_)
  refine DO.done ?_
  refine T.ret (Res.drop ?_)
  refine Res.cell2s (i := 6) (j := 7) Try.results74 Try.underlying22 rfl Try.underlying3 rfl rfl rfl rfl rfl ?_
  have hco := hinv.done (fun v hv => hvis v (by omega))
  have e := ints_nats (cp := s.comp) (fun v hv => (hco.pos v (by rw [← hok.lc]; exact hv)).1)
  exact ⟨[rowI (some ⟨bx4, 0, none⟩) nx.length 3 1 (ints s.comp)], (Sub.pick [11] rfl), _, _, s.comp.map Int.toNat, s.cnt, rfl, by rw [e], by simp [hok.lc], comp_nats hok.lc hco hval, by have := hok.ct; omega⟩
end Go.Proofs.Ytnamoapbienooaa


namespace Go.Proofs.Ytnamoapbienooaa
open Go.Lx Go.RowKit
set_option linter.unusedVariables false
set_option linter.unusedSimpArgs false
set_option maxHeartbeats 4000000 in
set_option maxRecDepth 20000 in
theorem liveF (base : World) (nb mb : Option Addr) (nc mc : Nat) (vs : List Value) (nx : List (List Int)) (ms : List Nat) (m : Nat) (hS : Sl base nb vs) (hR : RowsR base vs nx) (hn : nx.length ≤ 1000000) (hrl : ∀ r ∈ nx, r.length ≤ 1000000) (hval : okRows nx) (hM : Sl base mb (uns ms)) (hml : ms.length = nx.length) (hmb : ∀ x ∈ ms, x < 2 ^ m) (hm : m ≤ 8) :
    PureT Try.prog 55 [.agg #[.slice nb nx.length nc, .slice mb ms.length mc, .int .u64 ((2 ^ m - 1 : Nat) : Int)]] base fun v N => ∃ lb lc kb kc ls co, v = .tuple #[.slice lb nx.length lc, .slice kb nx.length kc] ∧ N = [rowI lb lc 4 1 (bools ls), rowI kb kc 4 1 (bools co)] ∧ ls.length = nx.length ∧ co.length = nx.length ∧ ∀ v, v < nx.length → (ls.getD v false = true ↔ Liv nx ms m v) ∧ (co.getD v false = true ↔ Cor nx ms m v) := by
  refine CallT.enter Try.func55 rfl Try.ntmps55 rfl ?_
  refine T.seq (T.region ?_)
  refine TO.loud rfl (l_box (v := (.agg #[(.slice nb nx.length nc), (.slice mb ms.length mc), .int .u64 ((2 ^ m - 1 : Nat) : Int)])) (cs := [(.slice nb nx.length nc), (.slice mb ms.length mc), .int .u64 ((2 ^ m - 1 : Nat) : Int)]) rfl rfl (fun bx1 => ?_))
  refine TO.quiet (q_assign rfl) (TO.quiet (q_assign rfl) ?_)
  refine TO.nil (T.seq (T.region ?_))
  refine TO.quiet (q_load_boxAgg 0 Try.underlying79 rfl inf79 rfl rfl rfl) ?_
  have hk28 := fun (w1 : World) (hI : Inv base [oI bx1 79 [(.slice nb nx.length nc), (.slice mb ms.length mc), .int .u64 ((2 ^ m - 1 : Nat) : Int)]] w1) => componentsF w1 nb mb nc ms.length mc ((2 ^ m - 1 : Nat) : Int) vs nx (hI.sl hS) (hI.rows hR) hn hrl hval
  refine TO.loud rfl (l_call ent74 (CallT.of_pure hk28) rfl ?_)
  clear hk28
  rintro vr O' ⟨N, rfl, cb, cc, cn, cnt, rfl, rfl, hcl, hC, hcnt⟩
  refine TO.quiet (q_move rfl) (TO.quiet (q_extract (vs := _) rfl rfl) (TO.quiet (q_extract (vs := _) rfl rfl) (TO.quiet (q_assign rfl) ?_)))
  refine TO.quiet (q_assign rfl) ?_
  refine TO.nil ?_
  refine T.cut (fun ρ O => ∃ (zA zB : Nat), O = [rowI (some ⟨zA, 0, none⟩) cnt 4 1 (List.replicate cnt (.bool false)), rowI (some ⟨zB, 0, none⟩) cnt 52 1 (List.replicate cnt (.int .u64 0)), rowI cb cc 3 1 (nats cn), oI bx1 79 [(.slice nb nx.length nc), (.slice mb ms.length mc), .int .u64 ((2 ^ m - 1 : Nat) : Int)]] ∧ Heads [(0, (.agg #[(.slice nb nx.length nc), (.slice mb ms.length mc), .int .u64 ((2 ^ m - 1 : Nat) : Int)])), (1, (.pointer (some ⟨bx1, 0, none⟩))), (2, (.slice none 0 0)), (3, (.slice none 0 0)), (4, (.slice cb nx.length cc)), (5, .int .i64 ((cnt : Nat) : Int)), (6, (.slice (some ⟨zA, 0, none⟩) cnt cnt)), (7, (.slice (some ⟨zB, 0, none⟩) cnt cnt))] ρ) ?_ ?_
  · refine T.tree [] 6 mixed rfl (Sub.pick [] rfl) (fun _ _ _ h => h) ?_
    refine RO.quietT 0 rfl (by kernel_rfl) (q_move rfl) ?_
    refine RO.quietT 2 rfl (by kernel_rfl) (q_move rfl) ?_
    refine RO.fork [1, 3] (by kernel_rfl) rfl ⟨⟨_, rfl, rfl, l_makeSlice (m := cnt) Try.underlying39 inf4 rfl rfl (by omega) (by omega) (fun zA => ⟨Sub.pick [] rfl, ?_⟩)⟩, ⟨_, rfl, rfl, l_makeSlice (m := cnt) Try.underlying77 inf52 rfl rfl (by omega) (by omega) (fun zB => ⟨Sub.pick [] rfl, ?_⟩)⟩, trivial⟩
    · refine RO.quietT 4 rfl (by kernel_rfl) (q_assign rfl) ?_
      refine RO.fork [3] (by kernel_rfl) rfl ⟨⟨_, rfl, rfl, l_makeSlice (m := cnt) Try.underlying77 inf52 rfl rfl (by omega) (by omega) (fun zB => ⟨Sub.pick [] rfl, ?_⟩)⟩, trivial⟩
      refine RO.quietT 5 rfl (by kernel_rfl) (q_assign rfl) ?_
      exact RO.fin (by kernel_rfl) ⟨zA, zB, rfl, ⟨rfl, rfl, rfl, rfl, rfl, rfl, rfl, rfl, trivial⟩⟩ (Sub.pick [1, 0, 0, 0] rfl)
    refine RO.fork [1] (by kernel_rfl) rfl ⟨⟨_, rfl, rfl, l_makeSlice (m := cnt) Try.underlying39 inf4 rfl rfl (by omega) (by omega) (fun zA => ⟨Sub.pick [] rfl, ?_⟩)⟩, trivial⟩
    refine RO.quietT 4 rfl (by kernel_rfl) (q_assign rfl) ?_
    refine RO.quietT 5 rfl (by kernel_rfl) (q_assign rfl) ?_
    exact RO.fin (by kernel_rfl) ⟨zA, zB, rfl, ⟨rfl, rfl, rfl, rfl, rfl, rfl, rfl, rfl, trivial⟩⟩ (Sub.pick [0, 0, 0, 0] rfl)
  rintro ρ O ⟨zA, zB, rfl, hH⟩
  obtain ⟨ρ0, rfl⟩ := hH.elim
  clear hH
  refine T.seq (T.seq (T.region ?_))
  refine TO.quiet (q_fieldAddr Try.underlying79 rfl inf24 rfl rfl) (TO.quiet (q_load_box 3 Try.underlying24 rfl rfl rfl rfl) (TO.quiet (q_len Try.underlying24 rfl) (TO.quiet (q_move rfl) ?_)))
  refine TO.nil (T.block ?_)
  refine T.loop (fun (k : Nat) ρ O => ∃ (cy : List Bool) (ha : List Nat), O = [rowI (some ⟨zA, 0, none⟩) cnt 4 1 (bools cy), rowI (some ⟨zB, 0, none⟩) cnt 52 1 (uns ha), rowI cb cc 3 1 (nats cn), oI bx1 79 [(.slice nb nx.length nc), (.slice mb ms.length mc), .int .u64 ((2 ^ m - 1 : Nat) : Int)]] ∧ k ≤ nx.length ∧ CyP nx cn cnt k 0 cy ∧ HaP nx ms cn m cnt k ha ∧ Heads [(0, (.agg #[(.slice nb nx.length nc), (.slice mb ms.length mc), .int .u64 ((2 ^ m - 1 : Nat) : Int)])), (1, (.pointer (some ⟨bx1, 0, none⟩))), (2, (.slice none 0 0)), (3, (.slice none 0 0)), (4, (.slice cb nx.length cc)), (5, .int .i64 ((cnt : Nat) : Int)), (6, (.slice (some ⟨zA, 0, none⟩) cnt cnt)), (7, (.slice (some ⟨zB, 0, none⟩) cnt cnt)), (36, (.slice nb nx.length nc)), (37, .int .i64 (nx.length : Int)), (38, .int .i64 (k : Int))] ρ) (fun k => nx.length - k) 0 ?_ ?_
  · exact ⟨List.replicate cnt false, List.replicate cnt 0, (by first | (simp only [List.map_replicate]; done) | (simp only [List.map_replicate]; rfl)), Nat.zero_le _, CyP.start, HaP.start, ⟨rfl, rfl, rfl, rfl, rfl, rfl, rfl, rfl, rfl, rfl, rfl, trivial⟩⟩
  rintro k ρ O ⟨cy, ha, rfl, hk, hcy, hha, hH⟩
  obtain ⟨ρ0, rfl⟩ := hH.elim
  clear hH
  have hyl := hcy.l; have hhl := hha.l
  refine T.seq (T.region ?_)
  refine TO.quiet (q_lss rfl rfl) ?_
  refine TO.nil (T.seq ?_)
  refine T.condP rfl (fun hc => ?_) (fun hc => ?_)
  · have hlt39 : k < nx.length := by omega
    obtain ⟨rb, rc, g1, s1⟩ := hR.get hlt39
    have hrk := hrl _ (List.getElem_mem hlt39)
    have hfk : fn cn k = cn[k] := fn_get (by omega)
    have hck : cn[k] < cnt := by have := (hC.pos k (by omega)).2; have h2 : ((fn cn k : Nat) : Int) < cnt := this; omega
    have hb1 : ha[cn[k]] < 256 := lt64 (by have := hha.b cn[k]; rwa [gd (by omega)] at this) hm
    have hb2 : ms[k] < 256 := lt64 (hmb _ (List.getElem_mem _)) hm
    refine T.skip (T.seq (T.block (T.seq (T.region ?_))))
    refine TO.quiet (q_move rfl) (TO.quiet (q_ix (i := k) Try.underlying24 inf22 rfl rfl (Sl.o hS) (by first | assumption | omega | (simp; omega) | simp_all) (by rw [hR.1]; exact hlt39)) (TO.quiet (q_ld Try.underlying22 rfl rfl (Sl.o hS) g1) (TO.quiet (q_assign rfl) ?_)))
    refine TO.quiet (q_assign rfl) ?_
    refine TO.nil (T.seq ?_)
    refine T.draws _ [(0, 0), (1, 0), (2, 0), (3, 0), (4, 0), (5, 0), (6, 0), (7, 0), (8, 0), (9, 0), (10, 0), (11, 0), (12, 0), (13, 0), (14, 2)] mixed (by kernel_rfl) (Sub.of (List.Sublist.refl _)) (fun _ _ _ h => h) ?_
    refine DO.quiet rfl (q_move rfl) (DO.quiet rfl (q_move rfl) (DO.quiet rfl (q_move rfl) (DO.quiet rfl (q_ix (i := k) Try.underlying22 inf3 rfl rfl (rowO (List.mem_of_getElem? (i := 2) rfl))) ?_)))
    refine DO.quiet rfl (q_ld Try.underlying3 rfl rfl (rowO (List.mem_of_getElem? (i := 2) rfl)) nats_get) (DO.quiet rfl (q_ix (i := cn[k]) Try.underlying77 inf52 rfl rfl (rowO (List.mem_of_getElem? (i := 1) rfl))) (DO.quiet rfl (q_ld Try.underlying52 rfl rfl (rowO (List.mem_of_getElem? (i := 1) rfl)) uns_get) (DO.quiet rfl (q_fieldAddr Try.underlying79 rfl inf77 rfl rfl) ?_)))
    refine DO.quiet rfl (q_load_box 3 Try.underlying77 rfl rfl rfl rfl) (DO.quiet rfl (q_move rfl) (DO.quiet rfl (q_ix (i := k) Try.underlying77 inf52 rfl rfl (Sl.o hM)) (DO.quiet rfl (q_ld Try.underlying52 rfl rfl (Sl.o hM) uns_get) ?_)))
    refine DO.quiet rfl (q_or (a := ha[cn[k]]) (b := ms[k]) .u64 rfl rfl (by show _ < 18446744073709551616; omega) (by show _ < 18446744073709551616; omega)) (DO.quiet rfl (q_ix (i := cn[k]) Try.underlying77 inf52 rfl rfl (rowO (List.mem_of_getElem? (i := 1) rfl))) ?_)
    refine DO.last rfl rfl (l_st (j := cn[k]) (v := .int .u64 ((ha[cn[k]] ||| ms[k] : Nat) : Int)) (vs := [(.int .u64 ((ha[cn[k]] ||| ms[k] : Nat) : Int))]) (cs := uns ha) 1 inf52 rfl rfl rfl rfl rfl (by simp) rfl (by first | (simp; omega) | (simp_all; omega)) ?_)
    refine DO.sub (O' := [rowI (some ⟨zA, 0, none⟩) cnt 4 1 (bools cy), rowI (some ⟨zB, 0, none⟩) cnt 52 1 (uns (ha.set cn[k] (ha[cn[k]] ||| ms[k]))), rowI cb cc 3 1 (nats cn), oI bx1 79 [(.slice nb nx.length nc), (.slice mb ms.length mc), .int .u64 ((2 ^ m - 1 : Nat) : Int)]]) (by rw [show putL (uns ha) cn[k] [(.int .u64 ((ha[cn[k]] ||| ms[k] : Nat) : Int))] = uns (ha.set cn[k] (ha[cn[k]] ||| ms[k])) from (by simp [putL])]; exact Sub.of (List.Sublist.refl _)) ?_
    refine DO.done ?_
    refine T.seq (T.region ?_)
    refine TO.quiet (q_move rfl) (TO.quiet (q_len Try.underlying22 rfl) (TO.quiet (q_move rfl) ?_))
    refine TO.nil (T.block ?_)
    refine T.loop (fun (j : Nat) ρ O => ∃ (cz : List Bool), O = [rowI (some ⟨zA, 0, none⟩) cnt 4 1 (bools cz), rowI (some ⟨zB, 0, none⟩) cnt 52 1 (uns (ha.set cn[k] (ha[cn[k]] ||| ms[k]))), rowI cb cc 3 1 (nats cn), oI bx1 79 [(.slice nb nx.length nc), (.slice mb ms.length mc), .int .u64 ((2 ^ m - 1 : Nat) : Int)]] ∧ j ≤ nx[k].length ∧ CyP nx cn cnt k j cz ∧ Heads [(0, (.agg #[(.slice nb nx.length nc), (.slice mb ms.length mc), .int .u64 ((2 ^ m - 1 : Nat) : Int)])), (1, (.pointer (some ⟨bx1, 0, none⟩))), (2, (.slice none 0 0)), (3, (.slice none 0 0)), (4, (.slice cb nx.length cc)), (5, .int .i64 ((cnt : Nat) : Int)), (6, (.slice (some ⟨zA, 0, none⟩) cnt cnt)), (7, (.slice (some ⟨zB, 0, none⟩) cnt cnt)), (8, .int .i64 (k : Int)), (9, (.slice rb nx[k].length rc)), (36, (.slice nb nx.length nc)), (37, .int .i64 (nx.length : Int)), (38, .int .i64 (k : Int)), (57, (.slice rb nx[k].length rc)), (58, .int .i64 (nx[k].length : Int)), (59, .int .i64 (j : Int))] ρ) (fun j => nx[k].length - j) 0 ?_ ?_
    · exact ⟨cy, rfl, Nat.zero_le _, hcy, ⟨rfl, rfl, rfl, rfl, rfl, rfl, rfl, rfl, rfl, rfl, rfl, rfl, rfl, rfl, rfl, rfl, trivial⟩⟩
    rintro j ρ O ⟨cz, rfl, hj, hcz, hH⟩
    obtain ⟨ρ0, rfl⟩ := hH.elim
    clear hH
    have hzl := hcz.l
    refine T.seq (T.region ?_)
    refine TO.quiet (q_lss rfl rfl) ?_
    refine TO.nil (T.seq ?_)
    refine T.condP rfl (fun hc => ?_) (fun hc => ?_)
    · have hlt60 : j < nx[k].length := by omega
      obtain ⟨u, hu, hul⟩ : ∃ u : Nat, nx[k][j] = (u : Int) ∧ u < nx.length := by
        have := hval _ (List.getElem_mem hlt39) _ (List.getElem_mem hlt60)
        exact ⟨nx[k][j].toNat, by omega, by omega⟩
      have hfu : fn cn u = cn[u] := fn_get (by omega)
      have hcu : cn[u] < cnt := by have := (hC.pos u hul).2; have h2 : ((fn cn u : Nat) : Int) < cnt := this; omega
      refine T.skip (T.seq (T.block (T.seq (T.region ?_))))
      refine TO.quiet (q_ix (i := j) Try.underlying22 inf3 rfl rfl (Sl.o s1)) (TO.quiet (q_ld Try.underlying3 rfl rfl (Sl.o s1) (show (ints nx[k])[j]? = _ by rw [ints_get hlt60, hu])) (TO.quiet (q_assign rfl) ?_))
      refine TO.nil ?_
      refine T.draws _ [(0, 0), (1, 0), (2, 0), (3, 0), (4, 0), (5, 0), (6, 0), (7, 0), (8, 0), (9, 0), (10, 0), (11, 0), (12, 0), (13, 0), (14, 0), (15, 0), (16, 0), (17, 0), (18, 0), (19, 0), (20, 0), (21, 0), (22, 0), (23, 0), (24, 2)] mixed (by kernel_rfl) (Sub.of (List.Sublist.refl _)) (fun _ _ _ h => h) ?_
      refine DO.quiet rfl (q_move rfl) (DO.quiet rfl (q_move rfl) (DO.quiet rfl (q_move rfl) (DO.quiet rfl (q_ix (i := k) Try.underlying22 inf3 rfl rfl (rowO (List.mem_of_getElem? (i := 2) rfl))) ?_)))
      refine DO.quiet rfl (q_ld Try.underlying3 rfl rfl (rowO (List.mem_of_getElem? (i := 2) rfl)) nats_get) (DO.quiet rfl (q_move rfl) (DO.quiet rfl (q_move rfl) (DO.quiet rfl (q_move rfl) ?_)))
      refine DO.quiet rfl (q_ix (i := k) Try.underlying22 inf3 rfl rfl (rowO (List.mem_of_getElem? (i := 2) rfl))) (DO.quiet rfl (q_ld Try.underlying3 rfl rfl (rowO (List.mem_of_getElem? (i := 2) rfl)) nats_get) (DO.quiet rfl (q_ix (i := cn[k]) Try.underlying39 inf4 rfl rfl (rowO (List.mem_of_getElem? (i := 0) rfl))) (DO.quiet rfl (q_ld Try.underlying4 rfl rfl (rowO (List.mem_of_getElem? (i := 0) rfl)) bools_get) ?_)))
      by_cases hs75 : cz[cn[k]] = true
      · refine DO.quiet rfl (QT.toB (q_move rfl) (hs75)) ?_
        refine DO.passed rfl rfl rfl ?_
        refine DO.passed rfl rfl rfl ?_
        refine DO.passed rfl rfl rfl ?_
        refine DO.passed rfl rfl rfl ?_
        refine DO.passed rfl rfl rfl ?_
        refine DO.passed rfl rfl rfl ?_
        refine DO.passed rfl rfl rfl ?_
        refine DO.passed rfl rfl rfl ?_
        refine DO.passed rfl rfl rfl ?_
        refine DO.quiet rfl (q_pick1 rfl rfl) (DO.quiet rfl (q_ix (i := cn[k]) Try.underlying39 inf4 rfl rfl (rowO (List.mem_of_getElem? (i := 0) rfl))) ?_)
        refine DO.last rfl rfl (l_st (j := cn[k]) (v := .bool true) (vs := [(.bool true)]) (cs := bools cz) 0 inf4 rfl rfl rfl rfl rfl (by simp) rfl (by first | (simp; omega) | (simp_all; omega)) ?_)
        refine DO.sub (O' := [rowI (some ⟨zA, 0, none⟩) cnt 4 1 (bools (cz.set cn[k] true)), rowI (some ⟨zB, 0, none⟩) cnt 52 1 (uns (ha.set cn[k] (ha[cn[k]] ||| ms[k]))), rowI cb cc 3 1 (nats cn), oI bx1 79 [(.slice nb nx.length nc), (.slice mb ms.length mc), .int .u64 ((2 ^ m - 1 : Nat) : Int)]]) (by rw [show putL (bools cz) cn[k] [(.bool true)] = bools (cz.set cn[k] true) from (by simp [putL])]; exact Sub.of (List.Sublist.refl _)) ?_
        refine DO.done ?_
        refine T.region ?_
        refine TO.quiet (q_addN (a := j) (b := 1) rfl rfl (by omega)) (TO.quiet (q_move rfl) ?_)
        refine TO.nil ?_
        exact ⟨j + 1, by omega, cz.set cn[k] true, rfl, by omega, (by have := hcz.step (k := k) (b := true) hlt39 hlt60 hu (by rw [hfk]; exact hck) (by rw [hfk, hfu, gb (by omega)]; first | (simp [hs75]; done) | (simp [hs75]; omega)); rwa [hfk] at this), ⟨rfl, rfl, rfl, rfl, rfl, rfl, rfl, rfl, rfl, rfl, rfl, rfl, rfl, rfl, rfl, rfl, trivial⟩⟩
      refine DO.quiet rfl (QT.toB (q_move rfl) (Bool.eq_false_iff.2 hs75)) ?_
      refine DO.guarded rfl rfl rfl (q_move rfl) ?_
      refine DO.guarded rfl rfl rfl (q_move rfl) ?_
      refine DO.guarded rfl rfl rfl (q_ix (i := u) Try.underlying22 inf3 rfl rfl (rowO (List.mem_of_getElem? (i := 2) rfl))) ?_
      refine DO.guarded rfl rfl rfl (q_ld Try.underlying3 rfl rfl (rowO (List.mem_of_getElem? (i := 2) rfl)) nats_get) ?_
      refine DO.guarded rfl rfl rfl (q_move rfl) ?_
      refine DO.guarded rfl rfl rfl (q_move rfl) ?_
      refine DO.guarded rfl rfl rfl (q_ix (i := k) Try.underlying22 inf3 rfl rfl (rowO (List.mem_of_getElem? (i := 2) rfl))) ?_
      refine DO.guarded rfl rfl rfl (q_ld Try.underlying3 rfl rfl (rowO (List.mem_of_getElem? (i := 2) rfl)) nats_get) ?_
      refine DO.guarded rfl rfl rfl (q_eql rfl rfl) ?_
      refine DO.quiet rfl (q_pick0 rfl rfl) (DO.quiet rfl (q_ix (i := cn[k]) Try.underlying39 inf4 rfl rfl (rowO (List.mem_of_getElem? (i := 0) rfl))) ?_)
      refine DO.last rfl rfl (l_st (j := cn[k]) (v := .bool (decide (((cn[u] : Nat) : Int) = ((cn[k] : Nat) : Int)))) (vs := [(.bool (decide (((cn[u] : Nat) : Int) = ((cn[k] : Nat) : Int))))]) (cs := bools cz) 0 inf4 rfl rfl rfl rfl rfl (by simp) rfl (by first | (simp; omega) | (simp_all; omega)) ?_)
      refine DO.sub (O' := [rowI (some ⟨zA, 0, none⟩) cnt 4 1 (bools (cz.set cn[k] (decide (((cn[u] : Nat) : Int) = ((cn[k] : Nat) : Int))))), rowI (some ⟨zB, 0, none⟩) cnt 52 1 (uns (ha.set cn[k] (ha[cn[k]] ||| ms[k]))), rowI cb cc 3 1 (nats cn), oI bx1 79 [(.slice nb nx.length nc), (.slice mb ms.length mc), .int .u64 ((2 ^ m - 1 : Nat) : Int)]]) (by rw [show putL (bools cz) cn[k] [(.bool (decide (((cn[u] : Nat) : Int) = ((cn[k] : Nat) : Int))))] = bools (cz.set cn[k] (decide (((cn[u] : Nat) : Int) = ((cn[k] : Nat) : Int)))) from (by simp [putL])]; exact Sub.of (List.Sublist.refl _)) ?_
      refine DO.done ?_
      refine T.region ?_
      refine TO.quiet (q_addN (a := j) (b := 1) rfl rfl (by omega)) (TO.quiet (q_move rfl) ?_)
      refine TO.nil ?_
      exact ⟨j + 1, by omega, cz.set cn[k] (decide (((cn[u] : Nat) : Int) = ((cn[k] : Nat) : Int))), rfl, by omega, (by have := hcz.step (k := k) (b := (decide (((cn[u] : Nat) : Int) = ((cn[k] : Nat) : Int)))) hlt39 hlt60 hu (by rw [hfk]; exact hck) (by rw [hfk, hfu, gb (by omega)]; first | (simp [hs75]; done) | (simp [hs75]; omega)); rwa [hfk] at this), ⟨rfl, rfl, rfl, rfl, rfl, rfl, rfl, rfl, rfl, rfl, rfl, rfl, rfl, rfl, rfl, rfl, trivial⟩⟩
    have hge60 : ¬ j < nx[k].length := by omega
    refine T.exit ?_
    refine T.region ?_
    refine TO.quiet (q_addN (a := k) (b := 1) rfl rfl (by omega)) (TO.quiet (q_move rfl) ?_)
    refine TO.nil ?_
    exact ⟨k + 1, by omega, cz, ha.set cn[k] (ha[cn[k]] ||| ms[k]), rfl, by omega, hcz.row hlt39 (by omega) hj, (by have := hha.step (k := k) (a := ha[cn[k]] ||| ms[k]) (by rw [hfk]; exact hck) (by rw [gd (by omega)]; exact hmb _ (List.getElem_mem _)) (by rw [hfk, gd (by omega), gd (by omega)]); rwa [hfk] at this), ⟨rfl, rfl, rfl, rfl, rfl, rfl, rfl, rfl, rfl, rfl, rfl, trivial⟩⟩
  have hge39 : ¬ k < nx.length := by omega
  refine T.exit ?_
  refine T.seq (T.region ?_)
  refine TO.quiet (q_move rfl) ?_
  refine TO.loud rfl (l_makeSlice (m := cnt) Try.underlying39 inf4 rfl rfl (by omega) (by omega) (fun bx2 => ?_))
  refine TO.quiet (q_assign rfl) ?_
  refine TO.nil ?_
  refine T.cut (fun ρ O => ∃ (zL zK : Nat), O = [rowI (some ⟨zL, 0, none⟩) nx.length 4 1 (List.replicate nx.length (.bool false)), rowI (some ⟨zK, 0, none⟩) nx.length 4 1 (List.replicate nx.length (.bool false)), rowI (some ⟨bx2, 0, none⟩) cnt 4 1 (List.replicate cnt (.bool false)), rowI (some ⟨zA, 0, none⟩) cnt 4 1 (bools cy), rowI (some ⟨zB, 0, none⟩) cnt 52 1 (uns ha), rowI cb cc 3 1 (nats cn), oI bx1 79 [(.slice nb nx.length nc), (.slice mb ms.length mc), .int .u64 ((2 ^ m - 1 : Nat) : Int)]] ∧ Heads [(0, (.agg #[(.slice nb nx.length nc), (.slice mb ms.length mc), .int .u64 ((2 ^ m - 1 : Nat) : Int)])), (1, (.pointer (some ⟨bx1, 0, none⟩))), (2, (.slice (some ⟨zL, 0, none⟩) nx.length nx.length)), (3, (.slice (some ⟨zK, 0, none⟩) nx.length nx.length)), (4, (.slice cb nx.length cc)), (5, .int .i64 ((cnt : Nat) : Int)), (6, (.slice (some ⟨zA, 0, none⟩) cnt cnt)), (7, (.slice (some ⟨zB, 0, none⟩) cnt cnt)), (12, (.slice (some ⟨bx2, 0, none⟩) cnt cnt))] ρ) ?_ ?_
  · refine T.tree [oI bx1 79 [(.slice nb nx.length nc), (.slice mb ms.length mc), .int .u64 ((2 ^ m - 1 : Nat) : Int)]] 10 mixed rfl (Sub.pick [4] rfl) (fun _ _ _ h => h) ?_
    refine RO.quietT 0 rfl (by kernel_rfl) (q_fieldAddr Try.underlying79 rfl inf24 rfl rfl) ?_
    refine RO.quietT 1 rfl (by kernel_rfl) (q_load_box 0 Try.underlying24 rfl rfl rfl rfl) ?_
    refine RO.quietT 2 rfl (by kernel_rfl) (q_len Try.underlying24 rfl) ?_
    refine RO.quietT 4 rfl (by kernel_rfl) (q_fieldAddr Try.underlying79 rfl inf24 rfl rfl) ?_
    refine RO.quietT 5 rfl (by kernel_rfl) (q_load_box 0 Try.underlying24 rfl rfl rfl rfl) ?_
    refine RO.quietT 6 rfl (by kernel_rfl) (q_len Try.underlying24 rfl) ?_
    refine RO.fork [3, 7] (by kernel_rfl) rfl ⟨⟨_, rfl, rfl, l_makeSlice (m := nx.length) Try.underlying39 inf4 rfl rfl (by omega) (by omega) (fun zL => ⟨Sub.pick [5] rfl, ?_⟩)⟩, ⟨_, rfl, rfl, l_makeSlice (m := nx.length) Try.underlying39 inf4 rfl rfl (by omega) (by omega) (fun zK => ⟨Sub.pick [5] rfl, ?_⟩)⟩, trivial⟩
    · refine RO.quietT 8 rfl (by kernel_rfl) (q_assign rfl) ?_
      refine RO.fork [7] (by kernel_rfl) rfl ⟨⟨_, rfl, rfl, l_makeSlice (m := nx.length) Try.underlying39 inf4 rfl rfl (by omega) (by omega) (fun zK => ⟨Sub.pick [6] rfl, ?_⟩)⟩, trivial⟩
      refine RO.quietT 9 rfl (by kernel_rfl) (q_assign rfl) ?_
      exact RO.fin (by kernel_rfl) ⟨zL, zK, rfl, ⟨rfl, rfl, rfl, rfl, rfl, rfl, rfl, rfl, rfl, trivial⟩⟩ (Sub.pick [1, 0, 0, 0, 0, 0, 0] rfl)
    refine RO.fork [3] (by kernel_rfl) rfl ⟨⟨_, rfl, rfl, l_makeSlice (m := nx.length) Try.underlying39 inf4 rfl rfl (by omega) (by omega) (fun zL => ⟨Sub.pick [6] rfl, ?_⟩)⟩, trivial⟩
    refine RO.quietT 8 rfl (by kernel_rfl) (q_assign rfl) ?_
    refine RO.quietT 9 rfl (by kernel_rfl) (q_assign rfl) ?_
    exact RO.fin (by kernel_rfl) ⟨zL, zK, rfl, ⟨rfl, rfl, rfl, rfl, rfl, rfl, rfl, rfl, rfl, trivial⟩⟩ (Sub.pick [0, 0, 0, 0, 0, 0, 0] rfl)
  rintro ρ O ⟨zL, zK, rfl, hH⟩
  obtain ⟨ρ0, rfl⟩ := hH.elim
  clear hH
  refine T.seq (T.region ?_)
  refine TO.quiet (q_move rfl) ?_
  refine TO.loud rfl (l_makeSlice (m := cnt) Try.underlying24 inf22 rfl rfl (by omega) (by omega) (fun bx3 => ?_))
  refine TO.quiet (q_assign rfl) ?_
  refine TO.nil (T.seq (T.seq (T.region ?_)))
  refine TO.quiet (q_move rfl) (TO.quiet (q_len Try.underlying22 rfl) (TO.quiet (q_move rfl) ?_))
  refine TO.nil (T.block ?_)
  refine T.nilRows 3 cnt ?_
  refine T.loop (fun (p : Nat) ρ O => ∃ (qs : List Rec), O = ([rowI (some ⟨bx3, 0, none⟩) cnt 22 1 (vals qs), rowI (some ⟨zL, 0, none⟩) nx.length 4 1 (List.replicate nx.length (.bool false)), rowI (some ⟨zK, 0, none⟩) nx.length 4 1 (List.replicate nx.length (.bool false)), rowI (some ⟨bx2, 0, none⟩) cnt 4 1 (List.replicate cnt (.bool false)), rowI (some ⟨zA, 0, none⟩) cnt 4 1 (bools cy), rowI (some ⟨zB, 0, none⟩) cnt 52 1 (uns ha), rowI cb cc 3 1 (nats cn), oI bx1 79 [(.slice nb nx.length nc), (.slice mb ms.length mc), .int .u64 ((2 ^ m - 1 : Nat) : Int)]] ++ (itms 3 qs)) ∧ p ≤ nx.length ∧ OrP nx cn cnt p (nums qs) ∧ Heads [(0, (.agg #[(.slice nb nx.length nc), (.slice mb ms.length mc), .int .u64 ((2 ^ m - 1 : Nat) : Int)])), (1, (.pointer (some ⟨bx1, 0, none⟩))), (2, (.slice (some ⟨zL, 0, none⟩) nx.length nx.length)), (3, (.slice (some ⟨zK, 0, none⟩) nx.length nx.length)), (4, (.slice cb nx.length cc)), (5, .int .i64 ((cnt : Nat) : Int)), (6, (.slice (some ⟨zA, 0, none⟩) cnt cnt)), (7, (.slice (some ⟨zB, 0, none⟩) cnt cnt)), (12, (.slice (some ⟨bx2, 0, none⟩) cnt cnt)), (13, (.slice (some ⟨bx3, 0, none⟩) cnt cnt)), (101, (.slice cb nx.length cc)), (102, .int .i64 (nx.length : Int)), (103, .int .i64 (p : Int))] ρ) (fun p => nx.length - p) 0 ?_ ?_
  · exact ⟨List.replicate cnt nilRec, (by simp only [List.map_replicate]; rfl), Nat.zero_le _, (by rw [show nums (List.replicate cnt nilRec) = List.replicate cnt [] by simp [nums]]; exact OrP.start), ⟨rfl, rfl, rfl, rfl, rfl, rfl, rfl, rfl, rfl, rfl, rfl, rfl, rfl, trivial⟩⟩
  rintro p ρ O ⟨qs, rfl, hp, hor, hH⟩
  obtain ⟨ρ0, rfl⟩ := hH.elim
  clear hH
  have hql := hor.ql
  refine T.seq (T.region ?_)
  refine TO.quiet (q_lss rfl rfl) ?_
  refine TO.nil (T.seq ?_)
  refine T.condP rfl (fun hc => ?_) (fun hc => ?_)
  · have hlt104 : p < nx.length := by omega
    have hfk : fn cn p = cn[p] := fn_get (by omega)
    have hck : cn[p] < cnt := by have := (hC.pos p (by omega)).2; have h2 : ((fn cn p : Nat) : Int) < cnt := this; omega
    have hqk : cn[p] < qs.length := by omega
    have hrq := hor.rl hqk
    refine T.skip (T.seq (T.block (T.seq (T.region ?_))))
    refine TO.quiet (q_move rfl) (TO.quiet (q_ix (i := p) Try.underlying22 inf3 rfl rfl (rowO (List.mem_of_getElem? (i := 6) rfl))) (TO.quiet (q_ld Try.underlying3 rfl rfl (rowO (List.mem_of_getElem? (i := 6) rfl)) nats_get) (TO.quiet (q_assign rfl) ?_)))
    refine TO.quiet (q_assign rfl) ?_
    refine TO.nil ?_
    refine T.sub (sub_out hqk [rowI (some ⟨bx3, 0, none⟩) cnt 22 1 (vals qs), rowI (some ⟨zL, 0, none⟩) nx.length 4 1 (List.replicate nx.length (.bool false)), rowI (some ⟨zK, 0, none⟩) nx.length 4 1 (List.replicate nx.length (.bool false)), rowI (some ⟨bx2, 0, none⟩) cnt 4 1 (List.replicate cnt (.bool false)), rowI (some ⟨zA, 0, none⟩) cnt 4 1 (bools cy), rowI (some ⟨zB, 0, none⟩) cnt 52 1 (uns ha), rowI cb cc 3 1 (nats cn), oI bx1 79 [(.slice nb nx.length nc), (.slice mb ms.length mc), .int .u64 ((2 ^ m - 1 : Nat) : Int)]]) ?_
    refine T.region ?_
    refine TO.quiet (q_move rfl) (TO.quiet (q_move rfl) (TO.quiet (q_move rfl) (TO.quiet (q_move rfl) ?_)))
    refine TO.quiet (q_ix (i := cn[p]) Try.underlying24 inf22 rfl rfl (rowO (List.mem_of_getElem? (i := 1) rfl))) (TO.quiet (q_ld Try.underlying22 rfl rfl (rowO (List.mem_of_getElem? (i := 1) rfl)) (vals_at hqk)) (TO.quiet (q_move rfl) ?_))
    refine TO.loud rfl (l_build1 (v := .int .i64 (p : Int)) Try.underlying22 inf3 rfl rfl rfl (fun bx4 => ?_))
    refine TO.loud rfl (l_append 1 Try.underlying22 Try.underlying22 inf3 rfl rfl rfl rfl (by simp) (by decide) (Src.row (j := 0) rfl (by simp)) (by simp [oneB]) (by omega) (by decide) (by decide) (fun bx5 c6 => ?_))
    refine TO.quiet (q_ix (i := cn[p]) Try.underlying24 inf22 rfl rfl (rowO (List.mem_of_getElem? (i := 2) rfl))) ?_
    refine TO.loud rfl (l_st (j := cn[p]) (v := (.slice bx5 (qs[cn[p]].xs.length + 1) c6)) (vs := [(.slice bx5 (qs[cn[p]].xs.length + 1) c6)]) (cs := vals qs) 2 inf22 rfl rfl rfl rfl rfl (by simp) rfl (by first | (simp; omega) | (simp_all; omega)) ?_)
    refine TO.sub (O' := ([rowI (some ⟨bx4, 0, none⟩) 1 3 1 [.int .i64 (p : Int)], rowI bx5 c6 3 1 ((ints qs[cn[p]].xs) ++ [.int .i64 (p : Int)]), rowI (some ⟨bx3, 0, none⟩) cnt 22 1 (vals (qs.set cn[p] ⟨bx5, c6, qs[cn[p]].xs ++ [(p : Int)]⟩)), rowI (some ⟨zL, 0, none⟩) nx.length 4 1 (List.replicate nx.length (.bool false)), rowI (some ⟨zK, 0, none⟩) nx.length 4 1 (List.replicate nx.length (.bool false)), rowI (some ⟨bx2, 0, none⟩) cnt 4 1 (List.replicate cnt (.bool false)), rowI (some ⟨zA, 0, none⟩) cnt 4 1 (bools cy), rowI (some ⟨zB, 0, none⟩) cnt 52 1 (uns ha), rowI cb cc 3 1 (nats cn), oI bx1 79 [(.slice nb nx.length nc), (.slice mb ms.length mc), .int .u64 ((2 ^ m - 1 : Nat) : Int)]] ++ (itms 3 (qs.eraseIdx cn[p])))) (by rw [show putL (vals qs) cn[p] [(.slice bx5 (qs[cn[p]].xs.length + 1) c6)] = vals (qs.set cn[p] ⟨bx5, c6, qs[cn[p]].xs ++ [(p : Int)]⟩) from (by simp [putL, Rec.val])]; exact Sub.of (List.Sublist.refl _)) ?_
    refine TO.sub (O' := [rowI bx5 c6 3 1 ((ints qs[cn[p]].xs) ++ [.int .i64 (p : Int)]), rowI (some ⟨bx3, 0, none⟩) cnt 22 1 (vals (qs.set cn[p] ⟨bx5, c6, qs[cn[p]].xs ++ [(p : Int)]⟩)), rowI (some ⟨zL, 0, none⟩) nx.length 4 1 (List.replicate nx.length (.bool false)), rowI (some ⟨zK, 0, none⟩) nx.length 4 1 (List.replicate nx.length (.bool false)), rowI (some ⟨bx2, 0, none⟩) cnt 4 1 (List.replicate cnt (.bool false)), rowI (some ⟨zA, 0, none⟩) cnt 4 1 (bools cy), rowI (some ⟨zB, 0, none⟩) cnt 52 1 (uns ha), rowI cb cc 3 1 (nats cn), oI bx1 79 [(.slice nb nx.length nc), (.slice mb ms.length mc), .int .u64 ((2 ^ m - 1 : Nat) : Int)]] ++ (itms 3 (qs.eraseIdx cn[p]))) (Sub.pickR [1, 1, 1, 1, 1, 1, 1, 1, 1] [rowI (some ⟨bx4, 0, none⟩) 1 3 1 [.int .i64 (p : Int)], rowI bx5 c6 3 1 ((ints qs[cn[p]].xs) ++ [.int .i64 (p : Int)]), rowI (some ⟨bx3, 0, none⟩) cnt 22 1 (vals (qs.set cn[p] ⟨bx5, c6, qs[cn[p]].xs ++ [(p : Int)]⟩)), rowI (some ⟨zL, 0, none⟩) nx.length 4 1 (List.replicate nx.length (.bool false)), rowI (some ⟨zK, 0, none⟩) nx.length 4 1 (List.replicate nx.length (.bool false)), rowI (some ⟨bx2, 0, none⟩) cnt 4 1 (List.replicate cnt (.bool false)), rowI (some ⟨zA, 0, none⟩) cnt 4 1 (bools cy), rowI (some ⟨zB, 0, none⟩) cnt 52 1 (uns ha), rowI cb cc 3 1 (nats cn), oI bx1 79 [(.slice nb nx.length nc), (.slice mb ms.length mc), .int .u64 ((2 ^ m - 1 : Nat) : Int)]] (itms 3 (qs.eraseIdx cn[p])) rfl rfl) ?_
    refine TO.sub (O' := [rowI (some ⟨bx3, 0, none⟩) cnt 22 1 (vals (qs.set cn[p] ⟨bx5, c6, qs[cn[p]].xs ++ [(p : Int)]⟩)), rowI (some ⟨zL, 0, none⟩) nx.length 4 1 (List.replicate nx.length (.bool false)), rowI (some ⟨zK, 0, none⟩) nx.length 4 1 (List.replicate nx.length (.bool false)), rowI (some ⟨bx2, 0, none⟩) cnt 4 1 (List.replicate cnt (.bool false)), rowI (some ⟨zA, 0, none⟩) cnt 4 1 (bools cy), rowI (some ⟨zB, 0, none⟩) cnt 52 1 (uns ha), rowI cb cc 3 1 (nats cn), oI bx1 79 [(.slice nb nx.length nc), (.slice mb ms.length mc), .int .u64 ((2 ^ m - 1 : Nat) : Int)]] ++ (itms 3 (qs.set cn[p] ⟨bx5, c6, qs[cn[p]].xs ++ [(p : Int)]⟩))) (sub_in hqk [rowI (some ⟨bx3, 0, none⟩) cnt 22 1 (vals (qs.set cn[p] ⟨bx5, c6, qs[cn[p]].xs ++ [(p : Int)]⟩)), rowI (some ⟨zL, 0, none⟩) nx.length 4 1 (List.replicate nx.length (.bool false)), rowI (some ⟨zK, 0, none⟩) nx.length 4 1 (List.replicate nx.length (.bool false)), rowI (some ⟨bx2, 0, none⟩) cnt 4 1 (List.replicate cnt (.bool false)), rowI (some ⟨zA, 0, none⟩) cnt 4 1 (bools cy), rowI (some ⟨zB, 0, none⟩) cnt 52 1 (uns ha), rowI cb cc 3 1 (nats cn), oI bx1 79 [(.slice nb nx.length nc), (.slice mb ms.length mc), .int .u64 ((2 ^ m - 1 : Nat) : Int)]] ⟨bx5, c6, qs[cn[p]].xs ++ [(p : Int)]⟩ (by simp)) ?_
    refine TO.nil (T.region ?_)
    refine TO.quiet (q_addN (a := p) (b := 1) rfl rfl (by omega)) (TO.quiet (q_move rfl) ?_)
    refine TO.nil ?_
    exact ⟨p + 1, by omega, qs.set cn[p] ⟨bx5, c6, qs[cn[p]].xs ++ [(p : Int)]⟩, rfl, by omega, hor.push (by omega) hck _ _, ⟨rfl, rfl, rfl, rfl, rfl, rfl, rfl, rfl, rfl, rfl, rfl, rfl, rfl, trivial⟩⟩
  have hge104 : ¬ p < nx.length := by omega
  refine T.exit ?_
  refine T.seq (T.seq (T.region ?_))
  refine TO.quiet (q_move rfl) (TO.quiet (q_len Try.underlying24 rfl) (TO.quiet (q_move rfl) ?_))
  refine TO.nil (T.block ?_)
  have hql := hor.ql
  have hor9 : OrP nx cn cnt nx.length (nums qs) := (show p = nx.length by omega) ▸ hor
  have hcy9 : CyP nx cn cnt nx.length 0 cy := (show k = nx.length by omega) ▸ hcy
  have hha9 : HaP nx ms cn m cnt nx.length ha := (show k = nx.length by omega) ▸ hha
  refine T.loop (fun (c : Nat) ρ O => ∃ (gs ls co : List Bool), O = ([rowI (some ⟨bx3, 0, none⟩) cnt 22 1 (vals qs), rowI (some ⟨zL, 0, none⟩) nx.length 4 1 (bools ls), rowI (some ⟨zK, 0, none⟩) nx.length 4 1 (bools co), rowI (some ⟨bx2, 0, none⟩) cnt 4 1 (bools gs), rowI (some ⟨zA, 0, none⟩) cnt 4 1 (bools cy), rowI (some ⟨zB, 0, none⟩) cnt 52 1 (uns ha), rowI cb cc 3 1 (nats cn), oI bx1 79 [(.slice nb nx.length nc), (.slice mb ms.length mc), .int .u64 ((2 ^ m - 1 : Nat) : Int)]] ++ (itms 3 qs)) ∧ c ≤ cnt ∧ LvP nx ms m cn cnt c gs ls co ∧ Heads [(0, (.agg #[(.slice nb nx.length nc), (.slice mb ms.length mc), .int .u64 ((2 ^ m - 1 : Nat) : Int)])), (1, (.pointer (some ⟨bx1, 0, none⟩))), (2, (.slice (some ⟨zL, 0, none⟩) nx.length nx.length)), (3, (.slice (some ⟨zK, 0, none⟩) nx.length nx.length)), (4, (.slice cb nx.length cc)), (5, .int .i64 ((cnt : Nat) : Int)), (6, (.slice (some ⟨zA, 0, none⟩) cnt cnt)), (7, (.slice (some ⟨zB, 0, none⟩) cnt cnt)), (12, (.slice (some ⟨bx2, 0, none⟩) cnt cnt)), (13, (.slice (some ⟨bx3, 0, none⟩) cnt cnt)), (119, (.slice (some ⟨bx3, 0, none⟩) cnt cnt)), (120, .int .i64 (cnt : Int)), (121, .int .i64 (c : Int))] ρ) (fun c => cnt - c) 0 ?_ ?_
  · exact ⟨List.replicate cnt false, List.replicate nx.length false, List.replicate nx.length false, (by first | (simp only [List.map_replicate]; done) | (simp only [List.map_replicate]; rfl)), Nat.zero_le _, LvP.start (by simp) (by simp) (by simp), ⟨rfl, rfl, rfl, rfl, rfl, rfl, rfl, rfl, rfl, rfl, rfl, rfl, rfl, trivial⟩⟩
  rintro c ρ O ⟨gs, ls, co, rfl, hc9, hlv, hH⟩
  obtain ⟨ρ0, rfl⟩ := hH.elim
  clear hH
  have hgl := hlv.lg; have hll := hlv.ll; have hcl2 := hlv.lc
  refine T.seq (T.region ?_)
  refine TO.quiet (q_lss rfl rfl) ?_
  refine TO.nil (T.seq ?_)
  refine T.condP rfl (fun hc => ?_) (fun hc => ?_)
  · have hlt122 : c < cnt := by omega
    have hqc : c < qs.length := by omega
    have hrq := hor9.rl hqc
    refine T.skip (T.seq (T.block (T.seq (T.region ?_))))
    refine TO.quiet (q_move rfl) (TO.quiet (q_ix (i := c) Try.underlying24 inf22 rfl rfl (rowO (List.mem_of_getElem? (i := 0) rfl))) (TO.quiet (q_ld Try.underlying22 rfl rfl (rowO (List.mem_of_getElem? (i := 0) rfl)) (vals_at hqc)) (TO.quiet (q_assign rfl) ?_)))
    refine TO.quiet (q_assign rfl) ?_
    refine TO.nil (T.seq ?_)
    refine T.draws _ [(0, 0), (1, 0), (2, 0), (3, 0), (4, 0), (5, 0), (6, 0), (7, 0), (8, 0), (9, 0), (10, 0), (11, 0), (12, 0), (13, 0), (14, 0), (15, 0), (16, 2)] mixed (by kernel_rfl) (Sub.of (List.Sublist.refl _)) (fun _ _ _ h => h) ?_
    refine DO.quiet rfl (q_move rfl) (DO.quiet rfl (q_move rfl) (DO.quiet rfl (q_move rfl) (DO.quiet rfl (q_move rfl) ?_)))
    refine DO.quiet rfl (q_ix (i := c) Try.underlying39 inf4 rfl rfl (rowO (List.mem_of_getElem? (i := 4) rfl))) (DO.quiet rfl (q_ld Try.underlying4 rfl rfl (rowO (List.mem_of_getElem? (i := 4) rfl)) bools_get) ?_)
    by_cases hs132 : cy[c] = true
    · refine DO.quiet rfl (QT.toB (q_move rfl) (hs132)) ?_
      refine DO.guarded rfl rfl rfl (q_move rfl) ?_
      refine DO.guarded rfl rfl rfl (q_move rfl) ?_
      refine DO.guarded rfl rfl rfl (q_ix (i := c) Try.underlying77 inf52 rfl rfl (rowO (List.mem_of_getElem? (i := 5) rfl))) ?_
      refine DO.guarded rfl rfl rfl (q_ld Try.underlying52 rfl rfl (rowO (List.mem_of_getElem? (i := 5) rfl)) uns_get) ?_
      refine DO.guarded rfl rfl rfl (q_fieldAddr Try.underlying79 rfl inf52 rfl rfl) ?_
      refine DO.guarded rfl rfl rfl (q_load_box 7 Try.underlying52 rfl rfl rfl rfl) ?_
      refine DO.guarded rfl rfl rfl (q_eql rfl rfl) ?_
      refine DO.quiet rfl (q_pick1 rfl rfl) (DO.quiet rfl (q_ix (i := c) Try.underlying39 inf4 rfl rfl (rowO (List.mem_of_getElem? (i := 3) rfl))) ?_)
      refine DO.last rfl rfl (l_st (j := c) (v := .bool (decide (((ha[c] : Nat) : Int) = ((2 ^ m - 1 : Nat) : Int)))) (vs := [(.bool (decide (((ha[c] : Nat) : Int) = ((2 ^ m - 1 : Nat) : Int))))]) (cs := bools gs) 3 inf4 rfl rfl rfl rfl rfl (by simp) rfl (by first | (simp; omega) | (simp_all; omega)) ?_)
      refine DO.sub (O' := ([rowI (some ⟨bx3, 0, none⟩) cnt 22 1 (vals qs), rowI (some ⟨zL, 0, none⟩) nx.length 4 1 (bools ls), rowI (some ⟨zK, 0, none⟩) nx.length 4 1 (bools co), rowI (some ⟨bx2, 0, none⟩) cnt 4 1 (bools (gs.set c ((decide (((ha[c] : Nat) : Int) = ((2 ^ m - 1 : Nat) : Int)))))), rowI (some ⟨zA, 0, none⟩) cnt 4 1 (bools cy), rowI (some ⟨zB, 0, none⟩) cnt 52 1 (uns ha), rowI cb cc 3 1 (nats cn), oI bx1 79 [(.slice nb nx.length nc), (.slice mb ms.length mc), .int .u64 ((2 ^ m - 1 : Nat) : Int)]] ++ (itms 3 qs))) (by rw [show putL (bools gs) c [(.bool (decide (((ha[c] : Nat) : Int) = ((2 ^ m - 1 : Nat) : Int))))] = bools (gs.set c ((decide (((ha[c] : Nat) : Int) = ((2 ^ m - 1 : Nat) : Int))))) from (by simp [putL])]; exact Sub.of (List.Sublist.refl _)) ?_
      refine DO.done ?_
      refine T.seq (T.seq (T.region ?_))
      refine TO.quiet (q_move rfl) (TO.quiet (q_len Try.underlying22 rfl) (TO.quiet (q_move rfl) ?_))
      refine TO.nil (T.block ?_)
      have hbeg : LvC nx ms m cn cnt c qs[c].xs 0 (gs.set c ((decide (((ha[c] : Nat) : Int) = ((2 ^ m - 1 : Nat) : Int))))) ls co := hlv.begin hlt122 (fun v hv e => by
        rw [show Cor nx ms m v = Core (adjE nx) m (mkM nx ms) v from rfl, ← core_iff hC hval hcy9 hha9 hv e, gb (by omega), gd (by omega)]
        simp only [hs132, true_and, decide_eq_true_eq, Int.natCast_inj])
      refine T.loop (fun (j : Nat) ρ O => ∃ (co5 : List Bool), O = ([rowI (some ⟨bx3, 0, none⟩) cnt 22 1 (vals qs), rowI (some ⟨zL, 0, none⟩) nx.length 4 1 (bools ls), rowI (some ⟨zK, 0, none⟩) nx.length 4 1 (bools co5), rowI (some ⟨bx2, 0, none⟩) cnt 4 1 (bools (gs.set c ((decide (((ha[c] : Nat) : Int) = ((2 ^ m - 1 : Nat) : Int)))))), rowI (some ⟨zA, 0, none⟩) cnt 4 1 (bools cy), rowI (some ⟨zB, 0, none⟩) cnt 52 1 (uns ha), rowI cb cc 3 1 (nats cn), oI bx1 79 [(.slice nb nx.length nc), (.slice mb ms.length mc), .int .u64 ((2 ^ m - 1 : Nat) : Int)]] ++ (itms 3 qs)) ∧ j ≤ qs[c].xs.length ∧ LvC nx ms m cn cnt c qs[c].xs j (gs.set c ((decide (((ha[c] : Nat) : Int) = ((2 ^ m - 1 : Nat) : Int))))) ls co5 ∧ Heads [(0, (.agg #[(.slice nb nx.length nc), (.slice mb ms.length mc), .int .u64 ((2 ^ m - 1 : Nat) : Int)])), (1, (.pointer (some ⟨bx1, 0, none⟩))), (2, (.slice (some ⟨zL, 0, none⟩) nx.length nx.length)), (3, (.slice (some ⟨zK, 0, none⟩) nx.length nx.length)), (4, (.slice cb nx.length cc)), (5, .int .i64 ((cnt : Nat) : Int)), (6, (.slice (some ⟨zA, 0, none⟩) cnt cnt)), (7, (.slice (some ⟨zB, 0, none⟩) cnt cnt)), (12, (.slice (some ⟨bx2, 0, none⟩) cnt cnt)), (13, (.slice (some ⟨bx3, 0, none⟩) cnt cnt)), (16, .int .i64 (c : Int)), (17, (.slice qs[c].b qs[c].xs.length qs[c].c)), (119, (.slice (some ⟨bx3, 0, none⟩) cnt cnt)), (120, .int .i64 (cnt : Int)), (121, .int .i64 (c : Int)), (142, (.slice qs[c].b qs[c].xs.length qs[c].c)), (143, .int .i64 (qs[c].xs.length : Int)), (144, .int .i64 (j : Int))] ρ) (fun j => qs[c].xs.length - j) 0 ?_ ?_
      · exact ⟨co, rfl, Nat.zero_le _, hbeg, ⟨rfl, rfl, rfl, rfl, rfl, rfl, rfl, rfl, rfl, rfl, rfl, rfl, rfl, rfl, rfl, rfl, rfl, rfl, trivial⟩⟩
      rintro j ρ O ⟨co5, rfl, hj, hlv5, hH⟩
      obtain ⟨ρ0, rfl⟩ := hH.elim
      clear hH
      have hcl2 := hlv5.lc
      refine T.seq (T.region ?_)
      refine TO.quiet (q_lss rfl rfl) ?_
      refine TO.nil (T.seq ?_)
      refine T.condP rfl (fun hc => ?_) (fun hc => ?_)
      · have hlt145 : j < qs[c].xs.length := by omega
        obtain ⟨x, hx, hxl, hxc⟩ := hor9.at hqc hlt145
        refine T.skip (T.seq (T.block (T.seq (T.region ?_))))
        refine TO.quiet (q_ix (i := j) Try.underlying22 inf3 rfl rfl (rowO (itms_at hqc))) (TO.quiet (q_ld Try.underlying3 rfl rfl (rowO (itms_at hqc)) (show (ints qs[c].xs)[j]? = _ by rw [ints_get hlt145, hx])) (TO.quiet (q_assign rfl) ?_))
        refine TO.nil (T.region ?_)
        refine TO.quiet (q_move rfl) (TO.quiet (q_move rfl) (TO.quiet (q_move rfl) (TO.quiet (q_move rfl) ?_)))
        refine TO.quiet (q_ix (i := c) Try.underlying39 inf4 rfl rfl (rowO (List.mem_of_getElem? (i := 3) rfl))) (TO.quiet (q_ld Try.underlying4 rfl rfl (rowO (List.mem_of_getElem? (i := 3) rfl)) (show (bools (gs.set c ((decide (((ha[c] : Nat) : Int) = ((2 ^ m - 1 : Nat) : Int))))))[c]? = some (.bool ((decide (((ha[c] : Nat) : Int) = ((2 ^ m - 1 : Nat) : Int))))) by rw [List.getElem?_map, List.getElem?_set_self (by omega)]; rfl)) (TO.quiet (q_ix (i := x) Try.underlying39 inf4 rfl rfl (rowO (List.mem_of_getElem? (i := 2) rfl))) ?_))
        refine TO.loud rfl (l_st (j := x) (v := .bool ((decide (((ha[c] : Nat) : Int) = ((2 ^ m - 1 : Nat) : Int))))) (vs := [(.bool ((decide (((ha[c] : Nat) : Int) = ((2 ^ m - 1 : Nat) : Int)))))]) (cs := bools co5) 2 inf4 rfl rfl rfl rfl rfl (by simp) rfl (by first | (simp; omega) | (simp_all; omega)) ?_)
        refine TO.sub (O' := ([rowI (some ⟨bx3, 0, none⟩) cnt 22 1 (vals qs), rowI (some ⟨zL, 0, none⟩) nx.length 4 1 (bools ls), rowI (some ⟨zK, 0, none⟩) nx.length 4 1 (bools (co5.set x ((decide (((ha[c] : Nat) : Int) = ((2 ^ m - 1 : Nat) : Int)))))), rowI (some ⟨bx2, 0, none⟩) cnt 4 1 (bools (gs.set c ((decide (((ha[c] : Nat) : Int) = ((2 ^ m - 1 : Nat) : Int)))))), rowI (some ⟨zA, 0, none⟩) cnt 4 1 (bools cy), rowI (some ⟨zB, 0, none⟩) cnt 52 1 (uns ha), rowI cb cc 3 1 (nats cn), oI bx1 79 [(.slice nb nx.length nc), (.slice mb ms.length mc), .int .u64 ((2 ^ m - 1 : Nat) : Int)]] ++ (itms 3 qs))) (by rw [show putL (bools co5) x [(.bool ((decide (((ha[c] : Nat) : Int) = ((2 ^ m - 1 : Nat) : Int)))))] = bools (co5.set x ((decide (((ha[c] : Nat) : Int) = ((2 ^ m - 1 : Nat) : Int))))) from (by simp [putL])]; exact Sub.of (List.Sublist.refl _)) ?_
        refine TO.nil (T.region ?_)
        refine TO.quiet (q_addN (a := j) (b := 1) rfl rfl (by omega)) (TO.quiet (q_move rfl) ?_)
        refine TO.nil ?_
        exact ⟨j + 1, by omega, co5.set x ((decide (((ha[c] : Nat) : Int) = ((2 ^ m - 1 : Nat) : Int)))), rfl, by omega, hlv5.coreStep hlt145 hx hxl hxc (by rw [getB_set (by omega), if_pos rfl]), ⟨rfl, rfl, rfl, rfl, rfl, rfl, rfl, rfl, rfl, rfl, rfl, rfl, rfl, rfl, rfl, rfl, rfl, rfl, trivial⟩⟩
      have hge145 : ¬ j < qs[c].xs.length := by omega
      refine T.exit ?_
      refine T.seq (T.seq (T.region ?_))
      refine TO.quiet (q_move rfl) (TO.quiet (q_len Try.underlying22 rfl) (TO.quiet (q_move rfl) ?_))
      refine TO.nil (T.block ?_)
      refine T.loop (fun (j : Nat) ρ O => ∃ (gs6 : List Bool), O = ([rowI (some ⟨bx3, 0, none⟩) cnt 22 1 (vals qs), rowI (some ⟨zL, 0, none⟩) nx.length 4 1 (bools ls), rowI (some ⟨zK, 0, none⟩) nx.length 4 1 (bools co5), rowI (some ⟨bx2, 0, none⟩) cnt 4 1 (bools gs6), rowI (some ⟨zA, 0, none⟩) cnt 4 1 (bools cy), rowI (some ⟨zB, 0, none⟩) cnt 52 1 (uns ha), rowI cb cc 3 1 (nats cn), oI bx1 79 [(.slice nb nx.length nc), (.slice mb ms.length mc), .int .u64 ((2 ^ m - 1 : Nat) : Int)]] ++ (itms 3 qs)) ∧ j ≤ qs[c].xs.length ∧ LvD nx ms m cn cnt c qs[c].xs j 0 gs6 ls co5 ∧ Heads [(0, (.agg #[(.slice nb nx.length nc), (.slice mb ms.length mc), .int .u64 ((2 ^ m - 1 : Nat) : Int)])), (1, (.pointer (some ⟨bx1, 0, none⟩))), (2, (.slice (some ⟨zL, 0, none⟩) nx.length nx.length)), (3, (.slice (some ⟨zK, 0, none⟩) nx.length nx.length)), (4, (.slice cb nx.length cc)), (5, .int .i64 ((cnt : Nat) : Int)), (6, (.slice (some ⟨zA, 0, none⟩) cnt cnt)), (7, (.slice (some ⟨zB, 0, none⟩) cnt cnt)), (12, (.slice (some ⟨bx2, 0, none⟩) cnt cnt)), (13, (.slice (some ⟨bx3, 0, none⟩) cnt cnt)), (16, .int .i64 (c : Int)), (17, (.slice qs[c].b qs[c].xs.length qs[c].c)), (119, (.slice (some ⟨bx3, 0, none⟩) cnt cnt)), (120, .int .i64 (cnt : Int)), (121, .int .i64 (c : Int)), (156, (.slice qs[c].b qs[c].xs.length qs[c].c)), (157, .int .i64 (qs[c].xs.length : Int)), (158, .int .i64 (j : Int))] ρ) (fun j => qs[c].xs.length - j) 0 ?_ ?_
      · exact ⟨_, rfl, Nat.zero_le _, hlv5.toD (by omega) (hor9.all hqc), ⟨rfl, rfl, rfl, rfl, rfl, rfl, rfl, rfl, rfl, rfl, rfl, rfl, rfl, rfl, rfl, rfl, rfl, rfl, trivial⟩⟩
      rintro j ρ O ⟨gs6, rfl, hj6, hlv6, hH⟩
      obtain ⟨ρ0, rfl⟩ := hH.elim
      clear hH
      refine T.seq (T.region ?_)
      refine TO.quiet (q_lss rfl rfl) ?_
      refine TO.nil (T.seq ?_)
      refine T.condP rfl (fun hc => ?_) (fun hc => ?_)
      · have hlt159 : j < qs[c].xs.length := by omega
        obtain ⟨x, hx, hxl, hxc⟩ := hor9.at hqc hlt159
        obtain ⟨rb2, rc2, g2, s2⟩ := hR.get hxl
        have hrx := hrl _ (List.getElem_mem hxl)
        refine T.skip (T.seq (T.block (T.seq (T.region ?_))))
        refine TO.quiet (q_ix (i := j) Try.underlying22 inf3 rfl rfl (rowO (itms_at hqc))) (TO.quiet (q_ld Try.underlying3 rfl rfl (rowO (itms_at hqc)) (show (ints qs[c].xs)[j]? = _ by rw [ints_get hlt159, hx])) (TO.quiet (q_assign rfl) ?_))
        refine TO.nil (T.seq (T.region ?_))
        refine TO.quiet (q_fieldAddr Try.underlying79 rfl inf24 rfl rfl) (TO.quiet (q_load_box 7 Try.underlying24 rfl rfl rfl rfl) (TO.quiet (q_move rfl) (TO.quiet (q_ix (i := x) Try.underlying24 inf22 rfl rfl (Sl.o hS) (by first | assumption | omega | (simp; omega) | simp_all) (by rw [hR.1]; exact hxl)) ?_)))
        refine TO.quiet (q_ld Try.underlying22 rfl rfl (Sl.o hS) g2) (TO.quiet (q_len Try.underlying22 rfl) (TO.quiet (q_move rfl) ?_))
        refine TO.nil (T.block ?_)
        refine T.loop (fun (i : Nat) ρ O => ∃ (gs7 : List Bool), O = ([rowI (some ⟨bx3, 0, none⟩) cnt 22 1 (vals qs), rowI (some ⟨zL, 0, none⟩) nx.length 4 1 (bools ls), rowI (some ⟨zK, 0, none⟩) nx.length 4 1 (bools co5), rowI (some ⟨bx2, 0, none⟩) cnt 4 1 (bools gs7), rowI (some ⟨zA, 0, none⟩) cnt 4 1 (bools cy), rowI (some ⟨zB, 0, none⟩) cnt 52 1 (uns ha), rowI cb cc 3 1 (nats cn), oI bx1 79 [(.slice nb nx.length nc), (.slice mb ms.length mc), .int .u64 ((2 ^ m - 1 : Nat) : Int)]] ++ (itms 3 qs)) ∧ i ≤ nx[x].length ∧ LvD nx ms m cn cnt c qs[c].xs j i gs7 ls co5 ∧ Heads [(0, (.agg #[(.slice nb nx.length nc), (.slice mb ms.length mc), .int .u64 ((2 ^ m - 1 : Nat) : Int)])), (1, (.pointer (some ⟨bx1, 0, none⟩))), (2, (.slice (some ⟨zL, 0, none⟩) nx.length nx.length)), (3, (.slice (some ⟨zK, 0, none⟩) nx.length nx.length)), (4, (.slice cb nx.length cc)), (5, .int .i64 ((cnt : Nat) : Int)), (6, (.slice (some ⟨zA, 0, none⟩) cnt cnt)), (7, (.slice (some ⟨zB, 0, none⟩) cnt cnt)), (12, (.slice (some ⟨bx2, 0, none⟩) cnt cnt)), (13, (.slice (some ⟨bx3, 0, none⟩) cnt cnt)), (16, .int .i64 (c : Int)), (17, (.slice qs[c].b qs[c].xs.length qs[c].c)), (21, .int .i64 ((x : Nat) : Int)), (119, (.slice (some ⟨bx3, 0, none⟩) cnt cnt)), (120, .int .i64 (cnt : Int)), (121, .int .i64 (c : Int)), (156, (.slice qs[c].b qs[c].xs.length qs[c].c)), (157, .int .i64 (qs[c].xs.length : Int)), (158, .int .i64 (j : Int)), (166, (.slice rb2 nx[x].length rc2)), (167, .int .i64 (nx[x].length : Int)), (168, .int .i64 (i : Int))] ρ) (fun i => nx[x].length - i) 0 ?_ ?_
        · exact ⟨gs6, rfl, Nat.zero_le _, hlv6, ⟨rfl, rfl, rfl, rfl, rfl, rfl, rfl, rfl, rfl, rfl, rfl, rfl, rfl, rfl, rfl, rfl, rfl, rfl, rfl, rfl, rfl, rfl, trivial⟩⟩
        rintro i ρ O ⟨gs7, rfl, hi, hlv7, hH⟩
        obtain ⟨ρ0, rfl⟩ := hH.elim
        clear hH
        have hgl7 := hlv7.lg
        refine T.seq (T.region ?_)
        refine TO.quiet (q_lss rfl rfl) ?_
        refine TO.nil (T.seq ?_)
        refine T.condP rfl (fun hc => ?_) (fun hc => ?_)
        · have hlt169 : i < nx[x].length := by omega
          obtain ⟨u, hu, hul⟩ : ∃ u : Nat, nx[x][i] = (u : Int) ∧ u < nx.length := by
            have := hval _ (List.getElem_mem hxl) _ (List.getElem_mem hlt169)
            exact ⟨nx[x][i].toNat, by omega, by omega⟩
          have hfu : fn cn u = cn[u] := fn_get (by omega)
          have hcu : cn[u] < cnt := by have := (hC.pos u hul).2; have h2 : ((fn cn u : Nat) : Int) < cnt := this; omega
          refine T.skip (T.seq (T.block (T.seq (T.region ?_))))
          refine TO.quiet (q_ix (i := i) Try.underlying22 inf3 rfl rfl (Sl.o s2)) (TO.quiet (q_ld Try.underlying3 rfl rfl (Sl.o s2) (show (ints nx[x])[i]? = _ by rw [ints_get hlt169, hu])) (TO.quiet (q_assign rfl) ?_))
          refine TO.nil (T.region ?_)
          refine TO.quiet (q_move rfl) (TO.quiet (q_move rfl) (TO.quiet (q_move rfl) (TO.quiet (q_move rfl) ?_)))
          refine TO.quiet (q_ix (i := c) Try.underlying39 inf4 rfl rfl (rowO (List.mem_of_getElem? (i := 3) rfl))) (TO.quiet (q_ld Try.underlying4 rfl rfl (rowO (List.mem_of_getElem? (i := 3) rfl)) bools_get) ?_)
          by_cases hs178 : gs7[c] = true
          · refine TO.quiet (QT.toB (q_move rfl) (hs178)) ?_
            refine TO.passed rfl rfl ?_
            refine TO.passed rfl rfl ?_
            refine TO.passed rfl rfl ?_
            refine TO.passed rfl rfl ?_
            refine TO.passed rfl rfl ?_
            refine TO.passed rfl rfl ?_
            refine TO.passed rfl rfl ?_
            refine TO.quiet (q_pick1 rfl rfl) (TO.quiet (q_ix (i := c) Try.underlying39 inf4 rfl rfl (rowO (List.mem_of_getElem? (i := 3) rfl))) ?_)
            refine TO.loud rfl (l_st (j := c) (v := .bool true) (vs := [(.bool true)]) (cs := bools gs7) 3 inf4 rfl rfl rfl rfl rfl (by simp) rfl (by first | (simp; omega) | (simp_all; omega)) ?_)
            refine TO.sub (O' := ([rowI (some ⟨bx3, 0, none⟩) cnt 22 1 (vals qs), rowI (some ⟨zL, 0, none⟩) nx.length 4 1 (bools ls), rowI (some ⟨zK, 0, none⟩) nx.length 4 1 (bools co5), rowI (some ⟨bx2, 0, none⟩) cnt 4 1 (bools (gs7.set c true)), rowI (some ⟨zA, 0, none⟩) cnt 4 1 (bools cy), rowI (some ⟨zB, 0, none⟩) cnt 52 1 (uns ha), rowI cb cc 3 1 (nats cn), oI bx1 79 [(.slice nb nx.length nc), (.slice mb ms.length mc), .int .u64 ((2 ^ m - 1 : Nat) : Int)]] ++ (itms 3 qs))) (by rw [show putL (bools gs7) c [(.bool true)] = bools (gs7.set c true) from (by simp [putL])]; exact Sub.of (List.Sublist.refl _)) ?_
            refine TO.nil (T.region ?_)
            refine TO.quiet (q_addN (a := i) (b := 1) rfl rfl (by omega)) (TO.quiet (q_move rfl) ?_)
            refine TO.nil ?_
            exact ⟨i + 1, by omega, gs7.set c true, rfl, by omega, hlv7.step hC hval hlt122 hlt159 hx hxl hxc hlt169 hu (by rw [gb (by omega), gb (by rw [hfu]; omega)]; simp only [hfu]; simp [hs178]), ⟨rfl, rfl, rfl, rfl, rfl, rfl, rfl, rfl, rfl, rfl, rfl, rfl, rfl, rfl, rfl, rfl, rfl, rfl, rfl, rfl, rfl, rfl, trivial⟩⟩
          refine TO.quiet (QT.toB (q_move rfl) (Bool.eq_false_iff.2 hs178)) ?_
          refine TO.guarded rfl rfl rfl (LT.of_quiet rfl rfl (q_move rfl) ?_)
          refine TO.guarded rfl rfl rfl (LT.of_quiet rfl rfl (q_move rfl) ?_)
          refine TO.guarded rfl rfl rfl (LT.of_quiet rfl rfl (q_move rfl) ?_)
          refine TO.guarded rfl rfl rfl (LT.of_quiet rfl rfl (q_ix (i := u) Try.underlying22 inf3 rfl rfl (rowO (List.mem_of_getElem? (i := 6) rfl))) ?_)
          refine TO.guarded rfl rfl rfl (LT.of_quiet rfl rfl (q_ld Try.underlying3 rfl rfl (rowO (List.mem_of_getElem? (i := 6) rfl)) nats_get) ?_)
          refine TO.guarded rfl rfl rfl (LT.of_quiet rfl rfl (q_ix (i := cn[u]) Try.underlying39 inf4 rfl rfl (rowO (List.mem_of_getElem? (i := 3) rfl))) ?_)
          refine TO.guarded rfl rfl rfl (LT.of_quiet rfl rfl (q_ld Try.underlying4 rfl rfl (rowO (List.mem_of_getElem? (i := 3) rfl)) bools_get) ?_)
          refine TO.quiet (q_pick0 rfl rfl) (TO.quiet (q_ix (i := c) Try.underlying39 inf4 rfl rfl (rowO (List.mem_of_getElem? (i := 3) rfl))) ?_)
          refine TO.loud rfl (l_st (j := c) (v := .bool gs7[cn[u]]) (vs := [(.bool gs7[cn[u]])]) (cs := bools gs7) 3 inf4 rfl rfl rfl rfl rfl (by simp) rfl (by first | (simp; omega) | (simp_all; omega)) ?_)
          refine TO.sub (O' := ([rowI (some ⟨bx3, 0, none⟩) cnt 22 1 (vals qs), rowI (some ⟨zL, 0, none⟩) nx.length 4 1 (bools ls), rowI (some ⟨zK, 0, none⟩) nx.length 4 1 (bools co5), rowI (some ⟨bx2, 0, none⟩) cnt 4 1 (bools (gs7.set c gs7[cn[u]])), rowI (some ⟨zA, 0, none⟩) cnt 4 1 (bools cy), rowI (some ⟨zB, 0, none⟩) cnt 52 1 (uns ha), rowI cb cc 3 1 (nats cn), oI bx1 79 [(.slice nb nx.length nc), (.slice mb ms.length mc), .int .u64 ((2 ^ m - 1 : Nat) : Int)]] ++ (itms 3 qs))) (by rw [show putL (bools gs7) c [(.bool gs7[cn[u]])] = bools (gs7.set c gs7[cn[u]]) from (by simp [putL])]; exact Sub.of (List.Sublist.refl _)) ?_
          refine TO.nil (T.region ?_)
          refine TO.quiet (q_addN (a := i) (b := 1) rfl rfl (by omega)) (TO.quiet (q_move rfl) ?_)
          refine TO.nil ?_
          exact ⟨i + 1, by omega, gs7.set c gs7[cn[u]], rfl, by omega, hlv7.step hC hval hlt122 hlt159 hx hxl hxc hlt169 hu (by rw [gb (by omega), gb (by rw [hfu]; omega)]; simp only [hfu]; simp [hs178]), ⟨rfl, rfl, rfl, rfl, rfl, rfl, rfl, rfl, rfl, rfl, rfl, rfl, rfl, rfl, rfl, rfl, rfl, rfl, rfl, rfl, rfl, rfl, trivial⟩⟩
        have hge169 : ¬ i < nx[x].length := by omega
        refine T.exit ?_
        refine T.region ?_
        refine TO.quiet (q_addN (a := j) (b := 1) rfl rfl (by omega)) (TO.quiet (q_move rfl) ?_)
        refine TO.nil ?_
        exact ⟨j + 1, by omega, gs7, rfl, by omega, hlv7.next hlt159 hx hxl (by omega), ⟨rfl, rfl, rfl, rfl, rfl, rfl, rfl, rfl, rfl, rfl, rfl, rfl, rfl, rfl, rfl, rfl, rfl, rfl, trivial⟩⟩
      have hge159 : ¬ j < qs[c].xs.length := by omega
      refine T.exit ?_
      refine T.seq (T.region ?_)
      refine TO.quiet (q_move rfl) (TO.quiet (q_len Try.underlying22 rfl) (TO.quiet (q_move rfl) ?_))
      refine TO.nil (T.block ?_)
      refine T.loop (fun (j : Nat) ρ O => ∃ (ls8 : List Bool), O = ([rowI (some ⟨bx3, 0, none⟩) cnt 22 1 (vals qs), rowI (some ⟨zL, 0, none⟩) nx.length 4 1 (bools ls8), rowI (some ⟨zK, 0, none⟩) nx.length 4 1 (bools co5), rowI (some ⟨bx2, 0, none⟩) cnt 4 1 (bools gs6), rowI (some ⟨zA, 0, none⟩) cnt 4 1 (bools cy), rowI (some ⟨zB, 0, none⟩) cnt 52 1 (uns ha), rowI cb cc 3 1 (nats cn), oI bx1 79 [(.slice nb nx.length nc), (.slice mb ms.length mc), .int .u64 ((2 ^ m - 1 : Nat) : Int)]] ++ (itms 3 qs)) ∧ j ≤ qs[c].xs.length ∧ LvE nx ms m cn cnt c qs[c].xs j gs6 ls8 co5 ∧ Heads [(0, (.agg #[(.slice nb nx.length nc), (.slice mb ms.length mc), .int .u64 ((2 ^ m - 1 : Nat) : Int)])), (1, (.pointer (some ⟨bx1, 0, none⟩))), (2, (.slice (some ⟨zL, 0, none⟩) nx.length nx.length)), (3, (.slice (some ⟨zK, 0, none⟩) nx.length nx.length)), (4, (.slice cb nx.length cc)), (5, .int .i64 ((cnt : Nat) : Int)), (6, (.slice (some ⟨zA, 0, none⟩) cnt cnt)), (7, (.slice (some ⟨zB, 0, none⟩) cnt cnt)), (12, (.slice (some ⟨bx2, 0, none⟩) cnt cnt)), (13, (.slice (some ⟨bx3, 0, none⟩) cnt cnt)), (16, .int .i64 (c : Int)), (17, (.slice qs[c].b qs[c].xs.length qs[c].c)), (119, (.slice (some ⟨bx3, 0, none⟩) cnt cnt)), (120, .int .i64 (cnt : Int)), (121, .int .i64 (c : Int)), (190, (.slice qs[c].b qs[c].xs.length qs[c].c)), (191, .int .i64 (qs[c].xs.length : Int)), (192, .int .i64 (j : Int))] ρ) (fun j => qs[c].xs.length - j) 0 ?_ ?_
      · exact ⟨ls, rfl, Nat.zero_le _, hlv6.toE hC hval (by omega) (hor9.all hqc), ⟨rfl, rfl, rfl, rfl, rfl, rfl, rfl, rfl, rfl, rfl, rfl, rfl, rfl, rfl, rfl, rfl, rfl, rfl, trivial⟩⟩
      rintro j ρ O ⟨ls8, rfl, hj8, hlv8, hH⟩
      obtain ⟨ρ0, rfl⟩ := hH.elim
      clear hH
      have hll8 := hlv8.ll; have hgl8 := hlv8.lg
      refine T.seq (T.region ?_)
      refine TO.quiet (q_lss rfl rfl) ?_
      refine TO.nil (T.seq ?_)
      refine T.condP rfl (fun hc => ?_) (fun hc => ?_)
      · have hlt193 : j < qs[c].xs.length := by omega
        obtain ⟨x, hx, hxl, hxc⟩ := hor9.at hqc hlt193
        refine T.skip (T.seq (T.block (T.seq (T.region ?_))))
        refine TO.quiet (q_ix (i := j) Try.underlying22 inf3 rfl rfl (rowO (itms_at hqc))) (TO.quiet (q_ld Try.underlying3 rfl rfl (rowO (itms_at hqc)) (show (ints qs[c].xs)[j]? = _ by rw [ints_get hlt193, hx])) (TO.quiet (q_assign rfl) ?_))
        refine TO.nil (T.region ?_)
        refine TO.quiet (q_move rfl) (TO.quiet (q_move rfl) (TO.quiet (q_move rfl) (TO.quiet (q_move rfl) ?_)))
        refine TO.quiet (q_ix (i := c) Try.underlying39 inf4 rfl rfl (rowO (List.mem_of_getElem? (i := 3) rfl))) (TO.quiet (q_ld Try.underlying4 rfl rfl (rowO (List.mem_of_getElem? (i := 3) rfl)) bools_get) (TO.quiet (q_ix (i := x) Try.underlying39 inf4 rfl rfl (rowO (List.mem_of_getElem? (i := 1) rfl))) ?_))
        refine TO.loud rfl (l_st (j := x) (v := .bool gs6[c]) (vs := [(.bool gs6[c])]) (cs := bools ls8) 1 inf4 rfl rfl rfl rfl rfl (by simp) rfl (by first | (simp; omega) | (simp_all; omega)) ?_)
        refine TO.sub (O' := ([rowI (some ⟨bx3, 0, none⟩) cnt 22 1 (vals qs), rowI (some ⟨zL, 0, none⟩) nx.length 4 1 (bools (ls8.set x gs6[c])), rowI (some ⟨zK, 0, none⟩) nx.length 4 1 (bools co5), rowI (some ⟨bx2, 0, none⟩) cnt 4 1 (bools gs6), rowI (some ⟨zA, 0, none⟩) cnt 4 1 (bools cy), rowI (some ⟨zB, 0, none⟩) cnt 52 1 (uns ha), rowI cb cc 3 1 (nats cn), oI bx1 79 [(.slice nb nx.length nc), (.slice mb ms.length mc), .int .u64 ((2 ^ m - 1 : Nat) : Int)]] ++ (itms 3 qs))) (by rw [show putL (bools ls8) x [(.bool gs6[c])] = bools (ls8.set x gs6[c]) from (by simp [putL])]; exact Sub.of (List.Sublist.refl _)) ?_
        refine TO.nil (T.region ?_)
        refine TO.quiet (q_addN (a := j) (b := 1) rfl rfl (by omega)) (TO.quiet (q_move rfl) ?_)
        refine TO.nil ?_
        exact ⟨j + 1, by omega, ls8.set x gs6[c], rfl, by omega, hlv8.step hlt193 hx hxl hxc (by rw [gb (by omega)]), ⟨rfl, rfl, rfl, rfl, rfl, rfl, rfl, rfl, rfl, rfl, rfl, rfl, rfl, rfl, rfl, rfl, rfl, rfl, trivial⟩⟩
      have hge193 : ¬ j < qs[c].xs.length := by omega
      refine T.exit ?_
      refine T.region ?_
      refine TO.quiet (q_addN (a := c) (b := 1) rfl rfl (by omega)) (TO.quiet (q_move rfl) ?_)
      refine TO.nil ?_
      exact ⟨c + 1, by omega, gs6, ls8, co5, rfl, by omega, hlv8.done (by omega) (hor9.all hqc), ⟨rfl, rfl, rfl, rfl, rfl, rfl, rfl, rfl, rfl, rfl, rfl, rfl, rfl, trivial⟩⟩
    refine DO.quiet rfl (QT.toB (q_move rfl) (Bool.eq_false_iff.2 hs132)) ?_
    refine DO.passed rfl rfl rfl ?_
    refine DO.passed rfl rfl rfl ?_
    refine DO.passed rfl rfl rfl ?_
    refine DO.passed rfl rfl rfl ?_
    refine DO.passed rfl rfl rfl ?_
    refine DO.passed rfl rfl rfl ?_
    refine DO.passed rfl rfl rfl ?_
    refine DO.quiet rfl (q_pick0 rfl rfl) (DO.quiet rfl (q_ix (i := c) Try.underlying39 inf4 rfl rfl (rowO (List.mem_of_getElem? (i := 3) rfl))) ?_)
    refine DO.last rfl rfl (l_st (j := c) (v := .bool false) (vs := [(.bool false)]) (cs := bools gs) 3 inf4 rfl rfl rfl rfl rfl (by simp) rfl (by first | (simp; omega) | (simp_all; omega)) ?_)
    refine DO.sub (O' := ([rowI (some ⟨bx3, 0, none⟩) cnt 22 1 (vals qs), rowI (some ⟨zL, 0, none⟩) nx.length 4 1 (bools ls), rowI (some ⟨zK, 0, none⟩) nx.length 4 1 (bools co), rowI (some ⟨bx2, 0, none⟩) cnt 4 1 (bools (gs.set c (false))), rowI (some ⟨zA, 0, none⟩) cnt 4 1 (bools cy), rowI (some ⟨zB, 0, none⟩) cnt 52 1 (uns ha), rowI cb cc 3 1 (nats cn), oI bx1 79 [(.slice nb nx.length nc), (.slice mb ms.length mc), .int .u64 ((2 ^ m - 1 : Nat) : Int)]] ++ (itms 3 qs))) (by rw [show putL (bools gs) c [(.bool false)] = bools (gs.set c (false)) from (by simp [putL])]; exact Sub.of (List.Sublist.refl _)) ?_
    refine DO.done ?_
    refine T.seq (T.seq (T.region ?_))
    refine TO.quiet (q_move rfl) (TO.quiet (q_len Try.underlying22 rfl) (TO.quiet (q_move rfl) ?_))
    refine TO.nil (T.block ?_)
    have hbeg : LvC nx ms m cn cnt c qs[c].xs 0 (gs.set c (false)) ls co := hlv.begin hlt122 (fun v hv e => by
      rw [show Cor nx ms m v = Core (adjE nx) m (mkM nx ms) v from rfl, ← core_iff hC hval hcy9 hha9 hv e, gb (by omega), gd (by omega)]
      simp [hs132])
    refine T.loop (fun (j : Nat) ρ O => ∃ (co5 : List Bool), O = ([rowI (some ⟨bx3, 0, none⟩) cnt 22 1 (vals qs), rowI (some ⟨zL, 0, none⟩) nx.length 4 1 (bools ls), rowI (some ⟨zK, 0, none⟩) nx.length 4 1 (bools co5), rowI (some ⟨bx2, 0, none⟩) cnt 4 1 (bools (gs.set c (false))), rowI (some ⟨zA, 0, none⟩) cnt 4 1 (bools cy), rowI (some ⟨zB, 0, none⟩) cnt 52 1 (uns ha), rowI cb cc 3 1 (nats cn), oI bx1 79 [(.slice nb nx.length nc), (.slice mb ms.length mc), .int .u64 ((2 ^ m - 1 : Nat) : Int)]] ++ (itms 3 qs)) ∧ j ≤ qs[c].xs.length ∧ LvC nx ms m cn cnt c qs[c].xs j (gs.set c (false)) ls co5 ∧ Heads [(0, (.agg #[(.slice nb nx.length nc), (.slice mb ms.length mc), .int .u64 ((2 ^ m - 1 : Nat) : Int)])), (1, (.pointer (some ⟨bx1, 0, none⟩))), (2, (.slice (some ⟨zL, 0, none⟩) nx.length nx.length)), (3, (.slice (some ⟨zK, 0, none⟩) nx.length nx.length)), (4, (.slice cb nx.length cc)), (5, .int .i64 ((cnt : Nat) : Int)), (6, (.slice (some ⟨zA, 0, none⟩) cnt cnt)), (7, (.slice (some ⟨zB, 0, none⟩) cnt cnt)), (12, (.slice (some ⟨bx2, 0, none⟩) cnt cnt)), (13, (.slice (some ⟨bx3, 0, none⟩) cnt cnt)), (16, .int .i64 (c : Int)), (17, (.slice qs[c].b qs[c].xs.length qs[c].c)), (119, (.slice (some ⟨bx3, 0, none⟩) cnt cnt)), (120, .int .i64 (cnt : Int)), (121, .int .i64 (c : Int)), (142, (.slice qs[c].b qs[c].xs.length qs[c].c)), (143, .int .i64 (qs[c].xs.length : Int)), (144, .int .i64 (j : Int))] ρ) (fun j => qs[c].xs.length - j) 0 ?_ ?_
    · exact ⟨co, rfl, Nat.zero_le _, hbeg, ⟨rfl, rfl, rfl, rfl, rfl, rfl, rfl, rfl, rfl, rfl, rfl, rfl, rfl, rfl, rfl, rfl, rfl, rfl, trivial⟩⟩
    rintro j ρ O ⟨co5, rfl, hj, hlv5, hH⟩
    obtain ⟨ρ0, rfl⟩ := hH.elim
    clear hH
    have hcl2 := hlv5.lc
    refine T.seq (T.region ?_)
    refine TO.quiet (q_lss rfl rfl) ?_
    refine TO.nil (T.seq ?_)
    refine T.condP rfl (fun hc => ?_) (fun hc => ?_)
    · have hlt145 : j < qs[c].xs.length := by omega
      obtain ⟨x, hx, hxl, hxc⟩ := hor9.at hqc hlt145
      refine T.skip (T.seq (T.block (T.seq (T.region ?_))))
      refine TO.quiet (q_ix (i := j) Try.underlying22 inf3 rfl rfl (rowO (itms_at hqc))) (TO.quiet (q_ld Try.underlying3 rfl rfl (rowO (itms_at hqc)) (show (ints qs[c].xs)[j]? = _ by rw [ints_get hlt145, hx])) (TO.quiet (q_assign rfl) ?_))
      refine TO.nil (T.region ?_)
      refine TO.quiet (q_move rfl) (TO.quiet (q_move rfl) (TO.quiet (q_move rfl) (TO.quiet (q_move rfl) ?_)))
      refine TO.quiet (q_ix (i := c) Try.underlying39 inf4 rfl rfl (rowO (List.mem_of_getElem? (i := 3) rfl))) (TO.quiet (q_ld Try.underlying4 rfl rfl (rowO (List.mem_of_getElem? (i := 3) rfl)) (show (bools (gs.set c (false)))[c]? = some (.bool (false)) by rw [List.getElem?_map, List.getElem?_set_self (by omega)]; rfl)) (TO.quiet (q_ix (i := x) Try.underlying39 inf4 rfl rfl (rowO (List.mem_of_getElem? (i := 2) rfl))) ?_))
      refine TO.loud rfl (l_st (j := x) (v := .bool (false)) (vs := [(.bool (false))]) (cs := bools co5) 2 inf4 rfl rfl rfl rfl rfl (by simp) rfl (by first | (simp; omega) | (simp_all; omega)) ?_)
      refine TO.sub (O' := ([rowI (some ⟨bx3, 0, none⟩) cnt 22 1 (vals qs), rowI (some ⟨zL, 0, none⟩) nx.length 4 1 (bools ls), rowI (some ⟨zK, 0, none⟩) nx.length 4 1 (bools (co5.set x (false))), rowI (some ⟨bx2, 0, none⟩) cnt 4 1 (bools (gs.set c (false))), rowI (some ⟨zA, 0, none⟩) cnt 4 1 (bools cy), rowI (some ⟨zB, 0, none⟩) cnt 52 1 (uns ha), rowI cb cc 3 1 (nats cn), oI bx1 79 [(.slice nb nx.length nc), (.slice mb ms.length mc), .int .u64 ((2 ^ m - 1 : Nat) : Int)]] ++ (itms 3 qs))) (by rw [show putL (bools co5) x [(.bool (false))] = bools (co5.set x (false)) from (by simp [putL])]; exact Sub.of (List.Sublist.refl _)) ?_
      refine TO.nil (T.region ?_)
      refine TO.quiet (q_addN (a := j) (b := 1) rfl rfl (by omega)) (TO.quiet (q_move rfl) ?_)
      refine TO.nil ?_
      exact ⟨j + 1, by omega, co5.set x (false), rfl, by omega, hlv5.coreStep hlt145 hx hxl hxc (by rw [getB_set (by omega), if_pos rfl]), ⟨rfl, rfl, rfl, rfl, rfl, rfl, rfl, rfl, rfl, rfl, rfl, rfl, rfl, rfl, rfl, rfl, rfl, rfl, trivial⟩⟩
    have hge145 : ¬ j < qs[c].xs.length := by omega
    refine T.exit ?_
    refine T.seq (T.seq (T.region ?_))
    refine TO.quiet (q_move rfl) (TO.quiet (q_len Try.underlying22 rfl) (TO.quiet (q_move rfl) ?_))
    refine TO.nil (T.block ?_)
    refine T.loop (fun (j : Nat) ρ O => ∃ (gs6 : List Bool), O = ([rowI (some ⟨bx3, 0, none⟩) cnt 22 1 (vals qs), rowI (some ⟨zL, 0, none⟩) nx.length 4 1 (bools ls), rowI (some ⟨zK, 0, none⟩) nx.length 4 1 (bools co5), rowI (some ⟨bx2, 0, none⟩) cnt 4 1 (bools gs6), rowI (some ⟨zA, 0, none⟩) cnt 4 1 (bools cy), rowI (some ⟨zB, 0, none⟩) cnt 52 1 (uns ha), rowI cb cc 3 1 (nats cn), oI bx1 79 [(.slice nb nx.length nc), (.slice mb ms.length mc), .int .u64 ((2 ^ m - 1 : Nat) : Int)]] ++ (itms 3 qs)) ∧ j ≤ qs[c].xs.length ∧ LvD nx ms m cn cnt c qs[c].xs j 0 gs6 ls co5 ∧ Heads [(0, (.agg #[(.slice nb nx.length nc), (.slice mb ms.length mc), .int .u64 ((2 ^ m - 1 : Nat) : Int)])), (1, (.pointer (some ⟨bx1, 0, none⟩))), (2, (.slice (some ⟨zL, 0, none⟩) nx.length nx.length)), (3, (.slice (some ⟨zK, 0, none⟩) nx.length nx.length)), (4, (.slice cb nx.length cc)), (5, .int .i64 ((cnt : Nat) : Int)), (6, (.slice (some ⟨zA, 0, none⟩) cnt cnt)), (7, (.slice (some ⟨zB, 0, none⟩) cnt cnt)), (12, (.slice (some ⟨bx2, 0, none⟩) cnt cnt)), (13, (.slice (some ⟨bx3, 0, none⟩) cnt cnt)), (16, .int .i64 (c : Int)), (17, (.slice qs[c].b qs[c].xs.length qs[c].c)), (119, (.slice (some ⟨bx3, 0, none⟩) cnt cnt)), (120, .int .i64 (cnt : Int)), (121, .int .i64 (c : Int)), (156, (.slice qs[c].b qs[c].xs.length qs[c].c)), (157, .int .i64 (qs[c].xs.length : Int)), (158, .int .i64 (j : Int))] ρ) (fun j => qs[c].xs.length - j) 0 ?_ ?_
    · exact ⟨_, rfl, Nat.zero_le _, hlv5.toD (by omega) (hor9.all hqc), ⟨rfl, rfl, rfl, rfl, rfl, rfl, rfl, rfl, rfl, rfl, rfl, rfl, rfl, rfl, rfl, rfl, rfl, rfl, trivial⟩⟩
    rintro j ρ O ⟨gs6, rfl, hj6, hlv6, hH⟩
    obtain ⟨ρ0, rfl⟩ := hH.elim
    clear hH
    refine T.seq (T.region ?_)
    refine TO.quiet (q_lss rfl rfl) ?_
    refine TO.nil (T.seq ?_)
    refine T.condP rfl (fun hc => ?_) (fun hc => ?_)
    · have hlt159 : j < qs[c].xs.length := by omega
      obtain ⟨x, hx, hxl, hxc⟩ := hor9.at hqc hlt159
      obtain ⟨rb2, rc2, g2, s2⟩ := hR.get hxl
      have hrx := hrl _ (List.getElem_mem hxl)
      refine T.skip (T.seq (T.block (T.seq (T.region ?_))))
      refine TO.quiet (q_ix (i := j) Try.underlying22 inf3 rfl rfl (rowO (itms_at hqc))) (TO.quiet (q_ld Try.underlying3 rfl rfl (rowO (itms_at hqc)) (show (ints qs[c].xs)[j]? = _ by rw [ints_get hlt159, hx])) (TO.quiet (q_assign rfl) ?_))
      refine TO.nil (T.seq (T.region ?_))
      refine TO.quiet (q_fieldAddr Try.underlying79 rfl inf24 rfl rfl) (TO.quiet (q_load_box 7 Try.underlying24 rfl rfl rfl rfl) (TO.quiet (q_move rfl) (TO.quiet (q_ix (i := x) Try.underlying24 inf22 rfl rfl (Sl.o hS) (by first | assumption | omega | (simp; omega) | simp_all) (by rw [hR.1]; exact hxl)) ?_)))
      refine TO.quiet (q_ld Try.underlying22 rfl rfl (Sl.o hS) g2) (TO.quiet (q_len Try.underlying22 rfl) (TO.quiet (q_move rfl) ?_))
      refine TO.nil (T.block ?_)
      refine T.loop (fun (i : Nat) ρ O => ∃ (gs7 : List Bool), O = ([rowI (some ⟨bx3, 0, none⟩) cnt 22 1 (vals qs), rowI (some ⟨zL, 0, none⟩) nx.length 4 1 (bools ls), rowI (some ⟨zK, 0, none⟩) nx.length 4 1 (bools co5), rowI (some ⟨bx2, 0, none⟩) cnt 4 1 (bools gs7), rowI (some ⟨zA, 0, none⟩) cnt 4 1 (bools cy), rowI (some ⟨zB, 0, none⟩) cnt 52 1 (uns ha), rowI cb cc 3 1 (nats cn), oI bx1 79 [(.slice nb nx.length nc), (.slice mb ms.length mc), .int .u64 ((2 ^ m - 1 : Nat) : Int)]] ++ (itms 3 qs)) ∧ i ≤ nx[x].length ∧ LvD nx ms m cn cnt c qs[c].xs j i gs7 ls co5 ∧ Heads [(0, (.agg #[(.slice nb nx.length nc), (.slice mb ms.length mc), .int .u64 ((2 ^ m - 1 : Nat) : Int)])), (1, (.pointer (some ⟨bx1, 0, none⟩))), (2, (.slice (some ⟨zL, 0, none⟩) nx.length nx.length)), (3, (.slice (some ⟨zK, 0, none⟩) nx.length nx.length)), (4, (.slice cb nx.length cc)), (5, .int .i64 ((cnt : Nat) : Int)), (6, (.slice (some ⟨zA, 0, none⟩) cnt cnt)), (7, (.slice (some ⟨zB, 0, none⟩) cnt cnt)), (12, (.slice (some ⟨bx2, 0, none⟩) cnt cnt)), (13, (.slice (some ⟨bx3, 0, none⟩) cnt cnt)), (16, .int .i64 (c : Int)), (17, (.slice qs[c].b qs[c].xs.length qs[c].c)), (21, .int .i64 ((x : Nat) : Int)), (119, (.slice (some ⟨bx3, 0, none⟩) cnt cnt)), (120, .int .i64 (cnt : Int)), (121, .int .i64 (c : Int)), (156, (.slice qs[c].b qs[c].xs.length qs[c].c)), (157, .int .i64 (qs[c].xs.length : Int)), (158, .int .i64 (j : Int)), (166, (.slice rb2 nx[x].length rc2)), (167, .int .i64 (nx[x].length : Int)), (168, .int .i64 (i : Int))] ρ) (fun i => nx[x].length - i) 0 ?_ ?_
      · exact ⟨gs6, rfl, Nat.zero_le _, hlv6, ⟨rfl, rfl, rfl, rfl, rfl, rfl, rfl, rfl, rfl, rfl, rfl, rfl, rfl, rfl, rfl, rfl, rfl, rfl, rfl, rfl, rfl, rfl, trivial⟩⟩
      rintro i ρ O ⟨gs7, rfl, hi, hlv7, hH⟩
      obtain ⟨ρ0, rfl⟩ := hH.elim
      clear hH
      have hgl7 := hlv7.lg
      refine T.seq (T.region ?_)
      refine TO.quiet (q_lss rfl rfl) ?_
      refine TO.nil (T.seq ?_)
      refine T.condP rfl (fun hc => ?_) (fun hc => ?_)
      · have hlt169 : i < nx[x].length := by omega
        obtain ⟨u, hu, hul⟩ : ∃ u : Nat, nx[x][i] = (u : Int) ∧ u < nx.length := by
          have := hval _ (List.getElem_mem hxl) _ (List.getElem_mem hlt169)
          exact ⟨nx[x][i].toNat, by omega, by omega⟩
        have hfu : fn cn u = cn[u] := fn_get (by omega)
        have hcu : cn[u] < cnt := by have := (hC.pos u hul).2; have h2 : ((fn cn u : Nat) : Int) < cnt := this; omega
        refine T.skip (T.seq (T.block (T.seq (T.region ?_))))
        refine TO.quiet (q_ix (i := i) Try.underlying22 inf3 rfl rfl (Sl.o s2)) (TO.quiet (q_ld Try.underlying3 rfl rfl (Sl.o s2) (show (ints nx[x])[i]? = _ by rw [ints_get hlt169, hu])) (TO.quiet (q_assign rfl) ?_))
        refine TO.nil (T.region ?_)
        refine TO.quiet (q_move rfl) (TO.quiet (q_move rfl) (TO.quiet (q_move rfl) (TO.quiet (q_move rfl) ?_)))
        refine TO.quiet (q_ix (i := c) Try.underlying39 inf4 rfl rfl (rowO (List.mem_of_getElem? (i := 3) rfl))) (TO.quiet (q_ld Try.underlying4 rfl rfl (rowO (List.mem_of_getElem? (i := 3) rfl)) bools_get) ?_)
        by_cases hs178 : gs7[c] = true
        · refine TO.quiet (QT.toB (q_move rfl) (hs178)) ?_
          refine TO.passed rfl rfl ?_
          refine TO.passed rfl rfl ?_
          refine TO.passed rfl rfl ?_
          refine TO.passed rfl rfl ?_
          refine TO.passed rfl rfl ?_
          refine TO.passed rfl rfl ?_
          refine TO.passed rfl rfl ?_
          refine TO.quiet (q_pick1 rfl rfl) (TO.quiet (q_ix (i := c) Try.underlying39 inf4 rfl rfl (rowO (List.mem_of_getElem? (i := 3) rfl))) ?_)
          refine TO.loud rfl (l_st (j := c) (v := .bool true) (vs := [(.bool true)]) (cs := bools gs7) 3 inf4 rfl rfl rfl rfl rfl (by simp) rfl (by first | (simp; omega) | (simp_all; omega)) ?_)
          refine TO.sub (O' := ([rowI (some ⟨bx3, 0, none⟩) cnt 22 1 (vals qs), rowI (some ⟨zL, 0, none⟩) nx.length 4 1 (bools ls), rowI (some ⟨zK, 0, none⟩) nx.length 4 1 (bools co5), rowI (some ⟨bx2, 0, none⟩) cnt 4 1 (bools (gs7.set c true)), rowI (some ⟨zA, 0, none⟩) cnt 4 1 (bools cy), rowI (some ⟨zB, 0, none⟩) cnt 52 1 (uns ha), rowI cb cc 3 1 (nats cn), oI bx1 79 [(.slice nb nx.length nc), (.slice mb ms.length mc), .int .u64 ((2 ^ m - 1 : Nat) : Int)]] ++ (itms 3 qs))) (by rw [show putL (bools gs7) c [(.bool true)] = bools (gs7.set c true) from (by simp [putL])]; exact Sub.of (List.Sublist.refl _)) ?_
          refine TO.nil (T.region ?_)
          refine TO.quiet (q_addN (a := i) (b := 1) rfl rfl (by omega)) (TO.quiet (q_move rfl) ?_)
          refine TO.nil ?_
          exact ⟨i + 1, by omega, gs7.set c true, rfl, by omega, hlv7.step hC hval hlt122 hlt159 hx hxl hxc hlt169 hu (by rw [gb (by omega), gb (by rw [hfu]; omega)]; simp only [hfu]; simp [hs178]), ⟨rfl, rfl, rfl, rfl, rfl, rfl, rfl, rfl, rfl, rfl, rfl, rfl, rfl, rfl, rfl, rfl, rfl, rfl, rfl, rfl, rfl, rfl, trivial⟩⟩
        refine TO.quiet (QT.toB (q_move rfl) (Bool.eq_false_iff.2 hs178)) ?_
        refine TO.guarded rfl rfl rfl (LT.of_quiet rfl rfl (q_move rfl) ?_)
        refine TO.guarded rfl rfl rfl (LT.of_quiet rfl rfl (q_move rfl) ?_)
        refine TO.guarded rfl rfl rfl (LT.of_quiet rfl rfl (q_move rfl) ?_)
        refine TO.guarded rfl rfl rfl (LT.of_quiet rfl rfl (q_ix (i := u) Try.underlying22 inf3 rfl rfl (rowO (List.mem_of_getElem? (i := 6) rfl))) ?_)
        refine TO.guarded rfl rfl rfl (LT.of_quiet rfl rfl (q_ld Try.underlying3 rfl rfl (rowO (List.mem_of_getElem? (i := 6) rfl)) nats_get) ?_)
        refine TO.guarded rfl rfl rfl (LT.of_quiet rfl rfl (q_ix (i := cn[u]) Try.underlying39 inf4 rfl rfl (rowO (List.mem_of_getElem? (i := 3) rfl))) ?_)
        refine TO.guarded rfl rfl rfl (LT.of_quiet rfl rfl (q_ld Try.underlying4 rfl rfl (rowO (List.mem_of_getElem? (i := 3) rfl)) bools_get) ?_)
        refine TO.quiet (q_pick0 rfl rfl) (TO.quiet (q_ix (i := c) Try.underlying39 inf4 rfl rfl (rowO (List.mem_of_getElem? (i := 3) rfl))) ?_)
        refine TO.loud rfl (l_st (j := c) (v := .bool gs7[cn[u]]) (vs := [(.bool gs7[cn[u]])]) (cs := bools gs7) 3 inf4 rfl rfl rfl rfl rfl (by simp) rfl (by first | (simp; omega) | (simp_all; omega)) ?_)
        refine TO.sub (O' := ([rowI (some ⟨bx3, 0, none⟩) cnt 22 1 (vals qs), rowI (some ⟨zL, 0, none⟩) nx.length 4 1 (bools ls), rowI (some ⟨zK, 0, none⟩) nx.length 4 1 (bools co5), rowI (some ⟨bx2, 0, none⟩) cnt 4 1 (bools (gs7.set c gs7[cn[u]])), rowI (some ⟨zA, 0, none⟩) cnt 4 1 (bools cy), rowI (some ⟨zB, 0, none⟩) cnt 52 1 (uns ha), rowI cb cc 3 1 (nats cn), oI bx1 79 [(.slice nb nx.length nc), (.slice mb ms.length mc), .int .u64 ((2 ^ m - 1 : Nat) : Int)]] ++ (itms 3 qs))) (by rw [show putL (bools gs7) c [(.bool gs7[cn[u]])] = bools (gs7.set c gs7[cn[u]]) from (by simp [putL])]; exact Sub.of (List.Sublist.refl _)) ?_
        refine TO.nil (T.region ?_)
        refine TO.quiet (q_addN (a := i) (b := 1) rfl rfl (by omega)) (TO.quiet (q_move rfl) ?_)
        refine TO.nil ?_
        exact ⟨i + 1, by omega, gs7.set c gs7[cn[u]], rfl, by omega, hlv7.step hC hval hlt122 hlt159 hx hxl hxc hlt169 hu (by rw [gb (by omega), gb (by rw [hfu]; omega)]; simp only [hfu]; simp [hs178]), ⟨rfl, rfl, rfl, rfl, rfl, rfl, rfl, rfl, rfl, rfl, rfl, rfl, rfl, rfl, rfl, rfl, rfl, rfl, rfl, rfl, rfl, rfl, trivial⟩⟩
      have hge169 : ¬ i < nx[x].length := by omega
      refine T.exit ?_
      refine T.region ?_
      refine TO.quiet (q_addN (a := j) (b := 1) rfl rfl (by omega)) (TO.quiet (q_move rfl) ?_)
      refine TO.nil ?_
      exact ⟨j + 1, by omega, gs7, rfl, by omega, hlv7.next hlt159 hx hxl (by omega), ⟨rfl, rfl, rfl, rfl, rfl, rfl, rfl, rfl, rfl, rfl, rfl, rfl, rfl, rfl, rfl, rfl, rfl, rfl, trivial⟩⟩
    have hge159 : ¬ j < qs[c].xs.length := by omega
    refine T.exit ?_
    refine T.seq (T.region ?_)
    refine TO.quiet (q_move rfl) (TO.quiet (q_len Try.underlying22 rfl) (TO.quiet (q_move rfl) ?_))
    refine TO.nil (T.block ?_)
    refine T.loop (fun (j : Nat) ρ O => ∃ (ls8 : List Bool), O = ([rowI (some ⟨bx3, 0, none⟩) cnt 22 1 (vals qs), rowI (some ⟨zL, 0, none⟩) nx.length 4 1 (bools ls8), rowI (some ⟨zK, 0, none⟩) nx.length 4 1 (bools co5), rowI (some ⟨bx2, 0, none⟩) cnt 4 1 (bools gs6), rowI (some ⟨zA, 0, none⟩) cnt 4 1 (bools cy), rowI (some ⟨zB, 0, none⟩) cnt 52 1 (uns ha), rowI cb cc 3 1 (nats cn), oI bx1 79 [(.slice nb nx.length nc), (.slice mb ms.length mc), .int .u64 ((2 ^ m - 1 : Nat) : Int)]] ++ (itms 3 qs)) ∧ j ≤ qs[c].xs.length ∧ LvE nx ms m cn cnt c qs[c].xs j gs6 ls8 co5 ∧ Heads [(0, (.agg #[(.slice nb nx.length nc), (.slice mb ms.length mc), .int .u64 ((2 ^ m - 1 : Nat) : Int)])), (1, (.pointer (some ⟨bx1, 0, none⟩))), (2, (.slice (some ⟨zL, 0, none⟩) nx.length nx.length)), (3, (.slice (some ⟨zK, 0, none⟩) nx.length nx.length)), (4, (.slice cb nx.length cc)), (5, .int .i64 ((cnt : Nat) : Int)), (6, (.slice (some ⟨zA, 0, none⟩) cnt cnt)), (7, (.slice (some ⟨zB, 0, none⟩) cnt cnt)), (12, (.slice (some ⟨bx2, 0, none⟩) cnt cnt)), (13, (.slice (some ⟨bx3, 0, none⟩) cnt cnt)), (16, .int .i64 (c : Int)), (17, (.slice qs[c].b qs[c].xs.length qs[c].c)), (119, (.slice (some ⟨bx3, 0, none⟩) cnt cnt)), (120, .int .i64 (cnt : Int)), (121, .int .i64 (c : Int)), (190, (.slice qs[c].b qs[c].xs.length qs[c].c)), (191, .int .i64 (qs[c].xs.length : Int)), (192, .int .i64 (j : Int))] ρ) (fun j => qs[c].xs.length - j) 0 ?_ ?_
    · exact ⟨ls, rfl, Nat.zero_le _, hlv6.toE hC hval (by omega) (hor9.all hqc), ⟨rfl, rfl, rfl, rfl, rfl, rfl, rfl, rfl, rfl, rfl, rfl, rfl, rfl, rfl, rfl, rfl, rfl, rfl, trivial⟩⟩
    rintro j ρ O ⟨ls8, rfl, hj8, hlv8, hH⟩
    obtain ⟨ρ0, rfl⟩ := hH.elim
    clear hH
    have hll8 := hlv8.ll; have hgl8 := hlv8.lg
    refine T.seq (T.region ?_)
    refine TO.quiet (q_lss rfl rfl) ?_
    refine TO.nil (T.seq ?_)
    refine T.condP rfl (fun hc => ?_) (fun hc => ?_)
    · have hlt193 : j < qs[c].xs.length := by omega
      obtain ⟨x, hx, hxl, hxc⟩ := hor9.at hqc hlt193
      refine T.skip (T.seq (T.block (T.seq (T.region ?_))))
      refine TO.quiet (q_ix (i := j) Try.underlying22 inf3 rfl rfl (rowO (itms_at hqc))) (TO.quiet (q_ld Try.underlying3 rfl rfl (rowO (itms_at hqc)) (show (ints qs[c].xs)[j]? = _ by rw [ints_get hlt193, hx])) (TO.quiet (q_assign rfl) ?_))
      refine TO.nil (T.region ?_)
      refine TO.quiet (q_move rfl) (TO.quiet (q_move rfl) (TO.quiet (q_move rfl) (TO.quiet (q_move rfl) ?_)))
      refine TO.quiet (q_ix (i := c) Try.underlying39 inf4 rfl rfl (rowO (List.mem_of_getElem? (i := 3) rfl))) (TO.quiet (q_ld Try.underlying4 rfl rfl (rowO (List.mem_of_getElem? (i := 3) rfl)) bools_get) (TO.quiet (q_ix (i := x) Try.underlying39 inf4 rfl rfl (rowO (List.mem_of_getElem? (i := 1) rfl))) ?_))
      refine TO.loud rfl (l_st (j := x) (v := .bool gs6[c]) (vs := [(.bool gs6[c])]) (cs := bools ls8) 1 inf4 rfl rfl rfl rfl rfl (by simp) rfl (by first | (simp; omega) | (simp_all; omega)) ?_)
      refine TO.sub (O' := ([rowI (some ⟨bx3, 0, none⟩) cnt 22 1 (vals qs), rowI (some ⟨zL, 0, none⟩) nx.length 4 1 (bools (ls8.set x gs6[c])), rowI (some ⟨zK, 0, none⟩) nx.length 4 1 (bools co5), rowI (some ⟨bx2, 0, none⟩) cnt 4 1 (bools gs6), rowI (some ⟨zA, 0, none⟩) cnt 4 1 (bools cy), rowI (some ⟨zB, 0, none⟩) cnt 52 1 (uns ha), rowI cb cc 3 1 (nats cn), oI bx1 79 [(.slice nb nx.length nc), (.slice mb ms.length mc), .int .u64 ((2 ^ m - 1 : Nat) : Int)]] ++ (itms 3 qs))) (by rw [show putL (bools ls8) x [(.bool gs6[c])] = bools (ls8.set x gs6[c]) from (by simp [putL])]; exact Sub.of (List.Sublist.refl _)) ?_
      refine TO.nil (T.region ?_)
      refine TO.quiet (q_addN (a := j) (b := 1) rfl rfl (by omega)) (TO.quiet (q_move rfl) ?_)
      refine TO.nil ?_
      exact ⟨j + 1, by omega, ls8.set x gs6[c], rfl, by omega, hlv8.step hlt193 hx hxl hxc (by rw [gb (by omega)]), ⟨rfl, rfl, rfl, rfl, rfl, rfl, rfl, rfl, rfl, rfl, rfl, rfl, rfl, rfl, rfl, rfl, rfl, rfl, trivial⟩⟩
    have hge193 : ¬ j < qs[c].xs.length := by omega
    refine T.exit ?_
    refine T.region ?_
    refine TO.quiet (q_addN (a := c) (b := 1) rfl rfl (by omega)) (TO.quiet (q_move rfl) ?_)
    refine TO.nil ?_
    exact ⟨c + 1, by omega, gs6, ls8, co5, rfl, by omega, hlv8.done (by omega) (hor9.all hqc), ⟨rfl, rfl, rfl, rfl, rfl, rfl, rfl, rfl, rfl, rfl, rfl, rfl, rfl, trivial⟩⟩
  have hge122 : ¬ c < cnt := by omega
  refine T.exit ?_
  refine T.seq (T.region ?_)
  refine TO.quiet (q_move rfl) (TO.quiet (q_move rfl) (TO.quiet (q_assign rfl) (TO.quiet (q_assign rfl) ?_)))
  refine TO.nil (T.ret (Res.drop ?_))
  refine Res.two (.slice (some ⟨zL, 0, none⟩) nx.length nx.length) (.slice (some ⟨zK, 0, none⟩) nx.length nx.length) Try.results55 rfl rfl ?_
  exact ⟨[rowI (some ⟨zL, 0, none⟩) nx.length 4 1 (bools ls), rowI (some ⟨zK, 0, none⟩) nx.length 4 1 (bools co)], (Sub.pick0 [1, 1] [rowI (some ⟨bx3, 0, none⟩) cnt 22 1 (vals qs), rowI (some ⟨zL, 0, none⟩) nx.length 4 1 (bools ls), rowI (some ⟨zK, 0, none⟩) nx.length 4 1 (bools co), rowI (some ⟨bx2, 0, none⟩) cnt 4 1 (bools gs), rowI (some ⟨zA, 0, none⟩) cnt 4 1 (bools cy), rowI (some ⟨zB, 0, none⟩) cnt 52 1 (uns ha), rowI cb cc 3 1 (nats cn), oI bx1 79 [(.slice nb nx.length nc), (.slice mb ms.length mc), .int .u64 ((2 ^ m - 1 : Nat) : Int)]] (itms 3 qs) rfl rfl), _, _, _, _, ls, co, rfl, rfl, hlv.ll, hlv.lc, fun v hv => ⟨hlv.li v hv (by have := (hC.pos v hv).2; have h2 : ((fn cn v : Nat) : Int) < cnt := this; omega), hlv.co v hv (by have := (hC.pos v hv).2; have h2 : ((fn cn v : Nat) : Int) < cnt := this; omega)⟩⟩
end Go.Proofs.Ytnamoapbienooaa


namespace Go.Lx
open Go.RowKit
set_option linter.unusedVariables false
abbrev KI : Int → Value := fun a => .int .i64 a
abbrev VU : Nat → Value := fun x => .int .u64 (x : Int)
theorem sbI (a : Int) : Instr.sameBits 10000 (KI a) (KI a) = true := by simp [Instr.sameBits]
def mkN : List (List Int) → Int → Nat
  | [], _ => 0
  | S :: r, s => (if s ∈ S then 1 else 0) + 2 * mkN r s
theorem mkN_test : ∀ (A : List (List Int)) (s : Int) (i : Nat), (mkN A s).testBit i = true ↔ ∃ S, A[i]? = some S ∧ s ∈ S
  | [], s, i => by simp [mkN]
  | S :: r, s, 0 => by
    rw [Nat.testBit_zero]
    simp only [mkN, decide_eq_true_eq, List.getElem?_cons_zero, Option.some.injEq, exists_eq_left']
    split <;> rename_i h
    · simp [h]
    · simp [h]
  | S :: r, s, i + 1 => by
    have ih := mkN_test r s i
    rw [Nat.testBit_succ]
    simp only [mkN, List.getElem?_cons_succ]
    rw [← ih]
    have : ((if s ∈ S then 1 else 0) + 2 * mkN r s) / 2 = mkN r s := by split <;> omega
    rw [this]
theorem mkN_lt : ∀ (A : List (List Int)) (s : Int), mkN A s < 2 ^ A.length
  | [], _ => by simp [mkN]
  | S :: r, s => by
    have := mkN_lt r s
    simp only [mkN, List.length_cons, Nat.pow_succ]
    split <;> omega
theorem nat_ext {a b : Nat} (h : ∀ i, a.testBit i = true ↔ b.testBit i = true) : a = b := by
  apply Nat.eq_of_testBit_eq
  intro i
  cases h1 : a.testBit i <;> cases h2 : b.testBit i
  · rfl
  · exact absurd ((h i).2 h2) (by rw [h1]; decide)
  · exact absurd ((h i).1 h1) (by rw [h2]; decide)
  · rfl
theorem get_snoc {α : Type} {A : List α} {B : α} {i : Nat} : (A ++ [B])[i]? = if i < A.length then A[i]? else if i = A.length then some B else none := by
  by_cases h : i < A.length
  · rw [if_pos h, List.getElem?_append_left h]
  · rw [if_neg h, List.getElem?_append_right (by omega)]
    by_cases e : i = A.length
    · subst e; simp
    · rw [if_neg e]
      have : i - A.length ≠ 0 := by omega
      rw [List.getElem?_singleton, if_neg (by omega)]
theorem mkN_or {A : List (List Int)} {B : List Int} {a : Int} : mkN (A ++ [B]) a ||| 1 * 2 ^ A.length = mkN (A ++ [B ++ [a]]) a := by
  apply nat_ext
  intro i
  rw [Nat.testBit_or, Bool.or_eq_true, mkN_test, mkN_test, Nat.one_mul, Nat.testBit_two_pow]
  simp only [get_snoc, decide_eq_true_eq]
  by_cases h : i < A.length
  · simp [h]; intro e; omega
  · by_cases e : i = A.length
    · subst e; simp
    · simp [h, e]; omega
theorem mkN_ne {A : List (List Int)} {B : List Int} {a s : Int} (h : s ≠ a) : mkN (A ++ [B ++ [a]]) s = mkN (A ++ [B]) s := by
  apply nat_ext
  intro i
  rw [mkN_test, mkN_test]
  simp only [get_snoc]
  by_cases h1 : i < A.length
  · simp [h1]
  · by_cases e : i = A.length
    · subst e; simp [h]
    · simp [h1, e]
theorem mkN_nil {A : List (List Int)} {s : Int} : mkN (A ++ [[]]) s = mkN A s := by
  apply nat_ext
  intro i
  rw [mkN_test, mkN_test]
  simp only [get_snoc]
  by_cases h1 : i < A.length
  · simp [h1]
  · by_cases e : i = A.length
    · subst e; simp
    · rw [if_neg h1, if_neg e, List.getElem?_eq_none (by omega)]
structure MapP (l : List (Int × Nat)) (F : Int → Nat) : Prop where
  nd : (l.map Prod.fst).Nodup
  h : ∀ s, (lookL s l).getD 0 = F s
theorem look_putA {α β : Type} [DecidableEq α] {a : α} {v : β} (s : α) : ∀ (l : List (α × β)), lookL s (putA a v l) = if s = a then some v else lookL s l
  | [] => by simp only [putA, lookL]
  | q :: l => by
    have ih := look_putA (a := a) (v := v) s l
    by_cases h : a = q.1
    · subst h
      simp only [putA, if_true, lookL]
      by_cases e : s = q.1 <;> simp [e]
    · simp only [putA, if_neg h, lookL, ih]
      by_cases e : s = q.1
      · subst e; simp [Ne.symm h]
      · simp [e]
theorem keys_putA {α β : Type} [DecidableEq α] {a : α} {v : β} : ∀ (l : List (α × β)), (putA a v l).map Prod.fst = if a ∈ l.map Prod.fst then l.map Prod.fst else l.map Prod.fst ++ [a]
  | [] => by simp [putA]
  | q :: l => by
    have ih := keys_putA (a := a) (v := v) l
    by_cases h : a = q.1
    · subst h; simp [putA]
    · have e : putA a v (q :: l) = q :: putA a v l := by simp only [putA]; rw [if_neg h]
      rw [e, List.map_cons, ih, List.map_cons]
      by_cases hm : a ∈ l.map Prod.fst
      · rw [if_pos hm, if_pos (List.mem_cons_of_mem _ hm)]
      · rw [if_neg hm, if_neg (fun q9 => (List.mem_cons.1 q9).elim h hm)]; rfl
theorem MapP.put {l : List (Int × Nat)} {F : Int → Nat} (h : MapP l F) (a : Int) (v : Nat) : MapP (putA a v l) (fun s => if s = a then v else F s) := by
  refine ⟨?_, fun s => ?_⟩
  · rw [keys_putA]; split
    · exact h.nd
    · rename_i hn
      rw [List.nodup_append]
      exact ⟨h.nd, by simp, fun x hx y hy e => by simp at hy; subst hy; subst e; exact hn hx⟩
  · rw [look_putA]
    by_cases e : s = a
    · simp [e]
    · simp [e, h.h]
theorem MapP.congr {l : List (Int × Nat)} {F G : Int → Nat} (h : MapP l F) (e : ∀ s, F s = G s) : MapP l G := ⟨h.nd, fun s => (h.h s).trans (e s)⟩
theorem MapP.nil : MapP [] (fun _ => 0) := ⟨by simp, fun s => rfl⟩
theorem look_mem {α β : Type} [DecidableEq α] : ∀ {l : List (α × β)} {q : α × β}, (l.map Prod.fst).Nodup → q ∈ l → lookL q.1 l = some q.2
  | p :: l, q, hn, hq => by
    simp only [List.map_cons, List.nodup_cons] at hn
    rcases List.mem_cons.1 hq with rfl | hq
    · simp [lookL]
    · have : q.1 ≠ p.1 := fun e => hn.1 (by rw [← e]; exact List.mem_map.2 ⟨q, hq, rfl⟩)
      simp only [lookL, if_neg this]
      exact look_mem hn.2 hq
theorem look_none {α β : Type} [DecidableEq α] {a : α} : ∀ {l : List (α × β)}, a ∉ l.map Prod.fst → lookL a l = none
  | [], _ => rfl
  | p :: l, h => by
    simp only [List.map_cons, List.mem_cons, not_or] at h
    simp only [lookL, if_neg h.1]
    exact look_none h.2
theorem MapP.val {l : List (Int × Nat)} {F : Int → Nat} (h : MapP l F) {q : Int × Nat} (hq : q ∈ l) : q.2 = F q.1 := by
  rw [← h.h, look_mem h.nd hq]; rfl
theorem MapP.out {l : List (Int × Nat)} {F : Int → Nat} (h : MapP l F) {s : Int} (hs : s ∉ l.map Prod.fst) : F s = 0 := by
  rw [← h.h, look_none hs]; rfl
theorem MapP.step {l : List (Int × Nat)} {A : List (List Int)} {B : List Int} {a : Int} (h : MapP l (mkN (A ++ [B]))) : MapP (putA a (mkN (A ++ [B]) a ||| 1 * 2 ^ A.length) l) (mkN (A ++ [B ++ [a]])) :=
  (h.put a _).congr fun s => by
    split
    · rename_i e; subst e; exact mkN_or
    · rename_i e; exact (mkN_ne e).symm
structure RowsP (n : Nat) (R : Nat → Int → Prop) (b : Nat) (os : List (List Int)) : Prop where
  l : os.length = n
  h : ∀ v x, v < n → (x ∈ os.getD v [] ↔ R v x)
  b : ∀ v, (os.getD v []).length ≤ b
theorem getD_set_row {os : List (List Int)} {v : Nat} {r : List Int} (hv : v < os.length) (c : Nat) : (os.set v r).getD c [] = if c = v then r else os.getD c [] := by
  rw [List.getD_eq_getElem?_getD, List.getElem?_set]
  by_cases e : v = c
  · subst e; rw [if_pos rfl, if_pos hv, if_pos rfl]; rfl
  · rw [if_neg e, if_neg (fun h => e h.symm)]; simp
theorem RowsP.push {n b : Nat} {R R' : Nat → Int → Prop} {qs : List Rec} (h : RowsP n R b (nums qs)) {v : Nat} (hv : v < qs.length) (x : Int) (hR : ∀ u y, u < n → (R' u y ↔ R u y ∨ (u = v ∧ y = x))) (bb : Option Addr) (cc : Nat) : RowsP n R' (b + 1) (nums (qs.set v ⟨bb, cc, qs[v].xs ++ [x]⟩)) := by
  have hvl : v < (nums qs).length := by simpa using hv
  have hq : (nums qs).getD v [] = qs[v].xs := by simp [hv]
  rw [nums_set]
  refine ⟨by rw [List.length_set]; exact h.l, fun u y hu => ?_, fun u => ?_⟩
  · rw [getD_set_row hvl, hR u y hu]
    by_cases e : u = v
    · subst e; rw [if_pos rfl, List.mem_append, List.mem_singleton, ← hq, h.h u y hu]; simp
    · rw [if_neg e, h.h u y hu]; simp [e]
  · rw [getD_set_row hvl]; split
    · have := h.b v; rw [hq] at this; simp; exact this
    · have := h.b u; omega
theorem RowsP.same {n b : Nat} {R R' : Nat → Int → Prop} {os : List (List Int)} (h : RowsP n R b os) (hR : ∀ u y, u < n → (R' u y ↔ R u y)) : RowsP n R' b os := ⟨h.l, fun v x hv => by rw [h.h v x hv, hR v x hv], h.b⟩
theorem RowsP.more {n b b' : Nat} {R : Nat → Int → Prop} {os : List (List Int)} (h : RowsP n R b os) (hb : b ≤ b') : RowsP n R b' os := ⟨h.l, h.h, fun v => Nat.le_trans (h.b v) hb⟩
theorem RowsP.start {n : Nat} {R : Nat → Int → Prop} (hR : ∀ u y, u < n → ¬ R u y) (b : Nat) : RowsP n R b (nums (List.replicate n nilRec)) := by
  have h0 : ∀ c, (nums (List.replicate n nilRec)).getD c [] = [] := fun c => by
    rw [List.getD_eq_getElem?_getD]
    simp only [nums, List.getElem?_map, List.getElem?_replicate]; split <;> rfl
  refine ⟨by simp, fun v x hv => ?_, fun v => by rw [h0]; exact Nat.zero_le _⟩
  rw [h0]
  constructor
  · intro h; cases h
  · intro h; exact absurd h (hR v x hv)
theorem RowsP.ql {n b : Nat} {R : Nat → Int → Prop} {qs : List Rec} (h : RowsP n R b (nums qs)) : qs.length = n := by simpa using h.l
theorem RowsP.rl {n b : Nat} {R : Nat → Int → Prop} {qs : List Rec} (h : RowsP n R b (nums qs)) {v : Nat} (hv : v < qs.length) : qs[v].xs.length ≤ b := by
  have := h.b v
  rwa [show (nums qs).getD v [] = qs[v].xs by simp [hv]] at this
theorem RowsP.adj {n b : Nat} {R : Nat → Int → Prop} {os : List (List Int)} (h : RowsP n R b os) (hR : ∀ u y, R u y → u < n) (u v : Nat) : adjE os u v ↔ R u v := by
  constructor
  · rintro ⟨r, h1, h2⟩
    have hu : u < n := by rw [← h.l]; exact (List.getElem?_eq_some_iff.1 h1).1
    refine (h.h u v hu).1 ?_
    rw [List.getD_eq_getElem?_getD, h1]; exact h2
  · intro hr
    have hu := hR u v hr
    have := (h.h u v hu).2 hr
    refine ⟨os.getD u [], ?_, this⟩
    rw [List.getD_eq_getElem?_getD]
    rw [List.getElem?_eq_getElem (by rw [h.l]; exact hu)]; rfl
theorem List.sublist_append_left_of_sublist_cons {α : Type} (A : List α) (e : α) (B : List α) : (A ++ B).Sublist (A ++ e :: B) := (List.Sublist.refl A).append (List.sublist_cons_self e B)
theorem nodup_mid {A B : List (Int × Nat)} {e : Int × Nat} (h : ((A ++ e :: B).map Prod.fst).Nodup) : ((A ++ B).map Prod.fst).Nodup :=
  ((List.sublist_append_left_of_sublist_cons A e B).map Prod.fst).nodup h
def autR (es : List Ed) (u : Nat) (y : Int) : Prop := ∃ e ∈ es, e.fr = (u : Int) ∧ e.to = y
theorem autR_snoc {es : List Ed} {k : Nat} (hk : k < es.length) (u : Nat) (y : Int) : autR (es.take (k + 1)) u y ↔ autR (es.take k) u y ∨ (es[k].fr = (u : Int) ∧ es[k].to = y) := by
  unfold autR
  rw [List.take_succ_eq_append_getElem hk]
  constructor
  · rintro ⟨e, h, h1⟩
    rcases List.mem_append.1 h with h | h
    · exact .inl ⟨e, h, h1⟩
    · rw [List.mem_singleton] at h; subst h; exact .inr h1
  · rintro (⟨e, h, h1⟩ | h1)
    · exact ⟨e, List.mem_append_left _ h, h1⟩
    · exact ⟨es[k], List.mem_append_right _ (by simp), h1⟩
theorem marks_step {ms : List Nat} {n : Nat} {F : Int → Nat} {A B : List (Int × Nat)} {e : Int × Nat} (hl : ms.length = n) (h : ∀ s, s < n → ms.getD s 0 = if (s : Int) ∈ (A ++ e :: B).map Prod.fst then 0 else F s) (hn : ((A ++ e :: B).map Prod.fst).Nodup) (he : e.2 = F e.1) {x : Nat} (hx : e.1 = (x : Int)) (hxn : x < n) :
    ∀ s, s < n → (ms.set x e.2).getD s 0 = if (s : Int) ∈ (A ++ B).map Prod.fst then 0 else F s := fun s hs => by
  have h1 := fn_set (a := e.2) (l := ms) (v := x) (by rw [hl]; exact hxn) s
  rw [show (ms.set x e.2).getD s 0 = fn (ms.set x e.2) s from rfl, h1]
  simp only [List.map_append, List.map_cons, List.nodup_append, List.nodup_cons, List.mem_cons] at hn
  by_cases es : s = x
  · subst es
    rw [if_pos rfl, if_neg, he, hx]
    rw [List.map_append, List.mem_append, ← hx]
    rintro (h2 | h2)
    · exact hn.2.2 _ h2 _ (.inl rfl) rfl
    · exact hn.2.1.1 h2
  · rw [if_neg es, show fn ms s = ms.getD s 0 from rfl, h s hs]
    have : ¬ (s : Int) = e.1 := by rw [hx]; omega
    by_cases hm : (s : Int) ∈ (A ++ B).map Prod.fst
    · rw [if_pos hm, if_pos]
      rw [List.map_append, List.mem_append] at hm ⊢
      rcases hm with hm | hm
      · exact .inl hm
      · exact .inr (List.mem_cons_of_mem _ hm)
    · rw [if_neg hm, if_neg]
      rw [List.map_append, List.mem_append] at hm ⊢
      rintro (h2 | h2)
      · exact hm (.inl h2)
      · rw [List.map_cons, List.mem_cons] at h2
        exact h2.elim this (fun h3 => hm (.inr h3))
def autE (b : Bu) (u v : Nat) : Prop := autR b.edges u (v : Int)
def autM (b : Bu) (k v : Nat) : Prop := v < b.states.toNat ∧ ∃ S, b.sets[k]? = some S ∧ (v : Int) ∈ S
def liveB (b : Bu) (v : Nat) : Prop := LiveG (autE b) b.sets.length (autM b) v
def coreB (b : Bu) (v : Nat) : Prop := Core (autE b) b.sets.length (autM b) v
structure AutG (b : Bu) (nx : List (List Int)) (ms : List Nat) : Prop where
  r : RowsP b.states.toNat (autR b.edges) b.edges.length nx
  l : ms.length = b.states.toNat
  m : ∀ s, s < b.states.toNat → ms.getD s 0 = mkN b.sets s
theorem AutG.ok {b : Bu} {nx : List (List Int)} {ms : List Nat} (h : AutG b nx ms) (hv : ValidB b) : okRows nx := fun r hr x hx => by
  obtain ⟨i, hi, rfl⟩ := List.mem_iff_getElem.1 hr
  have hl := h.r.l
  have := (h.r.h i x (by omega)).1 (by rw [getD_at hi]; exact hx)
  obtain ⟨e, he, _, rfl⟩ := this
  have := (hv.ed e he).2
  omega
theorem AutG.adj {b : Bu} {nx : List (List Int)} {ms : List Nat} (h : AutG b nx ms) (hv : ValidB b) : adjE nx = autE b := by
  funext u v
  exact propext (h.r.adj (fun u y ⟨e, he, h1, _⟩ => by have := (hv.ed e he).1; omega) u v)
theorem AutG.mrk {b : Bu} {nx : List (List Int)} {ms : List Nat} (h : AutG b nx ms) : mkM nx ms = autM b := by
  funext k v
  apply propext
  unfold mkM autM
  rw [h.r.l]
  constructor
  · rintro ⟨h1, h2⟩
    rw [h.m v h1, mkN_test] at h2
    exact ⟨h1, h2⟩
  · rintro ⟨h1, h2⟩
    exact ⟨h1, by rw [h.m v h1, mkN_test]; exact h2⟩
theorem AutG.liv {b : Bu} {nx : List (List Int)} {ms : List Nat} (h : AutG b nx ms) (hv : ValidB b) (v : Nat) : Liv nx ms b.sets.length v ↔ liveB b v := by
  unfold Liv liveB; rw [h.adj hv, h.mrk]
theorem AutG.cor {b : Bu} {nx : List (List Int)} {ms : List Nat} (h : AutG b nx ms) (hv : ValidB b) (v : Nat) : Cor nx ms b.sets.length v ↔ coreB b v := by
  unfold Cor coreB; rw [h.adj hv, h.mrk]
theorem AutG.lt {b : Bu} {nx : List (List Int)} {ms : List Nat} (h : AutG b nx ms) : ∀ x ∈ ms, x < 2 ^ b.sets.length := fun x hx => by
  obtain ⟨i, hi, rfl⟩ := List.mem_iff_getElem.1 hx
  have := h.m i (by rw [← h.l]; exact hi)
  rw [gd hi] at this
  rw [this]; exact mkN_lt _ _
end Go.Lx


namespace Go.Proofs.Ytnamoapbienooaa
open Go.Lx Go.RowKit
set_option linter.unusedVariables false
set_option linter.unusedSimpArgs false
set_option maxHeartbeats 1000000 in
set_option maxRecDepth 20000 in
theorem marksF (w : World) (b : Bu) (sb eb tb : Option Addr) (sc ec tc : Nat) (vs : List Value) (h : BuAt w b sb eb tb vs) (hB : BuB b) (h8 : b.sets.length ≤ 8) :
    PureT Try.prog 52 [.agg (buCells b sb sc eb ec tb tc).toArray] w fun v N => ∃ m l, v = .map (some m) ∧ N = [mapI KI VU m l] ∧ MapP l (mkN b.sets) ∧ (∀ q ∈ l, ∃ S ∈ b.sets, q.1 ∈ S) := by
  refine CallT.enter Try.func52 rfl Try.ntmps52 rfl ?_
  have hse := hB.se
  refine T.seq (T.region ?_)
  refine TO.loud rfl (l_box (v := (.agg (buCells b sb sc eb ec tb tc).toArray)) (cs := (buCells b sb sc eb ec tb tc)) rfl rfl (fun bx1 => ?_))
  refine TO.quiet (q_assign rfl) ?_
  refine TO.nil (T.seq (T.region ?_))
  refine TO.loud rfl (l_makeMap KI VU (fun m2 => ?_))
  refine TO.quiet (q_assign rfl) ?_
  refine TO.nil (T.seq (T.seq (T.region ?_)))
  refine TO.quiet (q_fieldAddr Try.underlying26 rfl inf24 rfl rfl) (TO.quiet (q_load_box 1 Try.underlying24 rfl rfl rfl rfl) (TO.quiet (q_len Try.underlying24 rfl) (TO.quiet (q_move rfl) ?_)))
  refine TO.nil (T.block ?_)
  refine T.loop (fun (k : Nat) ρ O => ∃ (l : List (Int × Nat)), O = [mapI KI VU m2 l, oI bx1 26 (buCells b sb sc eb ec tb tc)] ∧ k ≤ b.sets.length ∧ MapP l (mkN (b.sets.take k)) ∧ (∀ q ∈ l, ∃ S ∈ b.sets, q.1 ∈ S) ∧ Heads [(0, (.agg (buCells b sb sc eb ec tb tc).toArray)), (1, (.pointer (some ⟨bx1, 0, none⟩))), (2, .map none), (3, (.map (some m2))), (10, (.slice tb b.sets.length tc)), (11, .int .i64 (b.sets.length : Int)), (12, .int .i64 (k : Int))] ρ) (fun k => b.sets.length - k) 0 ?_ ?_
  · exact ⟨[], rfl, Nat.zero_le _, MapP.nil, (fun q hq => (List.not_mem_nil hq).elim), ⟨rfl, rfl, rfl, rfl, rfl, rfl, rfl, trivial⟩⟩
  rintro k ρ O ⟨l, rfl, hk, hmp, hin, hH⟩
  obtain ⟨ρ0, rfl⟩ := hH.elim
  clear hH
  refine T.seq (T.region ?_)
  refine TO.quiet (q_lss rfl rfl) ?_
  refine TO.nil (T.seq ?_)
  refine T.condP rfl (fun hc => ?_) (fun hc => ?_)
  · have hlt13 : k < b.sets.length := by omega
    obtain ⟨rb, rc, g1, s1⟩ := h.rows.get hlt13
    have hrk := hB.sr _ (List.getElem_mem hlt13)
    have hkl : (b.sets.take k).length = k := by rw [List.length_take]; omega
    refine T.skip (T.seq (T.block (T.seq (T.region ?_))))
    refine TO.quiet (q_move rfl) (TO.quiet (q_ix (i := k) Try.underlying24 inf22 rfl rfl (Sl.o h.out) (by first | assumption | omega | (simp; omega) | simp_all) (by rw [h.rows.1]; exact hlt13)) (TO.quiet (q_ld Try.underlying22 rfl rfl (Sl.o h.out) g1) (TO.quiet (q_assign rfl) ?_)))
    refine TO.quiet (q_assign rfl) ?_
    refine TO.nil (T.seq (T.region ?_))
    refine TO.quiet (q_move rfl) (TO.quiet (q_len Try.underlying22 rfl) (TO.quiet (q_move rfl) ?_))
    refine TO.nil (T.block ?_)
    refine T.loop (fun (j : Nat) ρ O => ∃ (l2 : List (Int × Nat)), O = [mapI KI VU m2 l2, oI bx1 26 (buCells b sb sc eb ec tb tc)] ∧ j ≤ b.sets[k].length ∧ MapP l2 (mkN (b.sets.take k ++ [b.sets[k].take j])) ∧ (∀ q ∈ l2, ∃ S ∈ b.sets, q.1 ∈ S) ∧ Heads [(0, (.agg (buCells b sb sc eb ec tb tc).toArray)), (1, (.pointer (some ⟨bx1, 0, none⟩))), (2, .map none), (3, (.map (some m2))), (4, .int .i64 (k : Int)), (5, (.slice rb b.sets[k].length rc)), (10, (.slice tb b.sets.length tc)), (11, .int .i64 (b.sets.length : Int)), (12, .int .i64 (k : Int)), (17, (.slice rb b.sets[k].length rc)), (18, .int .i64 (b.sets[k].length : Int)), (19, .int .i64 (j : Int))] ρ) (fun j => b.sets[k].length - j) 0 ?_ ?_
    · exact ⟨l, rfl, Nat.zero_le _, hmp.congr (fun s => by rw [List.take_zero]; exact mkN_nil.symm), hin, ⟨rfl, rfl, rfl, rfl, rfl, rfl, rfl, rfl, rfl, rfl, rfl, rfl, trivial⟩⟩
    rintro j ρ O ⟨l2, rfl, hj, hmp2, hin2, hH⟩
    obtain ⟨ρ0, rfl⟩ := hH.elim
    clear hH
    refine T.seq (T.region ?_)
    refine TO.quiet (q_lss rfl rfl) ?_
    refine TO.nil (T.seq ?_)
    refine T.condP rfl (fun hc => ?_) (fun hc => ?_)
    · have hlt20 : j < b.sets[k].length := by omega
      have hmk : mkN (b.sets.take k ++ [b.sets[k].take j]) b.sets[k][j] < 2 ^ 9 := Nat.lt_of_lt_of_le (mkN_lt _ _) (Nat.pow_le_pow_right (by omega) (by simp; omega))
      refine T.skip (T.seq (T.block (T.seq (T.region ?_))))
      refine TO.quiet (q_ix (i := j) Try.underlying22 inf3 rfl rfl (Sl.o s1)) (TO.quiet (q_ld Try.underlying3 rfl rfl (Sl.o s1) ints_get) (TO.quiet (q_assign rfl) ?_))
      refine TO.nil ?_
      refine T.draws _ [(0, 0), (1, 0), (2, 0), (3, 0), (4, 0), (5, 0), (6, 2)] mixed (by kernel_rfl) (Sub.of (List.Sublist.refl _)) (fun _ _ _ h => h) ?_
      refine DO.quiet rfl (q_move rfl) (DO.quiet rfl (q_move rfl) (DO.quiet rfl (QT.cast (q_lookup (K := KI) (V := VU) (a := b.sets[k][j]) Try.underlying80 inf52 (KeyOk.int Try.underlying3) rfl rfl (List.mem_of_getElem? (i := 0) rfl)) (v' := .int .u64 ((mkN (b.sets.take k ++ [b.sets[k].take j]) b.sets[k][j] : Nat) : Int)) (by rw [← hmp2.h]; cases lookL b.sets[k][j] l2 <;> rfl)) (DO.quiet rfl (q_move rfl) ?_)))
      refine DO.quiet rfl (q_shlU (a := 1) (b := k) .u64 rfl rfl (by show _ ≤ 64; omega) (by show _ < 2 ^ 64; rw [Nat.one_mul]; exact Nat.pow_lt_pow_right (by omega) (by omega))) (DO.quiet rfl (q_or (a := (mkN (b.sets.take k ++ [b.sets[k].take j]) b.sets[k][j])) (b := (1 * 2 ^ k)) .u64 rfl rfl (by show _ < 2 ^ 64; omega) (by show _ < 2 ^ 64; rw [Nat.one_mul]; exact Nat.pow_lt_pow_right (by omega) (by omega))) ?_)
      refine DO.last rfl rfl (l_mapPutA (K := KI) (V := VU) (a := b.sets[k][j]) (v := mkN (b.sets.take k ++ [b.sets[k].take j]) b.sets[k][j] ||| 1 * 2 ^ k) 0 Try.underlying80 (KeyOk.int Try.underlying3) (sbI _) rfl rfl rfl rfl ?_)
      refine DO.done ?_
      refine T.region ?_
      refine TO.quiet (q_addN (a := j) (b := 1) rfl rfl (by omega)) (TO.quiet (q_move rfl) ?_)
      refine TO.nil ?_
      refine ⟨j + 1, by omega, putA b.sets[k][j] (mkN (b.sets.take k ++ [b.sets[k].take j]) b.sets[k][j] ||| 1 * 2 ^ k) l2, rfl, by omega, ?_, fun q hq => ?_, ⟨rfl, rfl, rfl, rfl, rfl, rfl, rfl, rfl, rfl, rfl, rfl, rfl, trivial⟩⟩
      · have h9 := hmp2.step (a := b.sets[k][j])
        rw [hkl] at h9
        rw [List.take_succ_eq_append_getElem hlt20]; exact h9
      · by_cases e : q.1 = b.sets[k][j]
        · exact ⟨_, List.getElem_mem hlt13, by rw [e]; exact List.getElem_mem hlt20⟩
        · have hm9 : q.1 ∈ (putA b.sets[k][j] (mkN (b.sets.take k ++ [b.sets[k].take j]) b.sets[k][j] ||| 1 * 2 ^ k) l2).map Prod.fst := List.mem_map.2 ⟨q, hq, rfl⟩
          rw [keys_putA] at hm9
          have hm8 : q.1 ∈ l2.map Prod.fst := by
            split at hm9
            · exact hm9
            · rcases List.mem_append.1 hm9 with h | h
              · exact h
              · simp at h; exact absurd h e
          obtain ⟨q2, hq2, e2⟩ := List.mem_map.1 hm8
          obtain ⟨S, hS, hS2⟩ := hin2 q2 hq2
          exact ⟨S, hS, by rw [← e2]; exact hS2⟩
    have hge20 : ¬ j < b.sets[k].length := by omega
    refine T.exit ?_
    refine T.region ?_
    refine TO.quiet (q_addN (a := k) (b := 1) rfl rfl (by omega)) (TO.quiet (q_move rfl) ?_)
    refine TO.nil ?_
    refine ⟨k + 1, by omega, l2, rfl, by omega, ?_, hin2, ⟨rfl, rfl, rfl, rfl, rfl, rfl, rfl, trivial⟩⟩
    rw [List.take_succ_eq_append_getElem hlt13]
    rwa [List.take_of_length_le (show b.sets[k].length ≤ j by omega)] at hmp2
  have hge13 : ¬ k < b.sets.length := by omega
  refine T.exit ?_
  refine T.seq (T.region ?_)
  refine TO.quiet (q_move rfl) (TO.quiet (q_assign rfl) ?_)
  refine TO.nil (T.ret (Res.drop ?_))
  refine Res.one (.map (some m2)) Try.results52 rfl ?_
  have hke : k = b.sets.length := by omega
  exact ⟨[mapI KI VU m2 l], (Sub.pick [0] rfl), m2, l, rfl, rfl, by rwa [hke, List.take_length] at hmp, hin⟩
end Go.Proofs.Ytnamoapbienooaa

