/- Contracts of functions of the program (QW): what each call answers and that it leaves memory as it was. Conditions: those each theorem names. -/
import Derived.Test.YtdaapdamcekkgaaDoorEnd
import Derived.Test.YtdaapdamcekkgaaDoorRun
import Derived.Test.YtdaapdamcekkgaaDoorBolD
set_option linter.unusedSectionVars false
set_option linter.unusedSimpArgs false
set_option linter.unusedVariables false
set_option linter.unnecessarySimpa false
namespace Go.Proofs.YtdaapdamcekkgaaDoor
open Go.Lx Go.RowKit
set_option linter.unusedVariables false
set_option linter.unusedSimpArgs false
set_option maxHeartbeats 4000000 in
set_option maxRecDepth 20000 in
theorem wordsBad (w : World) (a : DFA) (ja : DK) (ha : At w a ja) (ha1 : a.next.length < 9223372036854775807) (ha2 : ∀ r ∈ a.next, r.length < 9223372036854775807) (ha3 : a.final.length < 9223372036854775807) (b : DFA) (jb : DK) (hb : At w b jb) (hb1 : b.next.length < 9223372036854775807) (hb2 : ∀ r ∈ b.next, r.length < 9223372036854775807) (hb3 : b.final.length < 9223372036854775807) (wb : Option Addr) (wc : Nat) (o : List Nat) (hW : Sl w wb (byts o)) (hwb : o.length < 9223372036854775807) (hw8 : ∀ x ∈ o, x < 256) (hw : wrongD a b ≠ 0) :
    PureT Tryd.prog 4 [dV a ja, dV b jb, .slice wb o.length wc] w fun v N => v = .bool true ∧ N = [] := by
  refine CallT.enter Tryd.func4 rfl Tryd.ntmps4 rfl ?_
  refine T.seq (T.region ?_)
  refine TO.loud rfl (l_box (v := (dV a ja)) (cs := (dC a ja)) rfl rfl (fun z1 => ?_))
  refine TO.loud rfl (l_box (v := (dV b jb)) (cs := (dC b jb)) rfl rfl (fun z2 => ?_))
  refine TO.quiet (q_assign rfl) ?_
  refine TO.nil (T.seq (T.seq (T.region ?_)))
  refine TO.quiet (q_load_boxAgg 1 Tryd.underlying25 rfl inf25 rfl rfl rfl) (TO.quiet (q_load_boxAgg 0 Tryd.underlying25 rfl inf25 rfl rfl rfl) ?_)
  refine TO.loud rfl (l_buildSlice (m := 2) (parts := [(0, _), (1, _)]) (cs := [(.int .i64 a.vars), (.int .i64 a.start), (.slice ja.nb a.next.length ja.nc), (.slice ja.fb a.final.length ja.fc), (.int .i64 b.vars), (.int .i64 b.start), (.slice jb.nb b.next.length jb.nc), (.slice jb.fb b.final.length jb.fc)]) Tryd.underlying48 inf25 (by decide) (by kernel_rfl) rfl (fun z3 => ?_))
  have hk27 := fun (w1 : World) (hI : Inv w [rowI (some ⟨z3, 0, none⟩) 2 25 4 [(.int .i64 a.vars), (.int .i64 a.start), (.slice ja.nb a.next.length ja.nc), (.slice ja.fb a.final.length ja.fc), (.int .i64 b.vars), (.int .i64 b.start), (.slice jb.nb b.next.length jb.nc), (.slice jb.fb b.final.length jb.fc)], oI z2 25 (dC b jb), oI z1 25 (dC a ja)] w1) => long2 w1 (some ⟨z3, 0, none⟩) a b ja jb (hI.slOf (List.mem_of_getElem? (i := 0) rfl)) (hI.atB ha) (hI.atB hb) ha1 hb1
  refine TO.loud rfl (l_call ent10 (CallT.of_pure hk27) rfl ?_)
  clear hk27
  rintro vr O' ⟨N, rfl, rfl, rfl⟩
  by_cases hs28 : (longB [a, b]) = true
  · refine TO.quiet (QT.toB (q_move rfl) (hs28)) ?_
    refine TO.passed rfl rfl ?_
    refine TO.passed rfl rfl ?_
    refine TO.passed rfl rfl ?_
    refine TO.quiet (q_pick1 rfl rfl) (TO.quiet (q_move rfl) ?_)
    refine TO.passed rfl rfl ?_
    refine TO.passed rfl rfl ?_
    refine TO.quiet (q_pick1 rfl rfl) ?_
    refine TO.sub (O' := [oI z2 25 (dC b jb), oI z1 25 (dC a ja)]) (by exact Sub.d (.k (.k .z))) ?_
    refine TO.nil ?_
    refine T.cond1 rfl ?_
    refine T.seq (T.region ?_)
    have hk37 := fun (w1 : World) (hI : Inv w [oI z2 25 (dC b jb), oI z1 25 (dC a ja)] w1) => awakeC w1
    refine TO.loud rfl (l_call ent11 (CallT.of_pure hk37) rfl ?_)
    clear hk37
    rintro vr O' ⟨N, rfl, rfl, rfl⟩
    refine TO.quiet (q_assign rfl) ?_
    refine TO.nil (T.ret (Res.drop ?_))
    refine Res.one (.bool true) Tryd.results4 rfl ?_
    exact ⟨[], Sub.z, rfl, rfl⟩
  refine TO.quiet (QT.toB (q_move rfl) (Bool.eq_false_iff.2 hs28)) ?_
  refine TO.guarded rfl rfl rfl (LT.of_quiet rfl rfl (q_move rfl) ?_)
  refine TO.guarded rfl rfl rfl (LT.of_quiet rfl rfl (q_len Tryd.underlying35 rfl) ?_)
  refine TO.guarded rfl rfl rfl (LT.of_quiet rfl rfl (q_gtr rfl rfl) ?_)
  refine TO.quiet (q_pick0 rfl rfl) ?_
  by_cases hs33 : (o.length : Int) > 100
  · refine TO.quiet (QT.toB (q_move rfl) (decide_eq_true hs33)) ?_
    refine TO.passed rfl rfl ?_
    refine TO.passed rfl rfl ?_
    refine TO.quiet (q_pick1 rfl rfl) ?_
    refine TO.sub (O' := [oI z2 25 (dC b jb), oI z1 25 (dC a ja)]) (by exact Sub.d (.k (.k .z))) ?_
    refine TO.nil ?_
    refine T.cond1 rfl ?_
    refine T.seq (T.region ?_)
    have hk37 := fun (w1 : World) (hI : Inv w [oI z2 25 (dC b jb), oI z1 25 (dC a ja)] w1) => awakeC w1
    refine TO.loud rfl (l_call ent11 (CallT.of_pure hk37) rfl ?_)
    clear hk37
    rintro vr O' ⟨N, rfl, rfl, rfl⟩
    refine TO.quiet (q_assign rfl) ?_
    refine TO.nil (T.ret (Res.drop ?_))
    refine Res.one (.bool true) Tryd.results4 rfl ?_
    exact ⟨[], Sub.z, rfl, rfl⟩
  refine TO.quiet (QT.toB (q_move rfl) (decide_eq_false hs33)) ?_
  have hk34 := fun (w1 : World) (hI : Inv w [rowI (some ⟨z3, 0, none⟩) 2 25 4 [(.int .i64 a.vars), (.int .i64 a.start), (.slice ja.nb a.next.length ja.nc), (.slice ja.fb a.final.length ja.fc), (.int .i64 b.vars), (.int .i64 b.start), (.slice jb.nb b.next.length jb.nc), (.slice jb.fb b.final.length jb.fc)], oI z2 25 (dC b jb), oI z1 25 (dC a ja)] w1) => awakeC w1
  refine TO.guarded rfl rfl rfl (l_call ent11 (CallT.of_pure hk34) rfl ?_)
  clear hk34
  rintro vr O' ⟨N, rfl, rfl, rfl⟩
  refine TO.guarded rfl rfl rfl (LT.of_quiet rfl rfl (q_not rfl) ?_)
  refine TO.quiet (q_pick0 rfl rfl) ?_
  refine TO.sub (O' := [oI z2 25 (dC b jb), oI z1 25 (dC a ja)]) (by exact Sub.d (.k (.k .z))) ?_
  refine TO.nil ?_
  refine T.cond0 rfl ?_
  refine T.skip (T.seq ?_)
  obtain ⟨sa, sb⟩ := longB_two (by simpa using hs28)
  have ba : a.next.length < 9223372036854775807 ∧ (∀ r ∈ a.next, r.length < 9223372036854775807) ∧ a.final.length < 9223372036854775807 := ⟨ha1, ha2, ha3⟩
  have bb : b.next.length < 9223372036854775807 ∧ (∀ r ∈ b.next, r.length < 9223372036854775807) ∧ b.final.length < 9223372036854775807 := ⟨hb1, hb2, hb3⟩
  obtain ⟨mN, emN⟩ : ∃ m, opV notB a a = m := ⟨_, rfl⟩
  have bN := opV_bounds (f := notB) (a := a) (b := a) (fun _ => by have := sa.mul sa; omega)
  rw [emN] at bN
  have wN := fun hc9 => words_not sa hc9 emN o
  refine T.region ?_
  refine TO.quiet (q_load_boxAgg 1 Tryd.underlying25 rfl inf25 rfl rfl rfl) (TO.quiet (q_move rfl) ?_)
  have hk41 := fun (w1 : World) (hI : Inv w [oI z2 25 (dC b jb), oI z1 25 (dC a ja)] w1) => acceptsA w1 a ja.nb ja.fb ja.nc ja.fc (vals ja.qs) (hI.atB ha) ba.1 ba.2.1 ba.2.2 wb wc o (hI.sl hW) hwb hw8
  refine TO.loud rfl (l_call ent19 (CallT.of_pure hk41) rfl ?_)
  clear hk41
  rintro vr O' ⟨N, rfl, rfl, rfl⟩
  refine TO.quiet (q_move rfl) (TO.quiet (q_extract (vs := _) rfl rfl) (TO.quiet (q_extract (vs := _) rfl rfl) (TO.quiet (q_assign rfl) ?_)))
  refine TO.quiet (q_assign rfl) ?_
  refine TO.nil (T.seq (T.region ?_))
  refine TO.quiet (q_load_boxAgg 0 Tryd.underlying25 rfl inf25 rfl rfl rfl) (TO.quiet (q_move rfl) ?_)
  have hk47 := fun (w1 : World) (hI : Inv w [oI z2 25 (dC b jb), oI z1 25 (dC a ja)] w1) => acceptsA w1 b jb.nb jb.fb jb.nc jb.fc (vals jb.qs) (hI.atB hb) bb.1 bb.2.1 bb.2.2 wb wc o (hI.sl hW) hwb hw8
  refine TO.loud rfl (l_call ent19 (CallT.of_pure hk47) rfl ?_)
  clear hk47
  rintro vr O' ⟨N, rfl, rfl, rfl⟩
  refine TO.quiet (q_move rfl) (TO.quiet (q_extract (vs := _) rfl rfl) (TO.quiet (q_extract (vs := _) rfl rfl) (TO.quiet (q_assign rfl) ?_)))
  refine TO.quiet (q_assign rfl) ?_
  refine TO.nil (T.seq (T.region ?_))
  refine TO.quiet (q_load_boxAgg 1 Tryd.underlying25 rfl inf25 rfl rfl rfl) ?_
  have hk51 := fun (w1 : World) (hI : Inv w [oI z2 25 (dC b jb), oI z1 25 (dC a ja)] w1) => subsetCheck w1 a ja.nb ja.fb ja.nc ja.fc (vals ja.qs) (hI.dfa ha) ha1 ha2 ha3
  refine TO.loud rfl (l_call ent20 (CallT.of_pure hk51) rfl ?_)
  clear hk51
  rintro vr O' ⟨N, rfl, rfl, rfl⟩
  refine TO.quiet (q_neq rfl rfl) ?_
  by_cases hs53 : (checkD a : Int) ≠ 0
  · refine TO.quiet (QT.toB (q_move rfl) (decide_eq_true hs53)) ?_
    refine TO.passed rfl rfl ?_
    refine TO.passed rfl rfl ?_
    refine TO.passed rfl rfl ?_
    refine TO.quiet (q_pick1 rfl rfl) (TO.quiet (q_move rfl) ?_)
    refine TO.passed rfl rfl ?_
    refine TO.passed rfl rfl ?_
    refine TO.passed rfl rfl ?_
    refine TO.passed rfl rfl ?_
    refine TO.passed rfl rfl ?_
    refine TO.quiet (q_pick1 rfl rfl) (TO.quiet (q_assign rfl) ?_)
    refine TO.nil (T.seq (T.seq (T.region ?_)))
    refine TO.quiet (q_assign rfl) ?_
    refine TO.nil (T.block ?_)
    refine T.loopS (fun (p : Nat) ρ O => O = [oI z2 25 (dC b jb), oI z1 25 (dC a ja)] ∧ p ≤ 4 ∧ Heads [(0, (dV a ja)), (1, (dV b jb)), (2, (.slice wb o.length wc)), (3, (.pointer (some ⟨z1, 0, none⟩))), (4, (.pointer (some ⟨z2, 0, none⟩))), (7, .bool (accV a o)), (8, .int .i64 (runE a o : Int)), (9, .bool (accV b o)), (10, .int .i64 (runE b o : Int)), (11, .bool true), (12, .int .i64 ((p : Nat) : Int))] ρ) (fun p => 4 - p) 0 ?_ ?_
    · exact ⟨rfl, Nat.zero_le _, ⟨rfl, rfl, rfl, rfl, rfl, rfl, rfl, rfl, rfl, rfl, rfl, trivial⟩⟩
    rintro p ρ O ⟨rfl, hp, hH⟩
    obtain ⟨ρ0, rfl⟩ := hH.elim
    clear hH
    refine T.seq (T.seq (T.region ?_))
    refine TO.quiet (q_move rfl) (TO.quiet (q_lss rfl rfl) ?_)
    refine TO.nil ?_
    refine T.condP rfl (fun hc => ?_) (fun hc => ?_)
    · have hlt66 : p < 4 := by omega
      refine T.skip (T.seq (T.block (T.seq (T.region ?_))))
      refine TO.quiet (q_move rfl) (TO.quiet (q_load_boxAgg 1 Tryd.underlying25 rfl inf25 rfl rfl rfl) (TO.quiet (q_load_boxAgg 0 Tryd.underlying25 rfl inf25 rfl rfl rfl) ?_))
      have hk73 := fun (w1 : World) (hI : Inv w [oI z2 25 (dC b jb), oI z1 25 (dC a ja)] w1) => (show PureT _ _ _ _ _ from by
          have h9 := applyC w1 (p : Int) a b ja jb (hI.atB ha) (hI.atB hb) ha1 ha2 ha3 hb1 hb2 hb3 (sa.small sb)
          rw [opV_bad hw] at h9
          exact h9)
      refine TO.loud rfl (l_call ent18 (CallT.of_pure hk73) rfl ?_)
      clear hk73
      rintro vr O' ⟨N, rfl, k5, rfl, rfl⟩
      refine TO.quiet (q_move rfl) (TO.quiet (q_extract (vs := _) rfl rfl) (TO.quiet (q_extract (vs := _) rfl rfl) ?_))
      refine TO.loud rfl (l_alloc inf25 rfl (fun z4 => ?_))
      refine TO.loud rfl (l_store_box (v := (dV noD k5)) (vs := (dC noD k5)) 0 inf25 rfl rfl rfl rfl rfl rfl (by simp [putL]) ?_)
      refine TO.quiet (q_assign rfl) ?_
      refine TO.nil (T.seq (T.seq (T.region ?_)))
      refine TO.quiet (q_move rfl) ?_
      refine TO.nil ?_
      refine T.cond1 rfl ?_
      refine T.seq (T.seq (T.region ?_))
      refine TO.quiet (q_move rfl) (TO.quiet (QT.toB (q_eql rfl rfl) (decide_eq_false (by omega))) (TO.quiet (q_move rfl) ?_))
      refine TO.guarded rfl rfl rfl (LT.of_quiet rfl rfl (q_fieldAddr Tryd.underlying25 rfl inf22 rfl rfl) ?_)
      refine TO.guarded rfl rfl rfl (LT.of_quiet rfl rfl (q_load_box 0 Tryd.underlying22 rfl rfl rfl rfl) ?_)
      refine TO.guarded rfl rfl rfl (LT.of_quiet rfl rfl (q_len Tryd.underlying22 rfl) ?_)
      refine TO.guarded rfl rfl rfl (LT.of_quiet rfl rfl (QT.toB (q_neq rfl rfl) (decide_eq_false (fun h => h rfl))) ?_)
      refine TO.quiet (q_pick0 rfl rfl) ?_
      refine TO.nil ?_
      refine T.cond0 rfl ?_
      refine T.skip ?_
      refine T.exit ?_
      refine T.region ?_
      refine TO.quiet (q_move rfl) (TO.quiet (q_addN (a := p) (b := 1) rfl rfl (by omega)) (TO.quiet (q_assign rfl) ?_))
      refine TO.nil ?_
      exact ⟨p + 1, by omega, [oI z2 25 (dC b jb), oI z1 25 (dC a ja)], (by exact Sub.d (.d (.k (.k .z)))), rfl, by omega, ⟨rfl, rfl, rfl, rfl, rfl, rfl, rfl, rfl, rfl, rfl, rfl, trivial⟩⟩
    have hge66 : ¬ p < 4 := by omega
    refine T.exit ?_
    refine T.seq (T.region ?_)
    refine TO.quiet (q_load_boxAgg 1 Tryd.underlying25 rfl inf25 rfl rfl rfl) ?_
    have hk149 := fun (w1 : World) (hI : Inv w [oI z2 25 (dC b jb), oI z1 25 (dC a ja)] w1) => (show PureT _ _ _ _ _ from by
        have h9 := notC w1 a ja (hI.atB ha) ha1 ha2 ha3 (fun _ => by have := sa.n8; omega)
        rw [emN] at h9
        exact h9)
    refine TO.loud rfl (l_call ent14 (CallT.of_pure hk149) rfl ?_)
    clear hk149
    rintro vr O' ⟨N, rfl, k8, rfl, rfl⟩
    refine TO.quiet (q_move rfl) (TO.quiet (q_extract (vs := _) rfl rfl) (TO.quiet (q_extract (vs := _) rfl rfl) ?_))
    refine TO.loud rfl (l_alloc inf25 rfl (fun z5 => ?_))
    refine TO.loud rfl (l_store_box (v := (dV mN k8)) (vs := (dC mN k8)) 0 inf25 rfl rfl rfl rfl rfl rfl (by simp [putL]) ?_)
    refine TO.quiet (q_assign rfl) ?_
    refine TO.nil (T.seq (T.region ?_))
    refine TO.quiet (q_load_boxAgg 0 Tryd.underlying25 rfl inf25 rfl rfl rfl) (TO.quiet (q_move rfl) ?_)
    have hk155 := fun (w1 : World) (hI : Inv w [oI z5 25 (dC mN k8), dI 52 4 3 mN k8, oI z2 25 (dC b jb), oI z1 25 (dC a ja)] w1) => acceptsA w1 mN k8.nb k8.fb k8.nc k8.fc (vals k8.qs) (hI.at (k := k8) (List.mem_of_getElem? (i := 1) rfl)) bN.1 bN.2.1 bN.2.2 wb wc o (hI.sl hW) hwb hw8
    refine TO.loud rfl (l_call ent19 (CallT.of_pure hk155) rfl ?_)
    clear hk155
    rintro vr O' ⟨N, rfl, rfl, rfl⟩
    refine TO.quiet (q_move rfl) (TO.quiet (q_extract (vs := _) rfl rfl) (TO.quiet (q_extract (vs := _) rfl rfl) (TO.quiet (q_assign rfl) ?_)))
    refine TO.quiet (q_assign rfl) ?_
    refine TO.nil (T.seq (T.region ?_))
    refine TO.quiet (q_move rfl) (TO.quiet (q_load_boxAgg 3 Tryd.underlying25 rfl inf25 rfl rfl rfl) ?_)
    have hk160 := fun (w1 : World) (hI : Inv w [oI z5 25 (dC mN k8), dI 52 4 3 mN k8, oI z2 25 (dC b jb), oI z1 25 (dC a ja)] w1) => subsetCheck w1 a ja.nb ja.fb ja.nc ja.fc (vals ja.qs) (hI.dfa ha) ha1 ha2 ha3
    refine TO.loud rfl (l_call ent20 (CallT.of_pure hk160) rfl ?_)
    clear hk160
    rintro vr O' ⟨N, rfl, rfl, rfl⟩
    refine TO.quiet (QT.toB (q_eql rfl rfl) (decide_eq_true rfl)) (TO.quiet (q_move rfl) ?_)
    refine TO.guarded rfl rfl rfl (LT.of_quiet rfl rfl (q_move rfl) ?_)
    refine TO.guarded rfl rfl rfl (LT.of_quiet rfl rfl (q_neq rfl rfl) ?_)
    by_cases hs165 : (checkD a : Int) ≠ 0
    · refine TO.guarded rfl rfl rfl (LT.of_quiet rfl rfl (QT.toB (q_move rfl) (decide_eq_true hs165)) ?_)
      refine TO.passed rfl rfl ?_
      refine TO.passed rfl rfl ?_
      refine TO.passed rfl rfl ?_
      refine TO.passed rfl rfl ?_
      refine TO.passed rfl rfl ?_
      refine TO.passed rfl rfl ?_
      refine TO.passed rfl rfl ?_
      refine TO.passed rfl rfl ?_
      refine TO.passed rfl rfl ?_
      refine TO.passed rfl rfl ?_
      refine TO.passed rfl rfl ?_
      refine TO.passed rfl rfl ?_
      refine TO.guarded rfl rfl rfl (LT.of_quiet rfl rfl (q_pick1 rfl rfl) ?_)
      refine TO.quiet (q_pick1 rfl rfl) (TO.quiet (q_assign rfl) ?_)
      refine TO.nil (T.ret (Res.drop ?_))
      refine Res.one (.bool true) Tryd.results4 rfl ?_
      exact ⟨[], Sub.z, rfl, rfl⟩
    refine TO.guarded rfl rfl rfl (LT.of_quiet rfl rfl (QT.toB (q_move rfl) (decide_eq_false hs165)) ?_)
    refine TO.guarded rfl rfl rfl (LT.of_quiet rfl rfl (q_move rfl) ?_)
    refine TO.guarded rfl rfl rfl (LT.of_quiet rfl rfl (q_move rfl) ?_)
    refine TO.guarded rfl rfl rfl (LT.of_quiet rfl rfl (QT.toB (q_eql rfl rfl) (decide_eq_true (by have := (wN (by omega)).1; omega))) ?_)
    refine TO.guarded rfl rfl rfl (LT.of_quiet rfl rfl (q_move rfl) ?_)
    refine TO.guarded rfl rfl rfl (LT.of_quiet rfl rfl (q_move rfl) ?_)
    refine TO.guarded rfl rfl rfl (LT.of_quiet rfl rfl (q_neq rfl rfl) ?_)
    by_cases hs172 : (runE a o : Int) ≠ 0
    · refine TO.guarded rfl rfl rfl (LT.of_quiet rfl rfl (QT.toB (q_move rfl) (decide_eq_true hs172)) ?_)
      refine TO.passed rfl rfl ?_
      refine TO.passed rfl rfl ?_
      refine TO.passed rfl rfl ?_
      refine TO.guarded rfl rfl rfl (LT.of_quiet rfl rfl (q_pick1 rfl rfl) ?_)
      refine TO.guarded rfl rfl rfl (LT.of_quiet rfl rfl (q_pick1 rfl rfl) ?_)
      refine TO.guarded rfl rfl rfl (LT.of_quiet rfl rfl (q_pick0 rfl rfl) ?_)
      refine TO.quiet (q_pick1 rfl rfl) (TO.quiet (q_assign rfl) ?_)
      refine TO.nil (T.ret (Res.drop ?_))
      refine Res.one (.bool true) Tryd.results4 rfl ?_
      exact ⟨[], Sub.z, rfl, rfl⟩
    refine TO.guarded rfl rfl rfl (LT.of_quiet rfl rfl (QT.toB (q_move rfl) (decide_eq_false hs172)) ?_)
    refine TO.guarded rfl rfl rfl (LT.of_quiet rfl rfl (q_move rfl) ?_)
    refine TO.guarded rfl rfl rfl (LT.of_quiet rfl rfl (q_move rfl) ?_)
    refine TO.guarded rfl rfl rfl (LT.of_quiet rfl rfl (QT.cast (q_bneq Tryd.underlying4 rfl rfl) (v' := .bool true) (by rw [(wN (by omega)).2 (by omega)]; cases accV a o <;> rfl)) ?_)
    refine TO.guarded rfl rfl rfl (LT.of_quiet rfl rfl (q_pick0 rfl rfl) ?_)
    refine TO.guarded rfl rfl rfl (LT.of_quiet rfl rfl (q_pick1 rfl rfl) ?_)
    refine TO.guarded rfl rfl rfl (LT.of_quiet rfl rfl (q_pick0 rfl rfl) ?_)
    refine TO.quiet (q_pick1 rfl rfl) (TO.quiet (q_assign rfl) ?_)
    refine TO.nil (T.ret (Res.drop ?_))
    refine Res.one (.bool true) Tryd.results4 rfl ?_
    exact ⟨[], Sub.z, rfl, rfl⟩
  refine TO.quiet (QT.toB (q_move rfl) (decide_eq_false hs53)) ?_
  refine TO.guarded rfl rfl rfl (LT.of_quiet rfl rfl (q_load_boxAgg 0 Tryd.underlying25 rfl inf25 rfl rfl rfl) ?_)
  have hk55 := fun (w1 : World) (hI : Inv w [oI z2 25 (dC b jb), oI z1 25 (dC a ja)] w1) => subsetCheck w1 b jb.nb jb.fb jb.nc jb.fc (vals jb.qs) (hI.dfa hb) hb1 hb2 hb3
  refine TO.guarded rfl rfl rfl (l_call ent20 (CallT.of_pure hk55) rfl ?_)
  clear hk55
  rintro vr O' ⟨N, rfl, rfl, rfl⟩
  refine TO.guarded rfl rfl rfl (LT.of_quiet rfl rfl (q_neq rfl rfl) ?_)
  refine TO.quiet (q_pick0 rfl rfl) ?_
  by_cases hs58 : (checkD b : Int) ≠ 0
  · refine TO.quiet (QT.toB (q_move rfl) (decide_eq_true hs58)) ?_
    refine TO.passed rfl rfl ?_
    refine TO.passed rfl rfl ?_
    refine TO.passed rfl rfl ?_
    refine TO.passed rfl rfl ?_
    refine TO.passed rfl rfl ?_
    refine TO.quiet (q_pick1 rfl rfl) (TO.quiet (q_assign rfl) ?_)
    refine TO.nil (T.seq (T.seq (T.region ?_)))
    refine TO.quiet (q_assign rfl) ?_
    refine TO.nil (T.block ?_)
    refine T.loopS (fun (p : Nat) ρ O => O = [oI z2 25 (dC b jb), oI z1 25 (dC a ja)] ∧ p ≤ 4 ∧ Heads [(0, (dV a ja)), (1, (dV b jb)), (2, (.slice wb o.length wc)), (3, (.pointer (some ⟨z1, 0, none⟩))), (4, (.pointer (some ⟨z2, 0, none⟩))), (7, .bool (accV a o)), (8, .int .i64 (runE a o : Int)), (9, .bool (accV b o)), (10, .int .i64 (runE b o : Int)), (11, .bool true), (12, .int .i64 ((p : Nat) : Int))] ρ) (fun p => 4 - p) 0 ?_ ?_
    · exact ⟨rfl, Nat.zero_le _, ⟨rfl, rfl, rfl, rfl, rfl, rfl, rfl, rfl, rfl, rfl, rfl, trivial⟩⟩
    rintro p ρ O ⟨rfl, hp, hH⟩
    obtain ⟨ρ0, rfl⟩ := hH.elim
    clear hH
    refine T.seq (T.seq (T.region ?_))
    refine TO.quiet (q_move rfl) (TO.quiet (q_lss rfl rfl) ?_)
    refine TO.nil ?_
    refine T.condP rfl (fun hc => ?_) (fun hc => ?_)
    · have hlt66 : p < 4 := by omega
      refine T.skip (T.seq (T.block (T.seq (T.region ?_))))
      refine TO.quiet (q_move rfl) (TO.quiet (q_load_boxAgg 1 Tryd.underlying25 rfl inf25 rfl rfl rfl) (TO.quiet (q_load_boxAgg 0 Tryd.underlying25 rfl inf25 rfl rfl rfl) ?_))
      have hk73 := fun (w1 : World) (hI : Inv w [oI z2 25 (dC b jb), oI z1 25 (dC a ja)] w1) => (show PureT _ _ _ _ _ from by
          have h9 := applyC w1 (p : Int) a b ja jb (hI.atB ha) (hI.atB hb) ha1 ha2 ha3 hb1 hb2 hb3 (sa.small sb)
          rw [opV_bad hw] at h9
          exact h9)
      refine TO.loud rfl (l_call ent18 (CallT.of_pure hk73) rfl ?_)
      clear hk73
      rintro vr O' ⟨N, rfl, k5, rfl, rfl⟩
      refine TO.quiet (q_move rfl) (TO.quiet (q_extract (vs := _) rfl rfl) (TO.quiet (q_extract (vs := _) rfl rfl) ?_))
      refine TO.loud rfl (l_alloc inf25 rfl (fun z6 => ?_))
      refine TO.loud rfl (l_store_box (v := (dV noD k5)) (vs := (dC noD k5)) 0 inf25 rfl rfl rfl rfl rfl rfl (by simp [putL]) ?_)
      refine TO.quiet (q_assign rfl) ?_
      refine TO.nil (T.seq (T.seq (T.region ?_)))
      refine TO.quiet (q_move rfl) ?_
      refine TO.nil ?_
      refine T.cond1 rfl ?_
      refine T.seq (T.seq (T.region ?_))
      refine TO.quiet (q_move rfl) (TO.quiet (QT.toB (q_eql rfl rfl) (decide_eq_false (by omega))) (TO.quiet (q_move rfl) ?_))
      refine TO.guarded rfl rfl rfl (LT.of_quiet rfl rfl (q_fieldAddr Tryd.underlying25 rfl inf22 rfl rfl) ?_)
      refine TO.guarded rfl rfl rfl (LT.of_quiet rfl rfl (q_load_box 0 Tryd.underlying22 rfl rfl rfl rfl) ?_)
      refine TO.guarded rfl rfl rfl (LT.of_quiet rfl rfl (q_len Tryd.underlying22 rfl) ?_)
      refine TO.guarded rfl rfl rfl (LT.of_quiet rfl rfl (QT.toB (q_neq rfl rfl) (decide_eq_false (fun h => h rfl))) ?_)
      refine TO.quiet (q_pick0 rfl rfl) ?_
      refine TO.nil ?_
      refine T.cond0 rfl ?_
      refine T.skip ?_
      refine T.exit ?_
      refine T.region ?_
      refine TO.quiet (q_move rfl) (TO.quiet (q_addN (a := p) (b := 1) rfl rfl (by omega)) (TO.quiet (q_assign rfl) ?_))
      refine TO.nil ?_
      exact ⟨p + 1, by omega, [oI z2 25 (dC b jb), oI z1 25 (dC a ja)], (by exact Sub.d (.d (.k (.k .z)))), rfl, by omega, ⟨rfl, rfl, rfl, rfl, rfl, rfl, rfl, rfl, rfl, rfl, rfl, trivial⟩⟩
    have hge66 : ¬ p < 4 := by omega
    refine T.exit ?_
    refine T.seq (T.region ?_)
    refine TO.quiet (q_load_boxAgg 1 Tryd.underlying25 rfl inf25 rfl rfl rfl) ?_
    have hk149 := fun (w1 : World) (hI : Inv w [oI z2 25 (dC b jb), oI z1 25 (dC a ja)] w1) => (show PureT _ _ _ _ _ from by
        have h9 := notC w1 a ja (hI.atB ha) ha1 ha2 ha3 (fun _ => by have := sa.n8; omega)
        rw [emN] at h9
        exact h9)
    refine TO.loud rfl (l_call ent14 (CallT.of_pure hk149) rfl ?_)
    clear hk149
    rintro vr O' ⟨N, rfl, k8, rfl, rfl⟩
    refine TO.quiet (q_move rfl) (TO.quiet (q_extract (vs := _) rfl rfl) (TO.quiet (q_extract (vs := _) rfl rfl) ?_))
    refine TO.loud rfl (l_alloc inf25 rfl (fun z7 => ?_))
    refine TO.loud rfl (l_store_box (v := (dV mN k8)) (vs := (dC mN k8)) 0 inf25 rfl rfl rfl rfl rfl rfl (by simp [putL]) ?_)
    refine TO.quiet (q_assign rfl) ?_
    refine TO.nil (T.seq (T.region ?_))
    refine TO.quiet (q_load_boxAgg 0 Tryd.underlying25 rfl inf25 rfl rfl rfl) (TO.quiet (q_move rfl) ?_)
    have hk155 := fun (w1 : World) (hI : Inv w [oI z7 25 (dC mN k8), dI 52 4 3 mN k8, oI z2 25 (dC b jb), oI z1 25 (dC a ja)] w1) => acceptsA w1 mN k8.nb k8.fb k8.nc k8.fc (vals k8.qs) (hI.at (k := k8) (List.mem_of_getElem? (i := 1) rfl)) bN.1 bN.2.1 bN.2.2 wb wc o (hI.sl hW) hwb hw8
    refine TO.loud rfl (l_call ent19 (CallT.of_pure hk155) rfl ?_)
    clear hk155
    rintro vr O' ⟨N, rfl, rfl, rfl⟩
    refine TO.quiet (q_move rfl) (TO.quiet (q_extract (vs := _) rfl rfl) (TO.quiet (q_extract (vs := _) rfl rfl) (TO.quiet (q_assign rfl) ?_)))
    refine TO.quiet (q_assign rfl) ?_
    refine TO.nil (T.seq (T.region ?_))
    refine TO.quiet (q_move rfl) (TO.quiet (q_load_boxAgg 3 Tryd.underlying25 rfl inf25 rfl rfl rfl) ?_)
    have hk160 := fun (w1 : World) (hI : Inv w [oI z7 25 (dC mN k8), dI 52 4 3 mN k8, oI z2 25 (dC b jb), oI z1 25 (dC a ja)] w1) => subsetCheck w1 a ja.nb ja.fb ja.nc ja.fc (vals ja.qs) (hI.dfa ha) ha1 ha2 ha3
    refine TO.loud rfl (l_call ent20 (CallT.of_pure hk160) rfl ?_)
    clear hk160
    rintro vr O' ⟨N, rfl, rfl, rfl⟩
    refine TO.quiet (QT.toB (q_eql rfl rfl) (decide_eq_true rfl)) (TO.quiet (q_move rfl) ?_)
    refine TO.guarded rfl rfl rfl (LT.of_quiet rfl rfl (q_move rfl) ?_)
    refine TO.guarded rfl rfl rfl (LT.of_quiet rfl rfl (q_neq rfl rfl) ?_)
    by_cases hs165 : (checkD a : Int) ≠ 0
    · refine TO.guarded rfl rfl rfl (LT.of_quiet rfl rfl (QT.toB (q_move rfl) (decide_eq_true hs165)) ?_)
      refine TO.passed rfl rfl ?_
      refine TO.passed rfl rfl ?_
      refine TO.passed rfl rfl ?_
      refine TO.passed rfl rfl ?_
      refine TO.passed rfl rfl ?_
      refine TO.passed rfl rfl ?_
      refine TO.passed rfl rfl ?_
      refine TO.passed rfl rfl ?_
      refine TO.passed rfl rfl ?_
      refine TO.passed rfl rfl ?_
      refine TO.passed rfl rfl ?_
      refine TO.passed rfl rfl ?_
      refine TO.guarded rfl rfl rfl (LT.of_quiet rfl rfl (q_pick1 rfl rfl) ?_)
      refine TO.quiet (q_pick1 rfl rfl) (TO.quiet (q_assign rfl) ?_)
      refine TO.nil (T.ret (Res.drop ?_))
      refine Res.one (.bool true) Tryd.results4 rfl ?_
      exact ⟨[], Sub.z, rfl, rfl⟩
    refine TO.guarded rfl rfl rfl (LT.of_quiet rfl rfl (QT.toB (q_move rfl) (decide_eq_false hs165)) ?_)
    refine TO.guarded rfl rfl rfl (LT.of_quiet rfl rfl (q_move rfl) ?_)
    refine TO.guarded rfl rfl rfl (LT.of_quiet rfl rfl (q_move rfl) ?_)
    refine TO.guarded rfl rfl rfl (LT.of_quiet rfl rfl (QT.toB (q_eql rfl rfl) (decide_eq_true (by have := (wN (by omega)).1; omega))) ?_)
    refine TO.guarded rfl rfl rfl (LT.of_quiet rfl rfl (q_move rfl) ?_)
    refine TO.guarded rfl rfl rfl (LT.of_quiet rfl rfl (q_move rfl) ?_)
    refine TO.guarded rfl rfl rfl (LT.of_quiet rfl rfl (q_neq rfl rfl) ?_)
    by_cases hs172 : (runE a o : Int) ≠ 0
    · refine TO.guarded rfl rfl rfl (LT.of_quiet rfl rfl (QT.toB (q_move rfl) (decide_eq_true hs172)) ?_)
      refine TO.passed rfl rfl ?_
      refine TO.passed rfl rfl ?_
      refine TO.passed rfl rfl ?_
      refine TO.guarded rfl rfl rfl (LT.of_quiet rfl rfl (q_pick1 rfl rfl) ?_)
      refine TO.guarded rfl rfl rfl (LT.of_quiet rfl rfl (q_pick1 rfl rfl) ?_)
      refine TO.guarded rfl rfl rfl (LT.of_quiet rfl rfl (q_pick0 rfl rfl) ?_)
      refine TO.quiet (q_pick1 rfl rfl) (TO.quiet (q_assign rfl) ?_)
      refine TO.nil (T.ret (Res.drop ?_))
      refine Res.one (.bool true) Tryd.results4 rfl ?_
      exact ⟨[], Sub.z, rfl, rfl⟩
    refine TO.guarded rfl rfl rfl (LT.of_quiet rfl rfl (QT.toB (q_move rfl) (decide_eq_false hs172)) ?_)
    refine TO.guarded rfl rfl rfl (LT.of_quiet rfl rfl (q_move rfl) ?_)
    refine TO.guarded rfl rfl rfl (LT.of_quiet rfl rfl (q_move rfl) ?_)
    refine TO.guarded rfl rfl rfl (LT.of_quiet rfl rfl (QT.cast (q_bneq Tryd.underlying4 rfl rfl) (v' := .bool true) (by rw [(wN (by omega)).2 (by omega)]; cases accV a o <;> rfl)) ?_)
    refine TO.guarded rfl rfl rfl (LT.of_quiet rfl rfl (q_pick0 rfl rfl) ?_)
    refine TO.guarded rfl rfl rfl (LT.of_quiet rfl rfl (q_pick1 rfl rfl) ?_)
    refine TO.guarded rfl rfl rfl (LT.of_quiet rfl rfl (q_pick0 rfl rfl) ?_)
    refine TO.quiet (q_pick1 rfl rfl) (TO.quiet (q_assign rfl) ?_)
    refine TO.nil (T.ret (Res.drop ?_))
    refine Res.one (.bool true) Tryd.results4 rfl ?_
    exact ⟨[], Sub.z, rfl, rfl⟩
  refine TO.quiet (QT.toB (q_move rfl) (decide_eq_false hs58)) ?_
  refine TO.guarded rfl rfl rfl (LT.of_quiet rfl rfl (q_fieldAddr Tryd.underlying25 rfl inf3 rfl rfl) ?_)
  refine TO.guarded rfl rfl rfl (LT.of_quiet rfl rfl (q_load_box 1 Tryd.underlying3 rfl rfl rfl rfl) ?_)
  refine TO.guarded rfl rfl rfl (LT.of_quiet rfl rfl (q_fieldAddr Tryd.underlying25 rfl inf3 rfl rfl) ?_)
  refine TO.guarded rfl rfl rfl (LT.of_quiet rfl rfl (q_load_box 0 Tryd.underlying3 rfl rfl rfl rfl) ?_)
  refine TO.guarded rfl rfl rfl (LT.of_quiet rfl rfl (QT.toB (q_neq rfl rfl) (decide_eq_true (fun h => hw (wrongD_zero.2 ⟨checkD_zero.1 (by omega), checkD_zero.1 (by omega), h⟩)))) ?_)
  refine TO.quiet (q_pick0 rfl rfl) (TO.quiet (q_assign rfl) ?_)
  refine TO.nil (T.seq (T.seq (T.region ?_)))
  refine TO.quiet (q_assign rfl) ?_
  refine TO.nil (T.block ?_)
  refine T.loopS (fun (p : Nat) ρ O => O = [oI z2 25 (dC b jb), oI z1 25 (dC a ja)] ∧ p ≤ 4 ∧ Heads [(0, (dV a ja)), (1, (dV b jb)), (2, (.slice wb o.length wc)), (3, (.pointer (some ⟨z1, 0, none⟩))), (4, (.pointer (some ⟨z2, 0, none⟩))), (7, .bool (accV a o)), (8, .int .i64 (runE a o : Int)), (9, .bool (accV b o)), (10, .int .i64 (runE b o : Int)), (11, .bool true), (12, .int .i64 ((p : Nat) : Int))] ρ) (fun p => 4 - p) 0 ?_ ?_
  · exact ⟨rfl, Nat.zero_le _, ⟨rfl, rfl, rfl, rfl, rfl, rfl, rfl, rfl, rfl, rfl, rfl, trivial⟩⟩
  rintro p ρ O ⟨rfl, hp, hH⟩
  obtain ⟨ρ0, rfl⟩ := hH.elim
  clear hH
  refine T.seq (T.seq (T.region ?_))
  refine TO.quiet (q_move rfl) (TO.quiet (q_lss rfl rfl) ?_)
  refine TO.nil ?_
  refine T.condP rfl (fun hc => ?_) (fun hc => ?_)
  · have hlt66 : p < 4 := by omega
    refine T.skip (T.seq (T.block (T.seq (T.region ?_))))
    refine TO.quiet (q_move rfl) (TO.quiet (q_load_boxAgg 1 Tryd.underlying25 rfl inf25 rfl rfl rfl) (TO.quiet (q_load_boxAgg 0 Tryd.underlying25 rfl inf25 rfl rfl rfl) ?_))
    have hk73 := fun (w1 : World) (hI : Inv w [oI z2 25 (dC b jb), oI z1 25 (dC a ja)] w1) => (show PureT _ _ _ _ _ from by
        have h9 := applyC w1 (p : Int) a b ja jb (hI.atB ha) (hI.atB hb) ha1 ha2 ha3 hb1 hb2 hb3 (sa.small sb)
        rw [opV_bad hw] at h9
        exact h9)
    refine TO.loud rfl (l_call ent18 (CallT.of_pure hk73) rfl ?_)
    clear hk73
    rintro vr O' ⟨N, rfl, k5, rfl, rfl⟩
    refine TO.quiet (q_move rfl) (TO.quiet (q_extract (vs := _) rfl rfl) (TO.quiet (q_extract (vs := _) rfl rfl) ?_))
    refine TO.loud rfl (l_alloc inf25 rfl (fun z8 => ?_))
    refine TO.loud rfl (l_store_box (v := (dV noD k5)) (vs := (dC noD k5)) 0 inf25 rfl rfl rfl rfl rfl rfl (by simp [putL]) ?_)
    refine TO.quiet (q_assign rfl) ?_
    refine TO.nil (T.seq (T.seq (T.region ?_)))
    refine TO.quiet (q_move rfl) ?_
    refine TO.nil ?_
    refine T.cond1 rfl ?_
    refine T.seq (T.seq (T.region ?_))
    refine TO.quiet (q_move rfl) (TO.quiet (QT.toB (q_eql rfl rfl) (decide_eq_false (by omega))) (TO.quiet (q_move rfl) ?_))
    refine TO.guarded rfl rfl rfl (LT.of_quiet rfl rfl (q_fieldAddr Tryd.underlying25 rfl inf22 rfl rfl) ?_)
    refine TO.guarded rfl rfl rfl (LT.of_quiet rfl rfl (q_load_box 0 Tryd.underlying22 rfl rfl rfl rfl) ?_)
    refine TO.guarded rfl rfl rfl (LT.of_quiet rfl rfl (q_len Tryd.underlying22 rfl) ?_)
    refine TO.guarded rfl rfl rfl (LT.of_quiet rfl rfl (QT.toB (q_neq rfl rfl) (decide_eq_false (fun h => h rfl))) ?_)
    refine TO.quiet (q_pick0 rfl rfl) ?_
    refine TO.nil ?_
    refine T.cond0 rfl ?_
    refine T.skip ?_
    refine T.exit ?_
    refine T.region ?_
    refine TO.quiet (q_move rfl) (TO.quiet (q_addN (a := p) (b := 1) rfl rfl (by omega)) (TO.quiet (q_assign rfl) ?_))
    refine TO.nil ?_
    exact ⟨p + 1, by omega, [oI z2 25 (dC b jb), oI z1 25 (dC a ja)], (by exact Sub.d (.d (.k (.k .z)))), rfl, by omega, ⟨rfl, rfl, rfl, rfl, rfl, rfl, rfl, rfl, rfl, rfl, rfl, trivial⟩⟩
  have hge66 : ¬ p < 4 := by omega
  refine T.exit ?_
  refine T.seq (T.region ?_)
  refine TO.quiet (q_load_boxAgg 1 Tryd.underlying25 rfl inf25 rfl rfl rfl) ?_
  have hk149 := fun (w1 : World) (hI : Inv w [oI z2 25 (dC b jb), oI z1 25 (dC a ja)] w1) => (show PureT _ _ _ _ _ from by
      have h9 := notC w1 a ja (hI.atB ha) ha1 ha2 ha3 (fun _ => by have := sa.n8; omega)
      rw [emN] at h9
      exact h9)
  refine TO.loud rfl (l_call ent14 (CallT.of_pure hk149) rfl ?_)
  clear hk149
  rintro vr O' ⟨N, rfl, k8, rfl, rfl⟩
  refine TO.quiet (q_move rfl) (TO.quiet (q_extract (vs := _) rfl rfl) (TO.quiet (q_extract (vs := _) rfl rfl) ?_))
  refine TO.loud rfl (l_alloc inf25 rfl (fun z9 => ?_))
  refine TO.loud rfl (l_store_box (v := (dV mN k8)) (vs := (dC mN k8)) 0 inf25 rfl rfl rfl rfl rfl rfl (by simp [putL]) ?_)
  refine TO.quiet (q_assign rfl) ?_
  refine TO.nil (T.seq (T.region ?_))
  refine TO.quiet (q_load_boxAgg 0 Tryd.underlying25 rfl inf25 rfl rfl rfl) (TO.quiet (q_move rfl) ?_)
  have hk155 := fun (w1 : World) (hI : Inv w [oI z9 25 (dC mN k8), dI 52 4 3 mN k8, oI z2 25 (dC b jb), oI z1 25 (dC a ja)] w1) => acceptsA w1 mN k8.nb k8.fb k8.nc k8.fc (vals k8.qs) (hI.at (k := k8) (List.mem_of_getElem? (i := 1) rfl)) bN.1 bN.2.1 bN.2.2 wb wc o (hI.sl hW) hwb hw8
  refine TO.loud rfl (l_call ent19 (CallT.of_pure hk155) rfl ?_)
  clear hk155
  rintro vr O' ⟨N, rfl, rfl, rfl⟩
  refine TO.quiet (q_move rfl) (TO.quiet (q_extract (vs := _) rfl rfl) (TO.quiet (q_extract (vs := _) rfl rfl) (TO.quiet (q_assign rfl) ?_)))
  refine TO.quiet (q_assign rfl) ?_
  refine TO.nil (T.seq (T.region ?_))
  refine TO.quiet (q_move rfl) (TO.quiet (q_load_boxAgg 3 Tryd.underlying25 rfl inf25 rfl rfl rfl) ?_)
  have hk160 := fun (w1 : World) (hI : Inv w [oI z9 25 (dC mN k8), dI 52 4 3 mN k8, oI z2 25 (dC b jb), oI z1 25 (dC a ja)] w1) => subsetCheck w1 a ja.nb ja.fb ja.nc ja.fc (vals ja.qs) (hI.dfa ha) ha1 ha2 ha3
  refine TO.loud rfl (l_call ent20 (CallT.of_pure hk160) rfl ?_)
  clear hk160
  rintro vr O' ⟨N, rfl, rfl, rfl⟩
  refine TO.quiet (QT.toB (q_eql rfl rfl) (decide_eq_true rfl)) (TO.quiet (q_move rfl) ?_)
  refine TO.guarded rfl rfl rfl (LT.of_quiet rfl rfl (q_move rfl) ?_)
  refine TO.guarded rfl rfl rfl (LT.of_quiet rfl rfl (q_neq rfl rfl) ?_)
  by_cases hs165 : (checkD a : Int) ≠ 0
  · refine TO.guarded rfl rfl rfl (LT.of_quiet rfl rfl (QT.toB (q_move rfl) (decide_eq_true hs165)) ?_)
    refine TO.passed rfl rfl ?_
    refine TO.passed rfl rfl ?_
    refine TO.passed rfl rfl ?_
    refine TO.passed rfl rfl ?_
    refine TO.passed rfl rfl ?_
    refine TO.passed rfl rfl ?_
    refine TO.passed rfl rfl ?_
    refine TO.passed rfl rfl ?_
    refine TO.passed rfl rfl ?_
    refine TO.passed rfl rfl ?_
    refine TO.passed rfl rfl ?_
    refine TO.passed rfl rfl ?_
    refine TO.guarded rfl rfl rfl (LT.of_quiet rfl rfl (q_pick1 rfl rfl) ?_)
    refine TO.quiet (q_pick1 rfl rfl) (TO.quiet (q_assign rfl) ?_)
    refine TO.nil (T.ret (Res.drop ?_))
    refine Res.one (.bool true) Tryd.results4 rfl ?_
    exact ⟨[], Sub.z, rfl, rfl⟩
  refine TO.guarded rfl rfl rfl (LT.of_quiet rfl rfl (QT.toB (q_move rfl) (decide_eq_false hs165)) ?_)
  refine TO.guarded rfl rfl rfl (LT.of_quiet rfl rfl (q_move rfl) ?_)
  refine TO.guarded rfl rfl rfl (LT.of_quiet rfl rfl (q_move rfl) ?_)
  refine TO.guarded rfl rfl rfl (LT.of_quiet rfl rfl (QT.toB (q_eql rfl rfl) (decide_eq_true (by have := (wN (by omega)).1; omega))) ?_)
  refine TO.guarded rfl rfl rfl (LT.of_quiet rfl rfl (q_move rfl) ?_)
  refine TO.guarded rfl rfl rfl (LT.of_quiet rfl rfl (q_move rfl) ?_)
  refine TO.guarded rfl rfl rfl (LT.of_quiet rfl rfl (q_neq rfl rfl) ?_)
  by_cases hs172 : (runE a o : Int) ≠ 0
  · refine TO.guarded rfl rfl rfl (LT.of_quiet rfl rfl (QT.toB (q_move rfl) (decide_eq_true hs172)) ?_)
    refine TO.passed rfl rfl ?_
    refine TO.passed rfl rfl ?_
    refine TO.passed rfl rfl ?_
    refine TO.guarded rfl rfl rfl (LT.of_quiet rfl rfl (q_pick1 rfl rfl) ?_)
    refine TO.guarded rfl rfl rfl (LT.of_quiet rfl rfl (q_pick1 rfl rfl) ?_)
    refine TO.guarded rfl rfl rfl (LT.of_quiet rfl rfl (q_pick0 rfl rfl) ?_)
    refine TO.quiet (q_pick1 rfl rfl) (TO.quiet (q_assign rfl) ?_)
    refine TO.nil (T.ret (Res.drop ?_))
    refine Res.one (.bool true) Tryd.results4 rfl ?_
    exact ⟨[], Sub.z, rfl, rfl⟩
  refine TO.guarded rfl rfl rfl (LT.of_quiet rfl rfl (QT.toB (q_move rfl) (decide_eq_false hs172)) ?_)
  refine TO.guarded rfl rfl rfl (LT.of_quiet rfl rfl (q_move rfl) ?_)
  refine TO.guarded rfl rfl rfl (LT.of_quiet rfl rfl (q_move rfl) ?_)
  refine TO.guarded rfl rfl rfl (LT.of_quiet rfl rfl (QT.cast (q_bneq Tryd.underlying4 rfl rfl) (v' := .bool true) (by rw [(wN (by omega)).2 (by omega)]; cases accV a o <;> rfl)) ?_)
  refine TO.guarded rfl rfl rfl (LT.of_quiet rfl rfl (q_pick0 rfl rfl) ?_)
  refine TO.guarded rfl rfl rfl (LT.of_quiet rfl rfl (q_pick1 rfl rfl) ?_)
  refine TO.guarded rfl rfl rfl (LT.of_quiet rfl rfl (q_pick0 rfl rfl) ?_)
  refine TO.quiet (q_pick1 rfl rfl) (TO.quiet (q_assign rfl) ?_)
  refine TO.nil (T.ret (Res.drop ?_))
  refine Res.one (.bool true) Tryd.results4 rfl ?_
  exact ⟨[], Sub.z, rfl, rfl⟩
set_option maxHeartbeats 4000000 in
set_option maxRecDepth 20000 in
theorem wordsOk (w : World) (a : DFA) (ja : DK) (ha : At w a ja) (ha1 : a.next.length < 9223372036854775807) (ha2 : ∀ r ∈ a.next, r.length < 9223372036854775807) (ha3 : a.final.length < 9223372036854775807) (b : DFA) (jb : DK) (hb : At w b jb) (hb1 : b.next.length < 9223372036854775807) (hb2 : ∀ r ∈ b.next, r.length < 9223372036854775807) (hb3 : b.final.length < 9223372036854775807) (wb : Option Addr) (wc : Nat) (o : List Nat) (hW : Sl w wb (byts o)) (hwb : o.length < 9223372036854775807) (hw8 : ∀ x ∈ o, x < 256) (hw : wrongD a b = 0) :
    PureT Tryd.prog 4 [dV a ja, dV b jb, .slice wb o.length wc] w fun v N => v = .bool true ∧ N = [] := by
  refine CallT.enter Tryd.func4 rfl Tryd.ntmps4 rfl ?_
  refine T.seq (T.region ?_)
  refine TO.loud rfl (l_box (v := (dV a ja)) (cs := (dC a ja)) rfl rfl (fun z1 => ?_))
  refine TO.loud rfl (l_box (v := (dV b jb)) (cs := (dC b jb)) rfl rfl (fun z2 => ?_))
  refine TO.quiet (q_assign rfl) ?_
  refine TO.nil (T.seq (T.seq (T.region ?_)))
  refine TO.quiet (q_load_boxAgg 1 Tryd.underlying25 rfl inf25 rfl rfl rfl) (TO.quiet (q_load_boxAgg 0 Tryd.underlying25 rfl inf25 rfl rfl rfl) ?_)
  refine TO.loud rfl (l_buildSlice (m := 2) (parts := [(0, _), (1, _)]) (cs := [(.int .i64 a.vars), (.int .i64 a.start), (.slice ja.nb a.next.length ja.nc), (.slice ja.fb a.final.length ja.fc), (.int .i64 b.vars), (.int .i64 b.start), (.slice jb.nb b.next.length jb.nc), (.slice jb.fb b.final.length jb.fc)]) Tryd.underlying48 inf25 (by decide) (by kernel_rfl) rfl (fun z3 => ?_))
  have hk27 := fun (w1 : World) (hI : Inv w [rowI (some ⟨z3, 0, none⟩) 2 25 4 [(.int .i64 a.vars), (.int .i64 a.start), (.slice ja.nb a.next.length ja.nc), (.slice ja.fb a.final.length ja.fc), (.int .i64 b.vars), (.int .i64 b.start), (.slice jb.nb b.next.length jb.nc), (.slice jb.fb b.final.length jb.fc)], oI z2 25 (dC b jb), oI z1 25 (dC a ja)] w1) => long2 w1 (some ⟨z3, 0, none⟩) a b ja jb (hI.slOf (List.mem_of_getElem? (i := 0) rfl)) (hI.atB ha) (hI.atB hb) ha1 hb1
  refine TO.loud rfl (l_call ent10 (CallT.of_pure hk27) rfl ?_)
  clear hk27
  rintro vr O' ⟨N, rfl, rfl, rfl⟩
  by_cases hs28 : (longB [a, b]) = true
  · refine TO.quiet (QT.toB (q_move rfl) (hs28)) ?_
    refine TO.passed rfl rfl ?_
    refine TO.passed rfl rfl ?_
    refine TO.passed rfl rfl ?_
    refine TO.quiet (q_pick1 rfl rfl) (TO.quiet (q_move rfl) ?_)
    refine TO.passed rfl rfl ?_
    refine TO.passed rfl rfl ?_
    refine TO.quiet (q_pick1 rfl rfl) ?_
    refine TO.sub (O' := [oI z2 25 (dC b jb), oI z1 25 (dC a ja)]) (by exact Sub.d (.k (.k .z))) ?_
    refine TO.nil ?_
    refine T.cond1 rfl ?_
    refine T.seq (T.region ?_)
    have hk37 := fun (w1 : World) (hI : Inv w [oI z2 25 (dC b jb), oI z1 25 (dC a ja)] w1) => awakeC w1
    refine TO.loud rfl (l_call ent11 (CallT.of_pure hk37) rfl ?_)
    clear hk37
    rintro vr O' ⟨N, rfl, rfl, rfl⟩
    refine TO.quiet (q_assign rfl) ?_
    refine TO.nil (T.ret (Res.drop ?_))
    refine Res.one (.bool true) Tryd.results4 rfl ?_
    exact ⟨[], Sub.z, rfl, rfl⟩
  refine TO.quiet (QT.toB (q_move rfl) (Bool.eq_false_iff.2 hs28)) ?_
  refine TO.guarded rfl rfl rfl (LT.of_quiet rfl rfl (q_move rfl) ?_)
  refine TO.guarded rfl rfl rfl (LT.of_quiet rfl rfl (q_len Tryd.underlying35 rfl) ?_)
  refine TO.guarded rfl rfl rfl (LT.of_quiet rfl rfl (q_gtr rfl rfl) ?_)
  refine TO.quiet (q_pick0 rfl rfl) ?_
  by_cases hs33 : (o.length : Int) > 100
  · refine TO.quiet (QT.toB (q_move rfl) (decide_eq_true hs33)) ?_
    refine TO.passed rfl rfl ?_
    refine TO.passed rfl rfl ?_
    refine TO.quiet (q_pick1 rfl rfl) ?_
    refine TO.sub (O' := [oI z2 25 (dC b jb), oI z1 25 (dC a ja)]) (by exact Sub.d (.k (.k .z))) ?_
    refine TO.nil ?_
    refine T.cond1 rfl ?_
    refine T.seq (T.region ?_)
    have hk37 := fun (w1 : World) (hI : Inv w [oI z2 25 (dC b jb), oI z1 25 (dC a ja)] w1) => awakeC w1
    refine TO.loud rfl (l_call ent11 (CallT.of_pure hk37) rfl ?_)
    clear hk37
    rintro vr O' ⟨N, rfl, rfl, rfl⟩
    refine TO.quiet (q_assign rfl) ?_
    refine TO.nil (T.ret (Res.drop ?_))
    refine Res.one (.bool true) Tryd.results4 rfl ?_
    exact ⟨[], Sub.z, rfl, rfl⟩
  refine TO.quiet (QT.toB (q_move rfl) (decide_eq_false hs33)) ?_
  have hk34 := fun (w1 : World) (hI : Inv w [rowI (some ⟨z3, 0, none⟩) 2 25 4 [(.int .i64 a.vars), (.int .i64 a.start), (.slice ja.nb a.next.length ja.nc), (.slice ja.fb a.final.length ja.fc), (.int .i64 b.vars), (.int .i64 b.start), (.slice jb.nb b.next.length jb.nc), (.slice jb.fb b.final.length jb.fc)], oI z2 25 (dC b jb), oI z1 25 (dC a ja)] w1) => awakeC w1
  refine TO.guarded rfl rfl rfl (l_call ent11 (CallT.of_pure hk34) rfl ?_)
  clear hk34
  rintro vr O' ⟨N, rfl, rfl, rfl⟩
  refine TO.guarded rfl rfl rfl (LT.of_quiet rfl rfl (q_not rfl) ?_)
  refine TO.quiet (q_pick0 rfl rfl) ?_
  refine TO.sub (O' := [oI z2 25 (dC b jb), oI z1 25 (dC a ja)]) (by exact Sub.d (.k (.k .z))) ?_
  refine TO.nil ?_
  refine T.cond0 rfl ?_
  refine T.skip (T.seq ?_)
  obtain ⟨sa, sb⟩ := longB_two (by simpa using hs28)
  have ba : a.next.length < 9223372036854775807 ∧ (∀ r ∈ a.next, r.length < 9223372036854775807) ∧ a.final.length < 9223372036854775807 := ⟨ha1, ha2, ha3⟩
  have bb : b.next.length < 9223372036854775807 ∧ (∀ r ∈ b.next, r.length < 9223372036854775807) ∧ b.final.length < 9223372036854775807 := ⟨hb1, hb2, hb3⟩
  obtain ⟨mN, emN⟩ : ∃ m, opV notB a a = m := ⟨_, rfl⟩
  have bN := opV_bounds (f := notB) (a := a) (b := a) (fun _ => by have := sa.mul sa; omega)
  rw [emN] at bN
  have wN := fun hc9 => words_not sa hc9 emN o
  obtain ⟨va, vb, hv⟩ := wrongD_zero.1 hw
  have ca := checkD_zero.2 va
  have cb := checkD_zero.2 vb
  have Ha : HasL a.vars 8 a (acc a) := sa.has va
  have Hb : HasL a.vars 8 b (acc b) := by rw [hv]; exact sb.has vb
  have eab := both_runE va vb hv o
  refine T.region ?_
  refine TO.quiet (q_load_boxAgg 1 Tryd.underlying25 rfl inf25 rfl rfl rfl) (TO.quiet (q_move rfl) ?_)
  have hk41 := fun (w1 : World) (hI : Inv w [oI z2 25 (dC b jb), oI z1 25 (dC a ja)] w1) => acceptsA w1 a ja.nb ja.fb ja.nc ja.fc (vals ja.qs) (hI.atB ha) ba.1 ba.2.1 ba.2.2 wb wc o (hI.sl hW) hwb hw8
  refine TO.loud rfl (l_call ent19 (CallT.of_pure hk41) rfl ?_)
  clear hk41
  rintro vr O' ⟨N, rfl, rfl, rfl⟩
  refine TO.quiet (q_move rfl) (TO.quiet (q_extract (vs := _) rfl rfl) (TO.quiet (q_extract (vs := _) rfl rfl) (TO.quiet (q_assign rfl) ?_)))
  refine TO.quiet (q_assign rfl) ?_
  refine TO.nil (T.seq (T.region ?_))
  refine TO.quiet (q_load_boxAgg 0 Tryd.underlying25 rfl inf25 rfl rfl rfl) (TO.quiet (q_move rfl) ?_)
  have hk47 := fun (w1 : World) (hI : Inv w [oI z2 25 (dC b jb), oI z1 25 (dC a ja)] w1) => acceptsA w1 b jb.nb jb.fb jb.nc jb.fc (vals jb.qs) (hI.atB hb) bb.1 bb.2.1 bb.2.2 wb wc o (hI.sl hW) hwb hw8
  refine TO.loud rfl (l_call ent19 (CallT.of_pure hk47) rfl ?_)
  clear hk47
  rintro vr O' ⟨N, rfl, rfl, rfl⟩
  refine TO.quiet (q_move rfl) (TO.quiet (q_extract (vs := _) rfl rfl) (TO.quiet (q_extract (vs := _) rfl rfl) (TO.quiet (q_assign rfl) ?_)))
  refine TO.quiet (q_assign rfl) ?_
  refine TO.nil (T.seq (T.region ?_))
  refine TO.quiet (q_load_boxAgg 1 Tryd.underlying25 rfl inf25 rfl rfl rfl) ?_
  have hk51 := fun (w1 : World) (hI : Inv w [oI z2 25 (dC b jb), oI z1 25 (dC a ja)] w1) => subsetCheck w1 a ja.nb ja.fb ja.nc ja.fc (vals ja.qs) (hI.dfa ha) ha1 ha2 ha3
  refine TO.loud rfl (l_call ent20 (CallT.of_pure hk51) rfl ?_)
  clear hk51
  rintro vr O' ⟨N, rfl, rfl, rfl⟩
  refine TO.quiet (QT.toB (q_neq rfl rfl) (decide_eq_false (by omega))) (TO.quiet (q_move rfl) ?_)
  refine TO.guarded rfl rfl rfl (LT.of_quiet rfl rfl (q_load_boxAgg 0 Tryd.underlying25 rfl inf25 rfl rfl rfl) ?_)
  have hk55 := fun (w1 : World) (hI : Inv w [oI z2 25 (dC b jb), oI z1 25 (dC a ja)] w1) => subsetCheck w1 b jb.nb jb.fb jb.nc jb.fc (vals jb.qs) (hI.dfa hb) hb1 hb2 hb3
  refine TO.guarded rfl rfl rfl (l_call ent20 (CallT.of_pure hk55) rfl ?_)
  clear hk55
  rintro vr O' ⟨N, rfl, rfl, rfl⟩
  refine TO.guarded rfl rfl rfl (LT.of_quiet rfl rfl (QT.toB (q_neq rfl rfl) (decide_eq_false (by omega))) ?_)
  refine TO.quiet (q_pick0 rfl rfl) (TO.quiet (q_move rfl) ?_)
  refine TO.guarded rfl rfl rfl (LT.of_quiet rfl rfl (q_fieldAddr Tryd.underlying25 rfl inf3 rfl rfl) ?_)
  refine TO.guarded rfl rfl rfl (LT.of_quiet rfl rfl (q_load_box 1 Tryd.underlying3 rfl rfl rfl rfl) ?_)
  refine TO.guarded rfl rfl rfl (LT.of_quiet rfl rfl (q_fieldAddr Tryd.underlying25 rfl inf3 rfl rfl) ?_)
  refine TO.guarded rfl rfl rfl (LT.of_quiet rfl rfl (q_load_box 0 Tryd.underlying3 rfl rfl rfl rfl) ?_)
  refine TO.guarded rfl rfl rfl (LT.of_quiet rfl rfl (QT.toB (q_neq rfl rfl) (decide_eq_false (fun h => h hv))) ?_)
  refine TO.quiet (q_pick0 rfl rfl) (TO.quiet (q_assign rfl) ?_)
  refine TO.nil (T.seq (T.seq (T.region ?_)))
  refine TO.quiet (q_assign rfl) ?_
  refine TO.nil (T.block ?_)
  refine T.loopS (fun (p : Nat) ρ O => O = [oI z2 25 (dC b jb), oI z1 25 (dC a ja)] ∧ p ≤ 4 ∧ Heads [(0, (dV a ja)), (1, (dV b jb)), (2, (.slice wb o.length wc)), (3, (.pointer (some ⟨z1, 0, none⟩))), (4, (.pointer (some ⟨z2, 0, none⟩))), (7, .bool (accV a o)), (8, .int .i64 (runE a o : Int)), (9, .bool (accV b o)), (10, .int .i64 (runE b o : Int)), (11, .bool false), (12, .int .i64 ((p : Nat) : Int))] ρ) (fun p => 4 - p) 0 ?_ ?_
  · exact ⟨rfl, Nat.zero_le _, ⟨rfl, rfl, rfl, rfl, rfl, rfl, rfl, rfl, rfl, rfl, rfl, trivial⟩⟩
  rintro p ρ O ⟨rfl, hp, hH⟩
  obtain ⟨ρ0, rfl⟩ := hH.elim
  clear hH
  obtain ⟨mM, emM⟩ : ∃ m, opD (opB (p : Int)) a b = m := ⟨_, rfl⟩
  have HM := Ha.op (f := opB (p : Int)) Hb (by decide)
  have eM1 := op_runE (f := opB (p : Int)) Ha Hb (by decide) o
  have eM2 := fun he => op_accV (f := opB (p : Int)) Ha Hb (by decide) (w := o) he
  rw [emM] at HM eM1 eM2
  have vM := HM.valid
  have lM := HM.len
  have hmm := HM.min
  have bM := min_bounds HM.toHasL
  refine T.seq (T.seq (T.region ?_))
  refine TO.quiet (q_move rfl) (TO.quiet (q_lss rfl rfl) ?_)
  refine TO.nil ?_
  refine T.condP rfl (fun hc => ?_) (fun hc => ?_)
  · have hlt66 : p < 4 := by omega
    refine T.skip (T.seq (T.block (T.seq (T.region ?_))))
    refine TO.quiet (q_move rfl) (TO.quiet (q_load_boxAgg 1 Tryd.underlying25 rfl inf25 rfl rfl rfl) (TO.quiet (q_load_boxAgg 0 Tryd.underlying25 rfl inf25 rfl rfl rfl) ?_))
    have hk73 := fun (w1 : World) (hI : Inv w [oI z2 25 (dC b jb), oI z1 25 (dC a ja)] w1) => (show PureT _ _ _ _ _ from by
        have h9 := applyC w1 (p : Int) a b ja jb (hI.atB ha) (hI.atB hb) ha1 ha2 ha3 hb1 hb2 hb3 (sa.small sb)
        rw [opV_ok hw, hw, emM] at h9
        exact h9)
    refine TO.loud rfl (l_call ent18 (CallT.of_pure hk73) rfl ?_)
    clear hk73
    rintro vr O' ⟨N, rfl, k5, rfl, rfl⟩
    refine TO.quiet (q_move rfl) (TO.quiet (q_extract (vs := _) rfl rfl) (TO.quiet (q_extract (vs := _) rfl rfl) ?_))
    refine TO.loud rfl (l_alloc inf25 rfl (fun z4 => ?_))
    refine TO.loud rfl (l_store_box (v := (dV mM k5)) (vs := (dC mM k5)) 0 inf25 rfl rfl rfl rfl rfl rfl (by simp [putL]) ?_)
    refine TO.quiet (q_assign rfl) ?_
    refine TO.nil (T.seq (T.seq (T.region ?_)))
    refine TO.quiet (q_move rfl) ?_
    refine TO.nil ?_
    refine T.cond0 rfl ?_
    refine T.skip (T.seq (T.region ?_))
    refine TO.quiet (q_load_boxAgg 0 Tryd.underlying25 rfl inf25 rfl rfl rfl) ?_
    have hk87 := fun (w1 : World) (hI : Inv w [oI z4 25 (dC mM k5), dI 52 4 3 mM k5, oI z2 25 (dC b jb), oI z1 25 (dC a ja)] w1) => minKE w1 mM k5 (hI.at (k := k5) (List.mem_of_getElem? (i := 1) rfl)) vM (Nat.lt_of_le_of_lt lM (by decide)) hmm
    refine TO.loud rfl (l_call ent21 (CallT.of_pure hk87) rfl ?_)
    clear hk87
    rintro vr O' ⟨N, rfl, k6, rfl, rfl⟩
    refine TO.quiet (q_move rfl) (TO.quiet (q_extract (vs := _) rfl rfl) (TO.quiet (q_extract (vs := _) rfl rfl) ?_))
    refine TO.loud rfl (l_alloc inf25 rfl (fun z5 => ?_))
    refine TO.loud rfl (l_store_box (v := (dV mM k6)) (vs := (dC mM k6)) 0 inf25 rfl rfl rfl rfl rfl rfl (by simp [putL]) ?_)
    refine TO.quiet (q_assign rfl) ?_
    refine TO.nil (T.seq (T.region ?_))
    refine TO.quiet (q_load_boxAgg 2 Tryd.underlying25 rfl inf25 rfl rfl rfl) (TO.quiet (q_move rfl) ?_)
    have hk93 := fun (w1 : World) (hI : Inv w [oI z5 25 (dC mM k6), dI 52 4 3 mM k6, oI z4 25 (dC mM k5), dI 52 4 3 mM k5, oI z2 25 (dC b jb), oI z1 25 (dC a ja)] w1) => acceptsA w1 mM k5.nb k5.fb k5.nc k5.fc (vals k5.qs) (hI.at (k := k5) (List.mem_of_getElem? (i := 3) rfl)) bM.1 bM.2.1 bM.2.2 wb wc o (hI.sl hW) hwb hw8
    refine TO.loud rfl (l_call ent19 (CallT.of_pure hk93) rfl ?_)
    clear hk93
    rintro vr O' ⟨N, rfl, rfl, rfl⟩
    refine TO.quiet (q_move rfl) (TO.quiet (q_extract (vs := _) rfl rfl) (TO.quiet (q_extract (vs := _) rfl rfl) (TO.quiet (q_assign rfl) ?_)))
    refine TO.quiet (q_assign rfl) ?_
    refine TO.nil (T.seq (T.region ?_))
    by_cases hs96 : accV a o = true
    · refine TO.quiet (QT.toB (q_move rfl) (hs96)) ?_
      refine TO.quiet (q_move rfl) ?_
      by_cases hs98 : accV b o = true
      · refine TO.guarded rfl rfl rfl (LT.of_quiet rfl rfl (QT.toB (q_move rfl) (hs98)) ?_)
        refine TO.quiet (q_pick1 rfl rfl) (TO.quiet (QT.toB (q_move rfl) (hs96)) (TO.quiet (q_move rfl) ?_))
        refine TO.passed rfl rfl ?_
        refine TO.quiet (q_pick1 rfl rfl) (TO.quiet (QT.toB (q_move rfl) (hs96)) (TO.quiet (QT.toB (q_move rfl) (hs98)) (TO.quiet (q_bneq Tryd.underlying4 rfl rfl) ?_)))
        refine TO.quiet (QT.toB (q_move rfl) (hs96)) (TO.quiet (q_move rfl) ?_)
        refine TO.guarded rfl rfl rfl (LT.of_quiet rfl rfl (QT.toB (q_move rfl) (hs98)) ?_)
        refine TO.guarded rfl rfl rfl (LT.of_quiet rfl rfl (q_not rfl) ?_)
        refine TO.quiet (q_pick1 rfl rfl) ?_
        refine TO.loud rfl (l_buildSlice (m := 4) (parts := [(0, .tmp 99), (1, .tmp 103), (2, .tmp 106), (3, .tmp 111)]) (cs := [.bool true, .bool true, .bool false, .bool false]) Tryd.underlying23 inf4 (by decide) (by kernel_rfl) rfl (fun z6 => ?_))
        refine TO.quiet (q_move rfl) (TO.quiet (q_ix (i := p) Tryd.underlying23 inf4 rfl rfl (rowO (List.mem_of_getElem? (i := 0) rfl)) (by omega) (by show p < 4; omega)) (TO.quiet (q_ld Tryd.underlying4 rfl rfl (rowO (List.mem_of_getElem? (i := 0) rfl)) (op_four (by omega) true true)) (TO.quiet (q_assign rfl) ?_)))
        refine TO.nil (T.seq (T.region ?_))
        refine TO.quiet (q_move rfl) (TO.quiet (QT.toB (q_neq rfl rfl) (decide_eq_false (fun h => h rfl))) (TO.quiet (q_move rfl) ?_))
        refine TO.guarded rfl rfl rfl (LT.of_quiet rfl rfl (q_move rfl) ?_)
        refine TO.guarded rfl rfl rfl (LT.of_quiet rfl rfl (QT.toB (q_neq rfl rfl) (decide_eq_false (fun h => h rfl))) ?_)
        refine TO.quiet (q_pick0 rfl rfl) (TO.quiet (q_move rfl) ?_)
        refine TO.guarded rfl rfl rfl (LT.of_quiet rfl rfl (q_load_boxAgg 1 Tryd.underlying25 rfl inf25 rfl rfl rfl) ?_)
        refine TO.guarded rfl rfl rfl (LT.of_quiet rfl rfl (q_load_boxAgg 3 Tryd.underlying25 rfl inf25 rfl rfl rfl) ?_)
        have hk125 := fun (w1 : World) (hI : Inv w [rowI (some ⟨z6, 0, none⟩) 4 4 1 [.bool true, .bool true, .bool false, .bool false], oI z5 25 (dC mM k6), dI 52 4 3 mM k6, oI z4 25 (dC mM k5), dI 52 4 3 mM k5, oI z2 25 (dC b jb), oI z1 25 (dC a ja)] w1) => equalK w1 mM k6 k5 (hI.at (k := k6) (List.mem_of_getElem? (i := 2) rfl)) (hI.at (k := k5) (List.mem_of_getElem? (i := 4) rfl)) bM.1 bM.2.1 bM.2.2
        refine TO.guarded rfl rfl rfl (l_call ent15 (CallT.of_pure hk125) rfl ?_)
        clear hk125
        rintro vr O' ⟨N, rfl, rfl, rfl⟩
        refine TO.guarded rfl rfl rfl (LT.of_quiet rfl rfl (q_not rfl) ?_)
        refine TO.quiet (q_pick0 rfl rfl) (TO.quiet (q_move rfl) ?_)
        refine TO.guarded rfl rfl rfl (LT.of_quiet rfl rfl (q_move rfl) ?_)
        refine TO.guarded rfl rfl rfl (LT.of_quiet rfl rfl (q_move rfl) ?_)
        refine TO.guarded rfl rfl rfl (LT.of_quiet rfl rfl (QT.toB (q_neq rfl rfl) (decide_eq_false (by omega))) ?_)
        refine TO.quiet (q_pick0 rfl rfl) (TO.quiet (q_move rfl) ?_)
        refine TO.guarded rfl rfl rfl (LT.of_quiet rfl rfl (q_move rfl) ?_)
        refine TO.guarded rfl rfl rfl (LT.of_quiet rfl rfl (q_move rfl) ?_)
        refine TO.guarded rfl rfl rfl (LT.of_quiet rfl rfl (QT.toB (q_neq rfl rfl) (decide_eq_false (by omega))) ?_)
        refine TO.quiet (q_pick0 rfl rfl) (TO.quiet (q_move rfl) ?_)
        refine TO.guarded rfl rfl rfl (LT.of_quiet rfl rfl (q_move rfl) ?_)
        refine TO.guarded rfl rfl rfl (LT.of_quiet rfl rfl (q_eql rfl rfl) ?_)
        by_cases hs141 : (runE a o : Int) = 0
        · refine TO.guarded rfl rfl rfl (LT.of_quiet rfl rfl (QT.toB (q_move rfl) (decide_eq_true hs141)) ?_)
          refine TO.guarded rfl rfl rfl (LT.of_quiet rfl rfl (q_move rfl) ?_)
          refine TO.guarded rfl rfl rfl (LT.of_quiet rfl rfl (q_move rfl) ?_)
          refine TO.guarded rfl rfl rfl (LT.of_quiet rfl rfl (QT.cast (q_bneq Tryd.underlying4 rfl rfl) (v' := .bool false) (by rw [eM2 (by omega), hs96, hs98]; simp)) ?_)
          refine TO.guarded rfl rfl rfl (LT.of_quiet rfl rfl (q_pick1 rfl rfl) ?_)
          refine TO.quiet (q_pick0 rfl rfl) ?_
          refine TO.nil ?_
          refine T.cond0 rfl ?_
          refine T.skip (T.region ?_)
          refine TO.quiet (q_move rfl) (TO.quiet (q_addN (a := p) (b := 1) rfl rfl (by omega)) (TO.quiet (q_assign rfl) ?_))
          refine TO.nil ?_
          exact ⟨p + 1, by omega, [oI z2 25 (dC b jb), oI z1 25 (dC a ja)], (by exact Sub.d (.d (.d (.d (.d (.k (.k .z))))))), rfl, by omega, ⟨rfl, rfl, rfl, rfl, rfl, rfl, rfl, rfl, rfl, rfl, rfl, trivial⟩⟩
        refine TO.guarded rfl rfl rfl (LT.of_quiet rfl rfl (QT.toB (q_move rfl) (decide_eq_false hs141)) ?_)
        refine TO.passed rfl rfl ?_
        refine TO.passed rfl rfl ?_
        refine TO.passed rfl rfl ?_
        refine TO.guarded rfl rfl rfl (LT.of_quiet rfl rfl (q_pick0 rfl rfl) ?_)
        refine TO.quiet (q_pick0 rfl rfl) ?_
        refine TO.nil ?_
        refine T.cond0 rfl ?_
        refine T.skip (T.region ?_)
        refine TO.quiet (q_move rfl) (TO.quiet (q_addN (a := p) (b := 1) rfl rfl (by omega)) (TO.quiet (q_assign rfl) ?_))
        refine TO.nil ?_
        exact ⟨p + 1, by omega, [oI z2 25 (dC b jb), oI z1 25 (dC a ja)], (by exact Sub.d (.d (.d (.d (.d (.k (.k .z))))))), rfl, by omega, ⟨rfl, rfl, rfl, rfl, rfl, rfl, rfl, rfl, rfl, rfl, rfl, trivial⟩⟩
      refine TO.guarded rfl rfl rfl (LT.of_quiet rfl rfl (QT.toB (q_move rfl) (Bool.eq_false_iff.2 hs98)) ?_)
      refine TO.quiet (q_pick1 rfl rfl) (TO.quiet (QT.toB (q_move rfl) (hs96)) (TO.quiet (q_move rfl) ?_))
      refine TO.passed rfl rfl ?_
      refine TO.quiet (q_pick1 rfl rfl) (TO.quiet (QT.toB (q_move rfl) (hs96)) (TO.quiet (QT.toB (q_move rfl) (Bool.eq_false_iff.2 hs98)) (TO.quiet (q_bneq Tryd.underlying4 rfl rfl) ?_)))
      refine TO.quiet (QT.toB (q_move rfl) (hs96)) (TO.quiet (q_move rfl) ?_)
      refine TO.guarded rfl rfl rfl (LT.of_quiet rfl rfl (QT.toB (q_move rfl) (Bool.eq_false_iff.2 hs98)) ?_)
      refine TO.guarded rfl rfl rfl (LT.of_quiet rfl rfl (q_not rfl) ?_)
      refine TO.quiet (q_pick1 rfl rfl) ?_
      refine TO.loud rfl (l_buildSlice (m := 4) (parts := [(0, .tmp 99), (1, .tmp 103), (2, .tmp 106), (3, .tmp 111)]) (cs := [.bool false, .bool true, .bool true, .bool true]) Tryd.underlying23 inf4 (by decide) (by kernel_rfl) rfl (fun z7 => ?_))
      refine TO.quiet (q_move rfl) (TO.quiet (q_ix (i := p) Tryd.underlying23 inf4 rfl rfl (rowO (List.mem_of_getElem? (i := 0) rfl)) (by omega) (by show p < 4; omega)) (TO.quiet (q_ld Tryd.underlying4 rfl rfl (rowO (List.mem_of_getElem? (i := 0) rfl)) (op_four (by omega) true false)) (TO.quiet (q_assign rfl) ?_)))
      refine TO.nil (T.seq (T.region ?_))
      refine TO.quiet (q_move rfl) (TO.quiet (QT.toB (q_neq rfl rfl) (decide_eq_false (fun h => h rfl))) (TO.quiet (q_move rfl) ?_))
      refine TO.guarded rfl rfl rfl (LT.of_quiet rfl rfl (q_move rfl) ?_)
      refine TO.guarded rfl rfl rfl (LT.of_quiet rfl rfl (QT.toB (q_neq rfl rfl) (decide_eq_false (fun h => h rfl))) ?_)
      refine TO.quiet (q_pick0 rfl rfl) (TO.quiet (q_move rfl) ?_)
      refine TO.guarded rfl rfl rfl (LT.of_quiet rfl rfl (q_load_boxAgg 1 Tryd.underlying25 rfl inf25 rfl rfl rfl) ?_)
      refine TO.guarded rfl rfl rfl (LT.of_quiet rfl rfl (q_load_boxAgg 3 Tryd.underlying25 rfl inf25 rfl rfl rfl) ?_)
      have hk125 := fun (w1 : World) (hI : Inv w [rowI (some ⟨z7, 0, none⟩) 4 4 1 [.bool false, .bool true, .bool true, .bool true], oI z5 25 (dC mM k6), dI 52 4 3 mM k6, oI z4 25 (dC mM k5), dI 52 4 3 mM k5, oI z2 25 (dC b jb), oI z1 25 (dC a ja)] w1) => equalK w1 mM k6 k5 (hI.at (k := k6) (List.mem_of_getElem? (i := 2) rfl)) (hI.at (k := k5) (List.mem_of_getElem? (i := 4) rfl)) bM.1 bM.2.1 bM.2.2
      refine TO.guarded rfl rfl rfl (l_call ent15 (CallT.of_pure hk125) rfl ?_)
      clear hk125
      rintro vr O' ⟨N, rfl, rfl, rfl⟩
      refine TO.guarded rfl rfl rfl (LT.of_quiet rfl rfl (q_not rfl) ?_)
      refine TO.quiet (q_pick0 rfl rfl) (TO.quiet (q_move rfl) ?_)
      refine TO.guarded rfl rfl rfl (LT.of_quiet rfl rfl (q_move rfl) ?_)
      refine TO.guarded rfl rfl rfl (LT.of_quiet rfl rfl (q_move rfl) ?_)
      refine TO.guarded rfl rfl rfl (LT.of_quiet rfl rfl (QT.toB (q_neq rfl rfl) (decide_eq_false (by omega))) ?_)
      refine TO.quiet (q_pick0 rfl rfl) (TO.quiet (q_move rfl) ?_)
      refine TO.guarded rfl rfl rfl (LT.of_quiet rfl rfl (q_move rfl) ?_)
      refine TO.guarded rfl rfl rfl (LT.of_quiet rfl rfl (q_move rfl) ?_)
      refine TO.guarded rfl rfl rfl (LT.of_quiet rfl rfl (QT.toB (q_neq rfl rfl) (decide_eq_false (by omega))) ?_)
      refine TO.quiet (q_pick0 rfl rfl) (TO.quiet (q_move rfl) ?_)
      refine TO.guarded rfl rfl rfl (LT.of_quiet rfl rfl (q_move rfl) ?_)
      refine TO.guarded rfl rfl rfl (LT.of_quiet rfl rfl (q_eql rfl rfl) ?_)
      by_cases hs141 : (runE a o : Int) = 0
      · refine TO.guarded rfl rfl rfl (LT.of_quiet rfl rfl (QT.toB (q_move rfl) (decide_eq_true hs141)) ?_)
        refine TO.guarded rfl rfl rfl (LT.of_quiet rfl rfl (q_move rfl) ?_)
        refine TO.guarded rfl rfl rfl (LT.of_quiet rfl rfl (q_move rfl) ?_)
        refine TO.guarded rfl rfl rfl (LT.of_quiet rfl rfl (QT.cast (q_bneq Tryd.underlying4 rfl rfl) (v' := .bool false) (by rw [eM2 (by omega), hs96, Bool.eq_false_iff.2 hs98]; simp)) ?_)
        refine TO.guarded rfl rfl rfl (LT.of_quiet rfl rfl (q_pick1 rfl rfl) ?_)
        refine TO.quiet (q_pick0 rfl rfl) ?_
        refine TO.nil ?_
        refine T.cond0 rfl ?_
        refine T.skip (T.region ?_)
        refine TO.quiet (q_move rfl) (TO.quiet (q_addN (a := p) (b := 1) rfl rfl (by omega)) (TO.quiet (q_assign rfl) ?_))
        refine TO.nil ?_
        exact ⟨p + 1, by omega, [oI z2 25 (dC b jb), oI z1 25 (dC a ja)], (by exact Sub.d (.d (.d (.d (.d (.k (.k .z))))))), rfl, by omega, ⟨rfl, rfl, rfl, rfl, rfl, rfl, rfl, rfl, rfl, rfl, rfl, trivial⟩⟩
      refine TO.guarded rfl rfl rfl (LT.of_quiet rfl rfl (QT.toB (q_move rfl) (decide_eq_false hs141)) ?_)
      refine TO.passed rfl rfl ?_
      refine TO.passed rfl rfl ?_
      refine TO.passed rfl rfl ?_
      refine TO.guarded rfl rfl rfl (LT.of_quiet rfl rfl (q_pick0 rfl rfl) ?_)
      refine TO.quiet (q_pick0 rfl rfl) ?_
      refine TO.nil ?_
      refine T.cond0 rfl ?_
      refine T.skip (T.region ?_)
      refine TO.quiet (q_move rfl) (TO.quiet (q_addN (a := p) (b := 1) rfl rfl (by omega)) (TO.quiet (q_assign rfl) ?_))
      refine TO.nil ?_
      exact ⟨p + 1, by omega, [oI z2 25 (dC b jb), oI z1 25 (dC a ja)], (by exact Sub.d (.d (.d (.d (.d (.k (.k .z))))))), rfl, by omega, ⟨rfl, rfl, rfl, rfl, rfl, rfl, rfl, rfl, rfl, rfl, rfl, trivial⟩⟩
    refine TO.quiet (QT.toB (q_move rfl) (Bool.eq_false_iff.2 hs96)) (TO.quiet (q_move rfl) ?_)
    refine TO.passed rfl rfl ?_
    refine TO.quiet (q_pick0 rfl rfl) (TO.quiet (QT.toB (q_move rfl) (Bool.eq_false_iff.2 hs96)) (TO.quiet (q_move rfl) ?_))
    by_cases hs102 : accV b o = true
    · refine TO.guarded rfl rfl rfl (LT.of_quiet rfl rfl (QT.toB (q_move rfl) (hs102)) ?_)
      refine TO.quiet (q_pick0 rfl rfl) (TO.quiet (QT.toB (q_move rfl) (Bool.eq_false_iff.2 hs96)) (TO.quiet (QT.toB (q_move rfl) (hs102)) (TO.quiet (q_bneq Tryd.underlying4 rfl rfl) ?_)))
      refine TO.quiet (QT.toB (q_move rfl) (Bool.eq_false_iff.2 hs96)) (TO.quiet (q_move rfl) ?_)
      refine TO.passed rfl rfl ?_
      refine TO.passed rfl rfl ?_
      refine TO.quiet (q_pick0 rfl rfl) ?_
      refine TO.loud rfl (l_buildSlice (m := 4) (parts := [(0, .tmp 99), (1, .tmp 103), (2, .tmp 106), (3, .tmp 111)]) (cs := [.bool false, .bool true, .bool true, .bool false]) Tryd.underlying23 inf4 (by decide) (by kernel_rfl) rfl (fun z8 => ?_))
      refine TO.quiet (q_move rfl) (TO.quiet (q_ix (i := p) Tryd.underlying23 inf4 rfl rfl (rowO (List.mem_of_getElem? (i := 0) rfl)) (by omega) (by show p < 4; omega)) (TO.quiet (q_ld Tryd.underlying4 rfl rfl (rowO (List.mem_of_getElem? (i := 0) rfl)) (op_four (by omega) false true)) (TO.quiet (q_assign rfl) ?_)))
      refine TO.nil (T.seq (T.region ?_))
      refine TO.quiet (q_move rfl) (TO.quiet (QT.toB (q_neq rfl rfl) (decide_eq_false (fun h => h rfl))) (TO.quiet (q_move rfl) ?_))
      refine TO.guarded rfl rfl rfl (LT.of_quiet rfl rfl (q_move rfl) ?_)
      refine TO.guarded rfl rfl rfl (LT.of_quiet rfl rfl (QT.toB (q_neq rfl rfl) (decide_eq_false (fun h => h rfl))) ?_)
      refine TO.quiet (q_pick0 rfl rfl) (TO.quiet (q_move rfl) ?_)
      refine TO.guarded rfl rfl rfl (LT.of_quiet rfl rfl (q_load_boxAgg 1 Tryd.underlying25 rfl inf25 rfl rfl rfl) ?_)
      refine TO.guarded rfl rfl rfl (LT.of_quiet rfl rfl (q_load_boxAgg 3 Tryd.underlying25 rfl inf25 rfl rfl rfl) ?_)
      have hk125 := fun (w1 : World) (hI : Inv w [rowI (some ⟨z8, 0, none⟩) 4 4 1 [.bool false, .bool true, .bool true, .bool false], oI z5 25 (dC mM k6), dI 52 4 3 mM k6, oI z4 25 (dC mM k5), dI 52 4 3 mM k5, oI z2 25 (dC b jb), oI z1 25 (dC a ja)] w1) => equalK w1 mM k6 k5 (hI.at (k := k6) (List.mem_of_getElem? (i := 2) rfl)) (hI.at (k := k5) (List.mem_of_getElem? (i := 4) rfl)) bM.1 bM.2.1 bM.2.2
      refine TO.guarded rfl rfl rfl (l_call ent15 (CallT.of_pure hk125) rfl ?_)
      clear hk125
      rintro vr O' ⟨N, rfl, rfl, rfl⟩
      refine TO.guarded rfl rfl rfl (LT.of_quiet rfl rfl (q_not rfl) ?_)
      refine TO.quiet (q_pick0 rfl rfl) (TO.quiet (q_move rfl) ?_)
      refine TO.guarded rfl rfl rfl (LT.of_quiet rfl rfl (q_move rfl) ?_)
      refine TO.guarded rfl rfl rfl (LT.of_quiet rfl rfl (q_move rfl) ?_)
      refine TO.guarded rfl rfl rfl (LT.of_quiet rfl rfl (QT.toB (q_neq rfl rfl) (decide_eq_false (by omega))) ?_)
      refine TO.quiet (q_pick0 rfl rfl) (TO.quiet (q_move rfl) ?_)
      refine TO.guarded rfl rfl rfl (LT.of_quiet rfl rfl (q_move rfl) ?_)
      refine TO.guarded rfl rfl rfl (LT.of_quiet rfl rfl (q_move rfl) ?_)
      refine TO.guarded rfl rfl rfl (LT.of_quiet rfl rfl (QT.toB (q_neq rfl rfl) (decide_eq_false (by omega))) ?_)
      refine TO.quiet (q_pick0 rfl rfl) (TO.quiet (q_move rfl) ?_)
      refine TO.guarded rfl rfl rfl (LT.of_quiet rfl rfl (q_move rfl) ?_)
      refine TO.guarded rfl rfl rfl (LT.of_quiet rfl rfl (q_eql rfl rfl) ?_)
      by_cases hs141 : (runE a o : Int) = 0
      · refine TO.guarded rfl rfl rfl (LT.of_quiet rfl rfl (QT.toB (q_move rfl) (decide_eq_true hs141)) ?_)
        refine TO.guarded rfl rfl rfl (LT.of_quiet rfl rfl (q_move rfl) ?_)
        refine TO.guarded rfl rfl rfl (LT.of_quiet rfl rfl (q_move rfl) ?_)
        refine TO.guarded rfl rfl rfl (LT.of_quiet rfl rfl (QT.cast (q_bneq Tryd.underlying4 rfl rfl) (v' := .bool false) (by rw [eM2 (by omega), Bool.eq_false_iff.2 hs96, hs102]; simp)) ?_)
        refine TO.guarded rfl rfl rfl (LT.of_quiet rfl rfl (q_pick1 rfl rfl) ?_)
        refine TO.quiet (q_pick0 rfl rfl) ?_
        refine TO.nil ?_
        refine T.cond0 rfl ?_
        refine T.skip (T.region ?_)
        refine TO.quiet (q_move rfl) (TO.quiet (q_addN (a := p) (b := 1) rfl rfl (by omega)) (TO.quiet (q_assign rfl) ?_))
        refine TO.nil ?_
        exact ⟨p + 1, by omega, [oI z2 25 (dC b jb), oI z1 25 (dC a ja)], (by exact Sub.d (.d (.d (.d (.d (.k (.k .z))))))), rfl, by omega, ⟨rfl, rfl, rfl, rfl, rfl, rfl, rfl, rfl, rfl, rfl, rfl, trivial⟩⟩
      refine TO.guarded rfl rfl rfl (LT.of_quiet rfl rfl (QT.toB (q_move rfl) (decide_eq_false hs141)) ?_)
      refine TO.passed rfl rfl ?_
      refine TO.passed rfl rfl ?_
      refine TO.passed rfl rfl ?_
      refine TO.guarded rfl rfl rfl (LT.of_quiet rfl rfl (q_pick0 rfl rfl) ?_)
      refine TO.quiet (q_pick0 rfl rfl) ?_
      refine TO.nil ?_
      refine T.cond0 rfl ?_
      refine T.skip (T.region ?_)
      refine TO.quiet (q_move rfl) (TO.quiet (q_addN (a := p) (b := 1) rfl rfl (by omega)) (TO.quiet (q_assign rfl) ?_))
      refine TO.nil ?_
      exact ⟨p + 1, by omega, [oI z2 25 (dC b jb), oI z1 25 (dC a ja)], (by exact Sub.d (.d (.d (.d (.d (.k (.k .z))))))), rfl, by omega, ⟨rfl, rfl, rfl, rfl, rfl, rfl, rfl, rfl, rfl, rfl, rfl, trivial⟩⟩
    refine TO.guarded rfl rfl rfl (LT.of_quiet rfl rfl (QT.toB (q_move rfl) (Bool.eq_false_iff.2 hs102)) ?_)
    refine TO.quiet (q_pick0 rfl rfl) (TO.quiet (QT.toB (q_move rfl) (Bool.eq_false_iff.2 hs96)) (TO.quiet (QT.toB (q_move rfl) (Bool.eq_false_iff.2 hs102)) (TO.quiet (q_bneq Tryd.underlying4 rfl rfl) ?_)))
    refine TO.quiet (QT.toB (q_move rfl) (Bool.eq_false_iff.2 hs96)) (TO.quiet (q_move rfl) ?_)
    refine TO.passed rfl rfl ?_
    refine TO.passed rfl rfl ?_
    refine TO.quiet (q_pick0 rfl rfl) ?_
    refine TO.loud rfl (l_buildSlice (m := 4) (parts := [(0, .tmp 99), (1, .tmp 103), (2, .tmp 106), (3, .tmp 111)]) (cs := [.bool false, .bool false, .bool false, .bool false]) Tryd.underlying23 inf4 (by decide) (by kernel_rfl) rfl (fun z9 => ?_))
    refine TO.quiet (q_move rfl) (TO.quiet (q_ix (i := p) Tryd.underlying23 inf4 rfl rfl (rowO (List.mem_of_getElem? (i := 0) rfl)) (by omega) (by show p < 4; omega)) (TO.quiet (q_ld Tryd.underlying4 rfl rfl (rowO (List.mem_of_getElem? (i := 0) rfl)) (op_four (by omega) false false)) (TO.quiet (q_assign rfl) ?_)))
    refine TO.nil (T.seq (T.region ?_))
    refine TO.quiet (q_move rfl) (TO.quiet (QT.toB (q_neq rfl rfl) (decide_eq_false (fun h => h rfl))) (TO.quiet (q_move rfl) ?_))
    refine TO.guarded rfl rfl rfl (LT.of_quiet rfl rfl (q_move rfl) ?_)
    refine TO.guarded rfl rfl rfl (LT.of_quiet rfl rfl (QT.toB (q_neq rfl rfl) (decide_eq_false (fun h => h rfl))) ?_)
    refine TO.quiet (q_pick0 rfl rfl) (TO.quiet (q_move rfl) ?_)
    refine TO.guarded rfl rfl rfl (LT.of_quiet rfl rfl (q_load_boxAgg 1 Tryd.underlying25 rfl inf25 rfl rfl rfl) ?_)
    refine TO.guarded rfl rfl rfl (LT.of_quiet rfl rfl (q_load_boxAgg 3 Tryd.underlying25 rfl inf25 rfl rfl rfl) ?_)
    have hk125 := fun (w1 : World) (hI : Inv w [rowI (some ⟨z9, 0, none⟩) 4 4 1 [.bool false, .bool false, .bool false, .bool false], oI z5 25 (dC mM k6), dI 52 4 3 mM k6, oI z4 25 (dC mM k5), dI 52 4 3 mM k5, oI z2 25 (dC b jb), oI z1 25 (dC a ja)] w1) => equalK w1 mM k6 k5 (hI.at (k := k6) (List.mem_of_getElem? (i := 2) rfl)) (hI.at (k := k5) (List.mem_of_getElem? (i := 4) rfl)) bM.1 bM.2.1 bM.2.2
    refine TO.guarded rfl rfl rfl (l_call ent15 (CallT.of_pure hk125) rfl ?_)
    clear hk125
    rintro vr O' ⟨N, rfl, rfl, rfl⟩
    refine TO.guarded rfl rfl rfl (LT.of_quiet rfl rfl (q_not rfl) ?_)
    refine TO.quiet (q_pick0 rfl rfl) (TO.quiet (q_move rfl) ?_)
    refine TO.guarded rfl rfl rfl (LT.of_quiet rfl rfl (q_move rfl) ?_)
    refine TO.guarded rfl rfl rfl (LT.of_quiet rfl rfl (q_move rfl) ?_)
    refine TO.guarded rfl rfl rfl (LT.of_quiet rfl rfl (QT.toB (q_neq rfl rfl) (decide_eq_false (by omega))) ?_)
    refine TO.quiet (q_pick0 rfl rfl) (TO.quiet (q_move rfl) ?_)
    refine TO.guarded rfl rfl rfl (LT.of_quiet rfl rfl (q_move rfl) ?_)
    refine TO.guarded rfl rfl rfl (LT.of_quiet rfl rfl (q_move rfl) ?_)
    refine TO.guarded rfl rfl rfl (LT.of_quiet rfl rfl (QT.toB (q_neq rfl rfl) (decide_eq_false (by omega))) ?_)
    refine TO.quiet (q_pick0 rfl rfl) (TO.quiet (q_move rfl) ?_)
    refine TO.guarded rfl rfl rfl (LT.of_quiet rfl rfl (q_move rfl) ?_)
    refine TO.guarded rfl rfl rfl (LT.of_quiet rfl rfl (q_eql rfl rfl) ?_)
    by_cases hs141 : (runE a o : Int) = 0
    · refine TO.guarded rfl rfl rfl (LT.of_quiet rfl rfl (QT.toB (q_move rfl) (decide_eq_true hs141)) ?_)
      refine TO.guarded rfl rfl rfl (LT.of_quiet rfl rfl (q_move rfl) ?_)
      refine TO.guarded rfl rfl rfl (LT.of_quiet rfl rfl (q_move rfl) ?_)
      refine TO.guarded rfl rfl rfl (LT.of_quiet rfl rfl (QT.cast (q_bneq Tryd.underlying4 rfl rfl) (v' := .bool false) (by rw [eM2 (by omega), Bool.eq_false_iff.2 hs96, Bool.eq_false_iff.2 hs102]; simp)) ?_)
      refine TO.guarded rfl rfl rfl (LT.of_quiet rfl rfl (q_pick1 rfl rfl) ?_)
      refine TO.quiet (q_pick0 rfl rfl) ?_
      refine TO.nil ?_
      refine T.cond0 rfl ?_
      refine T.skip (T.region ?_)
      refine TO.quiet (q_move rfl) (TO.quiet (q_addN (a := p) (b := 1) rfl rfl (by omega)) (TO.quiet (q_assign rfl) ?_))
      refine TO.nil ?_
      exact ⟨p + 1, by omega, [oI z2 25 (dC b jb), oI z1 25 (dC a ja)], (by exact Sub.d (.d (.d (.d (.d (.k (.k .z))))))), rfl, by omega, ⟨rfl, rfl, rfl, rfl, rfl, rfl, rfl, rfl, rfl, rfl, rfl, trivial⟩⟩
    refine TO.guarded rfl rfl rfl (LT.of_quiet rfl rfl (QT.toB (q_move rfl) (decide_eq_false hs141)) ?_)
    refine TO.passed rfl rfl ?_
    refine TO.passed rfl rfl ?_
    refine TO.passed rfl rfl ?_
    refine TO.guarded rfl rfl rfl (LT.of_quiet rfl rfl (q_pick0 rfl rfl) ?_)
    refine TO.quiet (q_pick0 rfl rfl) ?_
    refine TO.nil ?_
    refine T.cond0 rfl ?_
    refine T.skip (T.region ?_)
    refine TO.quiet (q_move rfl) (TO.quiet (q_addN (a := p) (b := 1) rfl rfl (by omega)) (TO.quiet (q_assign rfl) ?_))
    refine TO.nil ?_
    exact ⟨p + 1, by omega, [oI z2 25 (dC b jb), oI z1 25 (dC a ja)], (by exact Sub.d (.d (.d (.d (.d (.k (.k .z))))))), rfl, by omega, ⟨rfl, rfl, rfl, rfl, rfl, rfl, rfl, rfl, rfl, rfl, rfl, trivial⟩⟩
  have hge66 : ¬ p < 4 := by omega
  refine T.exit ?_
  refine T.seq (T.region ?_)
  refine TO.quiet (q_load_boxAgg 1 Tryd.underlying25 rfl inf25 rfl rfl rfl) ?_
  have hk149 := fun (w1 : World) (hI : Inv w [oI z2 25 (dC b jb), oI z1 25 (dC a ja)] w1) => (show PureT _ _ _ _ _ from by
      have h9 := notC w1 a ja (hI.atB ha) ha1 ha2 ha3 (fun _ => by have := sa.n8; omega)
      rw [emN] at h9
      exact h9)
  refine TO.loud rfl (l_call ent14 (CallT.of_pure hk149) rfl ?_)
  clear hk149
  rintro vr O' ⟨N, rfl, k8, rfl, rfl⟩
  refine TO.quiet (q_move rfl) (TO.quiet (q_extract (vs := _) rfl rfl) (TO.quiet (q_extract (vs := _) rfl rfl) ?_))
  refine TO.loud rfl (l_alloc inf25 rfl (fun z10 => ?_))
  refine TO.loud rfl (l_store_box (v := (dV mN k8)) (vs := (dC mN k8)) 0 inf25 rfl rfl rfl rfl rfl rfl (by simp [putL]) ?_)
  refine TO.quiet (q_assign rfl) ?_
  refine TO.nil (T.seq (T.region ?_))
  refine TO.quiet (q_load_boxAgg 0 Tryd.underlying25 rfl inf25 rfl rfl rfl) (TO.quiet (q_move rfl) ?_)
  have hk155 := fun (w1 : World) (hI : Inv w [oI z10 25 (dC mN k8), dI 52 4 3 mN k8, oI z2 25 (dC b jb), oI z1 25 (dC a ja)] w1) => acceptsA w1 mN k8.nb k8.fb k8.nc k8.fc (vals k8.qs) (hI.at (k := k8) (List.mem_of_getElem? (i := 1) rfl)) bN.1 bN.2.1 bN.2.2 wb wc o (hI.sl hW) hwb hw8
  refine TO.loud rfl (l_call ent19 (CallT.of_pure hk155) rfl ?_)
  clear hk155
  rintro vr O' ⟨N, rfl, rfl, rfl⟩
  refine TO.quiet (q_move rfl) (TO.quiet (q_extract (vs := _) rfl rfl) (TO.quiet (q_extract (vs := _) rfl rfl) (TO.quiet (q_assign rfl) ?_)))
  refine TO.quiet (q_assign rfl) ?_
  refine TO.nil (T.seq (T.region ?_))
  refine TO.quiet (q_move rfl) (TO.quiet (q_load_boxAgg 3 Tryd.underlying25 rfl inf25 rfl rfl rfl) ?_)
  have hk160 := fun (w1 : World) (hI : Inv w [oI z10 25 (dC mN k8), dI 52 4 3 mN k8, oI z2 25 (dC b jb), oI z1 25 (dC a ja)] w1) => subsetCheck w1 a ja.nb ja.fb ja.nc ja.fc (vals ja.qs) (hI.dfa ha) ha1 ha2 ha3
  refine TO.loud rfl (l_call ent20 (CallT.of_pure hk160) rfl ?_)
  clear hk160
  rintro vr O' ⟨N, rfl, rfl, rfl⟩
  refine TO.quiet (QT.toB (q_eql rfl rfl) (decide_eq_true rfl)) (TO.quiet (q_move rfl) ?_)
  refine TO.guarded rfl rfl rfl (LT.of_quiet rfl rfl (q_move rfl) ?_)
  refine TO.guarded rfl rfl rfl (LT.of_quiet rfl rfl (QT.toB (q_neq rfl rfl) (decide_eq_false (by omega))) ?_)
  refine TO.guarded rfl rfl rfl (LT.of_quiet rfl rfl (q_move rfl) ?_)
  refine TO.guarded rfl rfl rfl (LT.of_quiet rfl rfl (q_move rfl) ?_)
  refine TO.guarded rfl rfl rfl (LT.of_quiet rfl rfl (q_move rfl) ?_)
  refine TO.guarded rfl rfl rfl (LT.of_quiet rfl rfl (QT.toB (q_eql rfl rfl) (decide_eq_true (by have := (wN (by omega)).1; omega))) ?_)
  refine TO.guarded rfl rfl rfl (LT.of_quiet rfl rfl (q_move rfl) ?_)
  refine TO.guarded rfl rfl rfl (LT.of_quiet rfl rfl (q_move rfl) ?_)
  refine TO.guarded rfl rfl rfl (LT.of_quiet rfl rfl (q_neq rfl rfl) ?_)
  by_cases hs172 : (runE a o : Int) ≠ 0
  · refine TO.guarded rfl rfl rfl (LT.of_quiet rfl rfl (QT.toB (q_move rfl) (decide_eq_true hs172)) ?_)
    refine TO.passed rfl rfl ?_
    refine TO.passed rfl rfl ?_
    refine TO.passed rfl rfl ?_
    refine TO.guarded rfl rfl rfl (LT.of_quiet rfl rfl (q_pick1 rfl rfl) ?_)
    refine TO.guarded rfl rfl rfl (LT.of_quiet rfl rfl (q_pick1 rfl rfl) ?_)
    refine TO.guarded rfl rfl rfl (LT.of_quiet rfl rfl (q_pick0 rfl rfl) ?_)
    refine TO.quiet (q_pick1 rfl rfl) (TO.quiet (q_assign rfl) ?_)
    refine TO.nil (T.ret (Res.drop ?_))
    refine Res.one (.bool true) Tryd.results4 rfl ?_
    exact ⟨[], Sub.z, rfl, rfl⟩
  refine TO.guarded rfl rfl rfl (LT.of_quiet rfl rfl (QT.toB (q_move rfl) (decide_eq_false hs172)) ?_)
  refine TO.guarded rfl rfl rfl (LT.of_quiet rfl rfl (q_move rfl) ?_)
  refine TO.guarded rfl rfl rfl (LT.of_quiet rfl rfl (q_move rfl) ?_)
  refine TO.guarded rfl rfl rfl (LT.of_quiet rfl rfl (QT.cast (q_bneq Tryd.underlying4 rfl rfl) (v' := .bool true) (by rw [(wN (by omega)).2 (by omega)]; cases accV a o <;> rfl)) ?_)
  refine TO.guarded rfl rfl rfl (LT.of_quiet rfl rfl (q_pick0 rfl rfl) ?_)
  refine TO.guarded rfl rfl rfl (LT.of_quiet rfl rfl (q_pick1 rfl rfl) ?_)
  refine TO.guarded rfl rfl rfl (LT.of_quiet rfl rfl (q_pick0 rfl rfl) ?_)
  refine TO.quiet (q_pick1 rfl rfl) (TO.quiet (q_assign rfl) ?_)
  refine TO.nil (T.ret (Res.drop ?_))
  refine Res.one (.bool true) Tryd.results4 rfl ?_
  exact ⟨[], Sub.z, rfl, rfl⟩
theorem wordsW (w : World) (a : DFA) (ja : DK) (ha : At w a ja) (ha1 : a.next.length < 9223372036854775807) (ha2 : ∀ r ∈ a.next, r.length < 9223372036854775807) (ha3 : a.final.length < 9223372036854775807) (b : DFA) (jb : DK) (hb : At w b jb) (hb1 : b.next.length < 9223372036854775807) (hb2 : ∀ r ∈ b.next, r.length < 9223372036854775807) (hb3 : b.final.length < 9223372036854775807) (wb : Option Addr) (wc : Nat) (o : List Nat) (hW : Sl w wb (byts o)) (hwb : o.length < 9223372036854775807) (hw8 : ∀ x ∈ o, x < 256) :
    PureT Tryd.prog 4 [dV a ja, dV b jb, .slice wb o.length wc] w fun v N => v = .bool true ∧ N = [] := by
  by_cases hw : wrongD a b = 0
  · exact wordsOk w a ja ha ha1 ha2 ha3 b jb hb hb1 hb2 hb3 wb wc o hW hwb hw8 hw
  · exact wordsBad w a ja ha ha1 ha2 ha3 b jb hb hb1 hb2 hb3 wb wc o hW hwb hw8 hw
theorem wordsLaw (w : World) (a : DFA) (nba fba : Option Addr) (nca fca : Nat) (vsa : List Value) (ha : DfaAt w a nba vsa fba) (ha1 : a.next.length < 9223372036854775807) (ha2 : ∀ r ∈ a.next, r.length < 9223372036854775807) (ha3 : a.final.length < 9223372036854775807) (b : DFA) (nbb fbb : Option Addr) (ncb fcb : Nat) (vsb : List Value) (hb : DfaAt w b nbb vsb fbb) (hb1 : b.next.length < 9223372036854775807) (hb2 : ∀ r ∈ b.next, r.length < 9223372036854775807) (hb3 : b.final.length < 9223372036854775807) (wb : Option Addr) (wc : Nat) (o : List Nat) (hW : Sl w wb (byts o)) (hwb : o.length < 9223372036854775807) (hw8 : ∀ x ∈ o, x < 256) :
    PureT Tryd.prog 4 [.agg (dfaCells a nba nca fba fca).toArray, .agg (dfaCells b nbb ncb fbb fcb).toArray, .slice wb o.length wc] w fun v N => v = .bool true ∧ N = [] := by
  obtain ⟨ja, ga, ea⟩ := ha.dk nca fca
  obtain ⟨jb, gb, eb⟩ := hb.dk ncb fcb
  rw [ea, eb]
  exact wordsW w a ja ga ha1 ha2 ha3 b jb gb hb1 hb2 hb3 wb wc o hW hwb hw8
end Go.Proofs.YtdaapdamcekkgaaDoor

