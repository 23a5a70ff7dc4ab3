/- Contracts of functions of the program (QL): what each call answers and that it leaves memory as it was. Conditions: those each theorem names. -/
import Derived.Test.YtdaapdamcekkgaaDoorEnd
import Derived.Test.YtdaapdamcekkgaaDoorRun
set_option linter.unusedSectionVars false
set_option linter.unusedSimpArgs false
set_option linter.unusedVariables false
set_option linter.unnecessarySimpa false
namespace Go.Proofs.YtdaapdamcekkgaaDoor
open Go.Lx Go.RowKit
set_option linter.unusedVariables false
set_option linter.unusedSimpArgs false
set_option maxHeartbeats 4000000 in
set_option maxRecDepth 20000 in
theorem lawsW (w : World) (a : DFA) (ja : DK) (ha : At w a ja) (ha1 : a.next.length < 9223372036854775807) (ha2 : ∀ r ∈ a.next, r.length < 9223372036854775807) (ha3 : a.final.length < 9223372036854775807) (b : DFA) (jb : DK) (hb : At w b jb) (hb1 : b.next.length < 9223372036854775807) (hb2 : ∀ r ∈ b.next, r.length < 9223372036854775807) (hb3 : b.final.length < 9223372036854775807) (c : DFA) (jc : DK) (hc : At w c jc) (hc1 : c.next.length < 9223372036854775807) (hc2 : ∀ r ∈ c.next, r.length < 9223372036854775807) (hc3 : c.final.length < 9223372036854775807) :
    PureT Tryd.prog 5 [dV a ja, dV b jb, dV c jc] w fun v N => v = .bool true ∧ N = [] := by
  refine CallT.enter Tryd.func5 rfl Tryd.ntmps5 rfl ?_
  have hcc := hc
  refine T.seq (T.region ?_)
  refine TO.loud rfl (l_box (v := (dV a ja)) (cs := (dC a ja)) rfl rfl (fun z1 => ?_))
  refine TO.loud rfl (l_box (v := (dV b jb)) (cs := (dC b jb)) rfl rfl (fun z2 => ?_))
  refine TO.loud rfl (l_box (v := (dV c jc)) (cs := (dC c jc)) rfl rfl (fun z3 => ?_))
  refine TO.quiet (q_assign rfl) ?_
  refine TO.nil (T.seq (T.seq (T.region ?_)))
  refine TO.quiet (q_load_boxAgg 2 Tryd.underlying25 rfl inf25 rfl rfl rfl) (TO.quiet (q_load_boxAgg 1 Tryd.underlying25 rfl inf25 rfl rfl rfl) (TO.quiet (q_load_boxAgg 0 Tryd.underlying25 rfl inf25 rfl rfl rfl) ?_))
  refine TO.loud rfl (l_buildSlice (m := 3) (parts := [(0, _), (1, _), (2, _)]) (cs := [(.int .i64 a.vars), (.int .i64 a.start), (.slice ja.nb a.next.length ja.nc), (.slice ja.fb a.final.length ja.fc), (.int .i64 b.vars), (.int .i64 b.start), (.slice jb.nb b.next.length jb.nc), (.slice jb.fb b.final.length jb.fc), (.int .i64 c.vars), (.int .i64 c.start), (.slice jc.nb c.next.length jc.nc), (.slice jc.fb c.final.length jc.fc)]) Tryd.underlying48 inf25 (by decide) (by kernel_rfl) rfl (fun z4 => ?_))
  have hk40 := fun (w1 : World) (hI : Inv w [rowI (some ⟨z4, 0, none⟩) 3 25 4 [(.int .i64 a.vars), (.int .i64 a.start), (.slice ja.nb a.next.length ja.nc), (.slice ja.fb a.final.length ja.fc), (.int .i64 b.vars), (.int .i64 b.start), (.slice jb.nb b.next.length jb.nc), (.slice jb.fb b.final.length jb.fc), (.int .i64 c.vars), (.int .i64 c.start), (.slice jc.nb c.next.length jc.nc), (.slice jc.fb c.final.length jc.fc)], oI z3 25 (dC c jc), oI z2 25 (dC b jb), oI z1 25 (dC a ja)] w1) => long3 w1 (some ⟨z4, 0, none⟩) a b c ja jb jc (hI.slOf (List.mem_of_getElem? (i := 0) rfl)) (hI.atB ha) (hI.atB hb) (hI.atB hcc) ha1 hb1 hc1
  refine TO.loud rfl (l_call ent10 (CallT.of_pure hk40) rfl ?_)
  clear hk40
  rintro vr O' ⟨N, rfl, rfl, rfl⟩
  by_cases hs41 : (longB [a, b, c]) = true
  · refine TO.quiet (QT.toB (q_move rfl) (hs41)) ?_
    refine TO.passed rfl rfl ?_
    refine TO.passed rfl rfl ?_
    refine TO.passed rfl rfl ?_
    refine TO.passed rfl rfl ?_
    refine TO.quiet (q_pick1 rfl rfl) (TO.quiet (q_move rfl) ?_)
    refine TO.passed rfl rfl ?_
    refine TO.passed rfl rfl ?_
    refine TO.passed rfl rfl ?_
    refine TO.passed rfl rfl ?_
    refine TO.quiet (q_pick1 rfl rfl) (TO.quiet (q_move rfl) ?_)
    refine TO.passed rfl rfl ?_
    refine TO.passed rfl rfl ?_
    refine TO.passed rfl rfl ?_
    refine TO.passed rfl rfl ?_
    refine TO.quiet (q_pick1 rfl rfl) (TO.quiet (q_move rfl) ?_)
    refine TO.passed rfl rfl ?_
    refine TO.passed rfl rfl ?_
    refine TO.quiet (q_pick1 rfl rfl) (TO.quiet (q_move rfl) ?_)
    refine TO.passed rfl rfl ?_
    refine TO.passed rfl rfl ?_
    refine TO.passed rfl rfl ?_
    refine TO.quiet (q_pick1 rfl rfl) (TO.quiet (q_move rfl) ?_)
    refine TO.passed rfl rfl ?_
    refine TO.passed rfl rfl ?_
    refine TO.passed rfl rfl ?_
    refine TO.quiet (q_pick1 rfl rfl) (TO.quiet (q_move rfl) ?_)
    refine TO.passed rfl rfl ?_
    refine TO.passed rfl rfl ?_
    refine TO.passed rfl rfl ?_
    refine TO.quiet (q_pick1 rfl rfl) (TO.quiet (q_move rfl) ?_)
    refine TO.passed rfl rfl ?_
    refine TO.passed rfl rfl ?_
    refine TO.passed rfl rfl ?_
    refine TO.passed rfl rfl ?_
    refine TO.passed rfl rfl ?_
    refine TO.quiet (q_pick1 rfl rfl) (TO.quiet (q_move rfl) ?_)
    refine TO.passed rfl rfl ?_
    refine TO.passed rfl rfl ?_
    refine TO.passed rfl rfl ?_
    refine TO.passed rfl rfl ?_
    refine TO.passed rfl rfl ?_
    refine TO.quiet (q_pick1 rfl rfl) ?_
    refine TO.sub (O' := [oI z3 25 (dC c jc), oI z2 25 (dC b jb), oI z1 25 (dC a ja)]) (by exact Sub.d (.k (.k (.k .z)))) ?_
    refine TO.nil ?_
    refine T.cond1 rfl ?_
    refine T.seq (T.region ?_)
    have hk92 := fun (w1 : World) (hI : Inv w [oI z3 25 (dC c jc), oI z2 25 (dC b jb), oI z1 25 (dC a ja)] w1) => awakeC w1
    refine TO.loud rfl (l_call ent11 (CallT.of_pure hk92) rfl ?_)
    clear hk92
    rintro vr O' ⟨N, rfl, rfl, rfl⟩
    refine TO.quiet (q_assign rfl) ?_
    refine TO.nil (T.ret (Res.drop ?_))
    refine Res.one (.bool true) Tryd.results5 rfl ?_
    exact ⟨[], Sub.z, rfl, rfl⟩
  refine TO.quiet (QT.toB (q_move rfl) (Bool.eq_false_iff.2 hs41)) ?_
  refine TO.guarded rfl rfl rfl (LT.of_quiet rfl rfl (q_fieldAddr Tryd.underlying25 rfl inf22 rfl rfl) ?_)
  refine TO.guarded rfl rfl rfl (LT.of_quiet rfl rfl (q_load_box 3 Tryd.underlying22 rfl rfl rfl rfl) ?_)
  refine TO.guarded rfl rfl rfl (LT.of_quiet rfl rfl (q_len Tryd.underlying22 rfl) ?_)
  refine TO.guarded rfl rfl rfl (LT.of_quiet rfl rfl (q_gtr rfl rfl) ?_)
  refine TO.quiet (q_pick0 rfl rfl) ?_
  by_cases hs47 : (a.next.length : Int) > 4
  · refine TO.quiet (QT.toB (q_move rfl) (decide_eq_true hs47)) ?_
    refine TO.passed rfl rfl ?_
    refine TO.passed rfl rfl ?_
    refine TO.passed rfl rfl ?_
    refine TO.passed rfl rfl ?_
    refine TO.quiet (q_pick1 rfl rfl) (TO.quiet (q_move rfl) ?_)
    refine TO.passed rfl rfl ?_
    refine TO.passed rfl rfl ?_
    refine TO.passed rfl rfl ?_
    refine TO.passed rfl rfl ?_
    refine TO.quiet (q_pick1 rfl rfl) (TO.quiet (q_move rfl) ?_)
    refine TO.passed rfl rfl ?_
    refine TO.passed rfl rfl ?_
    refine TO.quiet (q_pick1 rfl rfl) (TO.quiet (q_move rfl) ?_)
    refine TO.passed rfl rfl ?_
    refine TO.passed rfl rfl ?_
    refine TO.passed rfl rfl ?_
    refine TO.quiet (q_pick1 rfl rfl) (TO.quiet (q_move rfl) ?_)
    refine TO.passed rfl rfl ?_
    refine TO.passed rfl rfl ?_
    refine TO.passed rfl rfl ?_
    refine TO.quiet (q_pick1 rfl rfl) (TO.quiet (q_move rfl) ?_)
    refine TO.passed rfl rfl ?_
    refine TO.passed rfl rfl ?_
    refine TO.passed rfl rfl ?_
    refine TO.quiet (q_pick1 rfl rfl) (TO.quiet (q_move rfl) ?_)
    refine TO.passed rfl rfl ?_
    refine TO.passed rfl rfl ?_
    refine TO.passed rfl rfl ?_
    refine TO.passed rfl rfl ?_
    refine TO.passed rfl rfl ?_
    refine TO.quiet (q_pick1 rfl rfl) (TO.quiet (q_move rfl) ?_)
    refine TO.passed rfl rfl ?_
    refine TO.passed rfl rfl ?_
    refine TO.passed rfl rfl ?_
    refine TO.passed rfl rfl ?_
    refine TO.passed rfl rfl ?_
    refine TO.quiet (q_pick1 rfl rfl) ?_
    refine TO.sub (O' := [oI z3 25 (dC c jc), oI z2 25 (dC b jb), oI z1 25 (dC a ja)]) (by exact Sub.d (.k (.k (.k .z)))) ?_
    refine TO.nil ?_
    refine T.cond1 rfl ?_
    refine T.seq (T.region ?_)
    have hk92 := fun (w1 : World) (hI : Inv w [oI z3 25 (dC c jc), oI z2 25 (dC b jb), oI z1 25 (dC a ja)] w1) => awakeC w1
    refine TO.loud rfl (l_call ent11 (CallT.of_pure hk92) rfl ?_)
    clear hk92
    rintro vr O' ⟨N, rfl, rfl, rfl⟩
    refine TO.quiet (q_assign rfl) ?_
    refine TO.nil (T.ret (Res.drop ?_))
    refine Res.one (.bool true) Tryd.results5 rfl ?_
    exact ⟨[], Sub.z, rfl, rfl⟩
  refine TO.quiet (QT.toB (q_move rfl) (decide_eq_false hs47)) ?_
  refine TO.guarded rfl rfl rfl (LT.of_quiet rfl rfl (q_fieldAddr Tryd.underlying25 rfl inf22 rfl rfl) ?_)
  refine TO.guarded rfl rfl rfl (LT.of_quiet rfl rfl (q_load_box 2 Tryd.underlying22 rfl rfl rfl rfl) ?_)
  refine TO.guarded rfl rfl rfl (LT.of_quiet rfl rfl (q_len Tryd.underlying22 rfl) ?_)
  refine TO.guarded rfl rfl rfl (LT.of_quiet rfl rfl (q_gtr rfl rfl) ?_)
  refine TO.quiet (q_pick0 rfl rfl) ?_
  by_cases hs53 : (b.next.length : Int) > 4
  · refine TO.quiet (QT.toB (q_move rfl) (decide_eq_true hs53)) ?_
    refine TO.passed rfl rfl ?_
    refine TO.passed rfl rfl ?_
    refine TO.passed rfl rfl ?_
    refine TO.passed rfl rfl ?_
    refine TO.quiet (q_pick1 rfl rfl) (TO.quiet (q_move rfl) ?_)
    refine TO.passed rfl rfl ?_
    refine TO.passed rfl rfl ?_
    refine TO.quiet (q_pick1 rfl rfl) (TO.quiet (q_move rfl) ?_)
    refine TO.passed rfl rfl ?_
    refine TO.passed rfl rfl ?_
    refine TO.passed rfl rfl ?_
    refine TO.quiet (q_pick1 rfl rfl) (TO.quiet (q_move rfl) ?_)
    refine TO.passed rfl rfl ?_
    refine TO.passed rfl rfl ?_
    refine TO.passed rfl rfl ?_
    refine TO.quiet (q_pick1 rfl rfl) (TO.quiet (q_move rfl) ?_)
    refine TO.passed rfl rfl ?_
    refine TO.passed rfl rfl ?_
    refine TO.passed rfl rfl ?_
    refine TO.quiet (q_pick1 rfl rfl) (TO.quiet (q_move rfl) ?_)
    refine TO.passed rfl rfl ?_
    refine TO.passed rfl rfl ?_
    refine TO.passed rfl rfl ?_
    refine TO.passed rfl rfl ?_
    refine TO.passed rfl rfl ?_
    refine TO.quiet (q_pick1 rfl rfl) (TO.quiet (q_move rfl) ?_)
    refine TO.passed rfl rfl ?_
    refine TO.passed rfl rfl ?_
    refine TO.passed rfl rfl ?_
    refine TO.passed rfl rfl ?_
    refine TO.passed rfl rfl ?_
    refine TO.quiet (q_pick1 rfl rfl) ?_
    refine TO.sub (O' := [oI z3 25 (dC c jc), oI z2 25 (dC b jb), oI z1 25 (dC a ja)]) (by exact Sub.d (.k (.k (.k .z)))) ?_
    refine TO.nil ?_
    refine T.cond1 rfl ?_
    refine T.seq (T.region ?_)
    have hk92 := fun (w1 : World) (hI : Inv w [oI z3 25 (dC c jc), oI z2 25 (dC b jb), oI z1 25 (dC a ja)] w1) => awakeC w1
    refine TO.loud rfl (l_call ent11 (CallT.of_pure hk92) rfl ?_)
    clear hk92
    rintro vr O' ⟨N, rfl, rfl, rfl⟩
    refine TO.quiet (q_assign rfl) ?_
    refine TO.nil (T.ret (Res.drop ?_))
    refine Res.one (.bool true) Tryd.results5 rfl ?_
    exact ⟨[], Sub.z, rfl, rfl⟩
  refine TO.quiet (QT.toB (q_move rfl) (decide_eq_false hs53)) ?_
  refine TO.guarded rfl rfl rfl (LT.of_quiet rfl rfl (q_fieldAddr Tryd.underlying25 rfl inf22 rfl rfl) ?_)
  refine TO.guarded rfl rfl rfl (LT.of_quiet rfl rfl (q_load_box 1 Tryd.underlying22 rfl rfl rfl rfl) ?_)
  refine TO.guarded rfl rfl rfl (LT.of_quiet rfl rfl (q_len Tryd.underlying22 rfl) ?_)
  refine TO.guarded rfl rfl rfl (LT.of_quiet rfl rfl (q_gtr rfl rfl) ?_)
  refine TO.quiet (q_pick0 rfl rfl) ?_
  by_cases hs59 : (c.next.length : Int) > 4
  · refine TO.quiet (QT.toB (q_move rfl) (decide_eq_true hs59)) ?_
    refine TO.passed rfl rfl ?_
    refine TO.passed rfl rfl ?_
    refine TO.quiet (q_pick1 rfl rfl) (TO.quiet (q_move rfl) ?_)
    refine TO.passed rfl rfl ?_
    refine TO.passed rfl rfl ?_
    refine TO.passed rfl rfl ?_
    refine TO.quiet (q_pick1 rfl rfl) (TO.quiet (q_move rfl) ?_)
    refine TO.passed rfl rfl ?_
    refine TO.passed rfl rfl ?_
    refine TO.passed rfl rfl ?_
    refine TO.quiet (q_pick1 rfl rfl) (TO.quiet (q_move rfl) ?_)
    refine TO.passed rfl rfl ?_
    refine TO.passed rfl rfl ?_
    refine TO.passed rfl rfl ?_
    refine TO.quiet (q_pick1 rfl rfl) (TO.quiet (q_move rfl) ?_)
    refine TO.passed rfl rfl ?_
    refine TO.passed rfl rfl ?_
    refine TO.passed rfl rfl ?_
    refine TO.passed rfl rfl ?_
    refine TO.passed rfl rfl ?_
    refine TO.quiet (q_pick1 rfl rfl) (TO.quiet (q_move rfl) ?_)
    refine TO.passed rfl rfl ?_
    refine TO.passed rfl rfl ?_
    refine TO.passed rfl rfl ?_
    refine TO.passed rfl rfl ?_
    refine TO.passed rfl rfl ?_
    refine TO.quiet (q_pick1 rfl rfl) ?_
    refine TO.sub (O' := [oI z3 25 (dC c jc), oI z2 25 (dC b jb), oI z1 25 (dC a ja)]) (by exact Sub.d (.k (.k (.k .z)))) ?_
    refine TO.nil ?_
    refine T.cond1 rfl ?_
    refine T.seq (T.region ?_)
    have hk92 := fun (w1 : World) (hI : Inv w [oI z3 25 (dC c jc), oI z2 25 (dC b jb), oI z1 25 (dC a ja)] w1) => awakeC w1
    refine TO.loud rfl (l_call ent11 (CallT.of_pure hk92) rfl ?_)
    clear hk92
    rintro vr O' ⟨N, rfl, rfl, rfl⟩
    refine TO.quiet (q_assign rfl) ?_
    refine TO.nil (T.ret (Res.drop ?_))
    refine Res.one (.bool true) Tryd.results5 rfl ?_
    exact ⟨[], Sub.z, rfl, rfl⟩
  refine TO.quiet (QT.toB (q_move rfl) (decide_eq_false hs59)) ?_
  have hk60 := fun (w1 : World) (hI : Inv w [rowI (some ⟨z4, 0, none⟩) 3 25 4 [(.int .i64 a.vars), (.int .i64 a.start), (.slice ja.nb a.next.length ja.nc), (.slice ja.fb a.final.length ja.fc), (.int .i64 b.vars), (.int .i64 b.start), (.slice jb.nb b.next.length jb.nc), (.slice jb.fb b.final.length jb.fc), (.int .i64 c.vars), (.int .i64 c.start), (.slice jc.nb c.next.length jc.nc), (.slice jc.fb c.final.length jc.fc)], oI z3 25 (dC c jc), oI z2 25 (dC b jb), oI z1 25 (dC a ja)] w1) => awakeC w1
  refine TO.guarded rfl rfl rfl (l_call ent11 (CallT.of_pure hk60) rfl ?_)
  clear hk60
  rintro vr O' ⟨N, rfl, rfl, rfl⟩
  refine TO.guarded rfl rfl rfl (LT.of_quiet rfl rfl (q_not rfl) ?_)
  refine TO.quiet (q_pick0 rfl rfl) (TO.quiet (q_move rfl) ?_)
  refine TO.guarded rfl rfl rfl (LT.of_quiet rfl rfl (q_load_boxAgg 3 Tryd.underlying25 rfl inf25 rfl rfl rfl) ?_)
  have hk65 := fun (w1 : World) (hI : Inv w [rowI (some ⟨z4, 0, none⟩) 3 25 4 [(.int .i64 a.vars), (.int .i64 a.start), (.slice ja.nb a.next.length ja.nc), (.slice ja.fb a.final.length ja.fc), (.int .i64 b.vars), (.int .i64 b.start), (.slice jb.nb b.next.length jb.nc), (.slice jb.fb b.final.length jb.fc), (.int .i64 c.vars), (.int .i64 c.start), (.slice jc.nb c.next.length jc.nc), (.slice jc.fb c.final.length jc.fc)], oI z3 25 (dC c jc), oI z2 25 (dC b jb), oI z1 25 (dC a ja)] w1) => subsetCheck w1 a ja.nb ja.fb ja.nc ja.fc (vals ja.qs) (hI.dfa ha) ha1 ha2 ha3
  refine TO.guarded rfl rfl rfl (l_call ent20 (CallT.of_pure hk65) rfl ?_)
  clear hk65
  rintro vr O' ⟨N, rfl, rfl, rfl⟩
  refine TO.guarded rfl rfl rfl (LT.of_quiet rfl rfl (q_neq rfl rfl) ?_)
  refine TO.quiet (q_pick0 rfl rfl) ?_
  by_cases hs68 : (checkD a : Int) ≠ 0
  · refine TO.quiet (QT.toB (q_move rfl) (decide_eq_true hs68)) ?_
    refine TO.passed rfl rfl ?_
    refine TO.passed rfl rfl ?_
    refine TO.passed rfl rfl ?_
    refine TO.quiet (q_pick1 rfl rfl) (TO.quiet (q_move rfl) ?_)
    refine TO.passed rfl rfl ?_
    refine TO.passed rfl rfl ?_
    refine TO.passed rfl rfl ?_
    refine TO.quiet (q_pick1 rfl rfl) (TO.quiet (q_move rfl) ?_)
    refine TO.passed rfl rfl ?_
    refine TO.passed rfl rfl ?_
    refine TO.passed rfl rfl ?_
    refine TO.passed rfl rfl ?_
    refine TO.passed rfl rfl ?_
    refine TO.quiet (q_pick1 rfl rfl) (TO.quiet (q_move rfl) ?_)
    refine TO.passed rfl rfl ?_
    refine TO.passed rfl rfl ?_
    refine TO.passed rfl rfl ?_
    refine TO.passed rfl rfl ?_
    refine TO.passed rfl rfl ?_
    refine TO.quiet (q_pick1 rfl rfl) ?_
    refine TO.sub (O' := [oI z3 25 (dC c jc), oI z2 25 (dC b jb), oI z1 25 (dC a ja)]) (by exact Sub.d (.k (.k (.k .z)))) ?_
    refine TO.nil ?_
    refine T.cond1 rfl ?_
    refine T.seq (T.region ?_)
    have hk92 := fun (w1 : World) (hI : Inv w [oI z3 25 (dC c jc), oI z2 25 (dC b jb), oI z1 25 (dC a ja)] w1) => awakeC w1
    refine TO.loud rfl (l_call ent11 (CallT.of_pure hk92) rfl ?_)
    clear hk92
    rintro vr O' ⟨N, rfl, rfl, rfl⟩
    refine TO.quiet (q_assign rfl) ?_
    refine TO.nil (T.ret (Res.drop ?_))
    refine Res.one (.bool true) Tryd.results5 rfl ?_
    exact ⟨[], Sub.z, rfl, rfl⟩
  refine TO.quiet (QT.toB (q_move rfl) (decide_eq_false hs68)) ?_
  refine TO.guarded rfl rfl rfl (LT.of_quiet rfl rfl (q_load_boxAgg 2 Tryd.underlying25 rfl inf25 rfl rfl rfl) ?_)
  have hk70 := fun (w1 : World) (hI : Inv w [rowI (some ⟨z4, 0, none⟩) 3 25 4 [(.int .i64 a.vars), (.int .i64 a.start), (.slice ja.nb a.next.length ja.nc), (.slice ja.fb a.final.length ja.fc), (.int .i64 b.vars), (.int .i64 b.start), (.slice jb.nb b.next.length jb.nc), (.slice jb.fb b.final.length jb.fc), (.int .i64 c.vars), (.int .i64 c.start), (.slice jc.nb c.next.length jc.nc), (.slice jc.fb c.final.length jc.fc)], oI z3 25 (dC c jc), oI z2 25 (dC b jb), oI z1 25 (dC a ja)] w1) => subsetCheck w1 b jb.nb jb.fb jb.nc jb.fc (vals jb.qs) (hI.dfa hb) hb1 hb2 hb3
  refine TO.guarded rfl rfl rfl (l_call ent20 (CallT.of_pure hk70) rfl ?_)
  clear hk70
  rintro vr O' ⟨N, rfl, rfl, rfl⟩
  refine TO.guarded rfl rfl rfl (LT.of_quiet rfl rfl (q_neq rfl rfl) ?_)
  refine TO.quiet (q_pick0 rfl rfl) ?_
  by_cases hs73 : (checkD b : Int) ≠ 0
  · refine TO.quiet (QT.toB (q_move rfl) (decide_eq_true hs73)) ?_
    refine TO.passed rfl rfl ?_
    refine TO.passed rfl rfl ?_
    refine TO.passed rfl rfl ?_
    refine TO.quiet (q_pick1 rfl rfl) (TO.quiet (q_move rfl) ?_)
    refine TO.passed rfl rfl ?_
    refine TO.passed rfl rfl ?_
    refine TO.passed rfl rfl ?_
    refine TO.passed rfl rfl ?_
    refine TO.passed rfl rfl ?_
    refine TO.quiet (q_pick1 rfl rfl) (TO.quiet (q_move rfl) ?_)
    refine TO.passed rfl rfl ?_
    refine TO.passed rfl rfl ?_
    refine TO.passed rfl rfl ?_
    refine TO.passed rfl rfl ?_
    refine TO.passed rfl rfl ?_
    refine TO.quiet (q_pick1 rfl rfl) ?_
    refine TO.sub (O' := [oI z3 25 (dC c jc), oI z2 25 (dC b jb), oI z1 25 (dC a ja)]) (by exact Sub.d (.k (.k (.k .z)))) ?_
    refine TO.nil ?_
    refine T.cond1 rfl ?_
    refine T.seq (T.region ?_)
    have hk92 := fun (w1 : World) (hI : Inv w [oI z3 25 (dC c jc), oI z2 25 (dC b jb), oI z1 25 (dC a ja)] w1) => awakeC w1
    refine TO.loud rfl (l_call ent11 (CallT.of_pure hk92) rfl ?_)
    clear hk92
    rintro vr O' ⟨N, rfl, rfl, rfl⟩
    refine TO.quiet (q_assign rfl) ?_
    refine TO.nil (T.ret (Res.drop ?_))
    refine Res.one (.bool true) Tryd.results5 rfl ?_
    exact ⟨[], Sub.z, rfl, rfl⟩
  refine TO.quiet (QT.toB (q_move rfl) (decide_eq_false hs73)) ?_
  refine TO.guarded rfl rfl rfl (LT.of_quiet rfl rfl (q_load_boxAgg 1 Tryd.underlying25 rfl inf25 rfl rfl rfl) ?_)
  have hk75 := fun (w1 : World) (hI : Inv w [rowI (some ⟨z4, 0, none⟩) 3 25 4 [(.int .i64 a.vars), (.int .i64 a.start), (.slice ja.nb a.next.length ja.nc), (.slice ja.fb a.final.length ja.fc), (.int .i64 b.vars), (.int .i64 b.start), (.slice jb.nb b.next.length jb.nc), (.slice jb.fb b.final.length jb.fc), (.int .i64 c.vars), (.int .i64 c.start), (.slice jc.nb c.next.length jc.nc), (.slice jc.fb c.final.length jc.fc)], oI z3 25 (dC c jc), oI z2 25 (dC b jb), oI z1 25 (dC a ja)] w1) => subsetCheck w1 c jc.nb jc.fb jc.nc jc.fc (vals jc.qs) (hI.dfa hcc) hc1 hc2 hc3
  refine TO.guarded rfl rfl rfl (l_call ent20 (CallT.of_pure hk75) rfl ?_)
  clear hk75
  rintro vr O' ⟨N, rfl, rfl, rfl⟩
  refine TO.guarded rfl rfl rfl (LT.of_quiet rfl rfl (q_neq rfl rfl) ?_)
  refine TO.quiet (q_pick0 rfl rfl) ?_
  by_cases hs78 : (checkD c : Int) ≠ 0
  · refine TO.quiet (QT.toB (q_move rfl) (decide_eq_true hs78)) ?_
    refine TO.passed rfl rfl ?_
    refine TO.passed rfl rfl ?_
    refine TO.passed rfl rfl ?_
    refine TO.passed rfl rfl ?_
    refine TO.passed rfl rfl ?_
    refine TO.quiet (q_pick1 rfl rfl) (TO.quiet (q_move rfl) ?_)
    refine TO.passed rfl rfl ?_
    refine TO.passed rfl rfl ?_
    refine TO.passed rfl rfl ?_
    refine TO.passed rfl rfl ?_
    refine TO.passed rfl rfl ?_
    refine TO.quiet (q_pick1 rfl rfl) ?_
    refine TO.sub (O' := [oI z3 25 (dC c jc), oI z2 25 (dC b jb), oI z1 25 (dC a ja)]) (by exact Sub.d (.k (.k (.k .z)))) ?_
    refine TO.nil ?_
    refine T.cond1 rfl ?_
    refine T.seq (T.region ?_)
    have hk92 := fun (w1 : World) (hI : Inv w [oI z3 25 (dC c jc), oI z2 25 (dC b jb), oI z1 25 (dC a ja)] w1) => awakeC w1
    refine TO.loud rfl (l_call ent11 (CallT.of_pure hk92) rfl ?_)
    clear hk92
    rintro vr O' ⟨N, rfl, rfl, rfl⟩
    refine TO.quiet (q_assign rfl) ?_
    refine TO.nil (T.ret (Res.drop ?_))
    refine Res.one (.bool true) Tryd.results5 rfl ?_
    exact ⟨[], Sub.z, rfl, rfl⟩
  refine TO.quiet (QT.toB (q_move rfl) (decide_eq_false hs78)) ?_
  refine TO.guarded rfl rfl rfl (LT.of_quiet rfl rfl (q_fieldAddr Tryd.underlying25 rfl inf3 rfl rfl) ?_)
  refine TO.guarded rfl rfl rfl (LT.of_quiet rfl rfl (q_load_box 3 Tryd.underlying3 rfl rfl rfl rfl) ?_)
  refine TO.guarded rfl rfl rfl (LT.of_quiet rfl rfl (q_fieldAddr Tryd.underlying25 rfl inf3 rfl rfl) ?_)
  refine TO.guarded rfl rfl rfl (LT.of_quiet rfl rfl (q_load_box 2 Tryd.underlying3 rfl rfl rfl rfl) ?_)
  refine TO.guarded rfl rfl rfl (LT.of_quiet rfl rfl (q_neq rfl rfl) ?_)
  refine TO.quiet (q_pick0 rfl rfl) ?_
  by_cases hs85 : a.vars ≠ b.vars
  · refine TO.quiet (QT.toB (q_move rfl) (decide_eq_true hs85)) ?_
    refine TO.passed rfl rfl ?_
    refine TO.passed rfl rfl ?_
    refine TO.passed rfl rfl ?_
    refine TO.passed rfl rfl ?_
    refine TO.passed rfl rfl ?_
    refine TO.quiet (q_pick1 rfl rfl) ?_
    refine TO.sub (O' := [oI z3 25 (dC c jc), oI z2 25 (dC b jb), oI z1 25 (dC a ja)]) (by exact Sub.d (.k (.k (.k .z)))) ?_
    refine TO.nil ?_
    refine T.cond1 rfl ?_
    refine T.seq (T.region ?_)
    have hk92 := fun (w1 : World) (hI : Inv w [oI z3 25 (dC c jc), oI z2 25 (dC b jb), oI z1 25 (dC a ja)] w1) => awakeC w1
    refine TO.loud rfl (l_call ent11 (CallT.of_pure hk92) rfl ?_)
    clear hk92
    rintro vr O' ⟨N, rfl, rfl, rfl⟩
    refine TO.quiet (q_assign rfl) ?_
    refine TO.nil (T.ret (Res.drop ?_))
    refine Res.one (.bool true) Tryd.results5 rfl ?_
    exact ⟨[], Sub.z, rfl, rfl⟩
  refine TO.quiet (QT.toB (q_move rfl) (decide_eq_false hs85)) ?_
  refine TO.guarded rfl rfl rfl (LT.of_quiet rfl rfl (q_fieldAddr Tryd.underlying25 rfl inf3 rfl rfl) ?_)
  refine TO.guarded rfl rfl rfl (LT.of_quiet rfl rfl (q_load_box 2 Tryd.underlying3 rfl rfl rfl rfl) ?_)
  refine TO.guarded rfl rfl rfl (LT.of_quiet rfl rfl (q_fieldAddr Tryd.underlying25 rfl inf3 rfl rfl) ?_)
  refine TO.guarded rfl rfl rfl (LT.of_quiet rfl rfl (q_load_box 1 Tryd.underlying3 rfl rfl rfl rfl) ?_)
  refine TO.guarded rfl rfl rfl (LT.of_quiet rfl rfl (q_neq rfl rfl) ?_)
  refine TO.quiet (q_pick0 rfl rfl) ?_
  refine TO.sub (O' := [oI z3 25 (dC c jc), oI z2 25 (dC b jb), oI z1 25 (dC a ja)]) (by exact Sub.d (.k (.k (.k .z)))) ?_
  refine TO.nil ?_
  refine T.condP rfl (fun hc => ?_) (fun hc => ?_)
  · refine T.seq ?_
    refine T.region ?_
    have hk92 := fun (w1 : World) (hI : Inv w [oI z3 25 (dC c jc), oI z2 25 (dC b jb), oI z1 25 (dC a ja)] w1) => awakeC w1
    refine TO.loud rfl (l_call ent11 (CallT.of_pure hk92) rfl ?_)
    clear hk92
    rintro vr O' ⟨N, rfl, rfl, rfl⟩
    refine TO.quiet (q_assign rfl) ?_
    refine TO.nil (T.ret (Res.drop ?_))
    refine Res.one (.bool true) Tryd.results5 rfl ?_
    exact ⟨[], Sub.z, rfl, rfl⟩
  refine T.skip (T.seq ?_)
  obtain ⟨sa, sb, sc⟩ := longB_three (by simpa using hs41)
  have ba : a.next.length < 9223372036854775807 ∧ (∀ r ∈ a.next, r.length < 9223372036854775807) ∧ a.final.length < 9223372036854775807 := ⟨ha1, ha2, ha3⟩
  have bb : b.next.length < 9223372036854775807 ∧ (∀ r ∈ b.next, r.length < 9223372036854775807) ∧ b.final.length < 9223372036854775807 := ⟨hb1, hb2, hb3⟩
  have bc : c.next.length < 9223372036854775807 ∧ (∀ r ∈ c.next, r.length < 9223372036854775807) ∧ c.final.length < 9223372036854775807 := ⟨hc1, hc2, hc3⟩
  have va : Valid a := checkD_zero.1 (by omega)
  have vb : Valid b := checkD_zero.1 (by omega)
  have vc : Valid c := checkD_zero.1 (by omega)
  have Ha : HasL a.vars 4 a (acc a) := HasL.of va (by omega)
  have Hb : HasL a.vars 4 b (acc b) := by rw [show a.vars = b.vars by omega]; exact HasL.of vb (by omega)
  have Hc : HasL a.vars 4 c (acc c) := by rw [show a.vars = c.vars by omega]; exact HasL.of vc (by omega)
  obtain ⟨eq1, eq2, eq3, eq4, eq5, eq6⟩ := laws_all Ha Hb Hc (by decide)
  obtain ⟨hsR, hsB⟩ := laws_small Ha Hb Hc (by decide)
  have HmA : HasL _ 16 _ _ := (Ha.op (f := andB) Hb (by decide)).toHasL
  have HmO : HasL _ 16 _ _ := (Ha.op (f := orB) Hb (by decide)).toHasL
  have HmP : HasL _ 4 _ _ := (Ha.not (by decide)).toHasL.le (Nat.le_trans (notD_len va (Ha.mulLe Ha (by decide))) Ha.len)
  have HmQ : HasL _ 4 _ _ := (Hb.not (by decide)).toHasL.le (Nat.le_trans (notD_len vb (Hb.mulLe Hb (by decide))) Hb.len)
  have HmM := (Ha.minim).toHasL
  have HmOC : HasL _ 16 _ _ := (Hb.op (f := orB) Hc (by decide)).toHasL
  have HmAC : HasL _ 16 _ _ := (Ha.op (f := andB) Hc (by decide)).toHasL
  have HmX := (Ha.op (f := xorB) Hb (by decide)).toHasL
  have HmAB : HasL _ 16 _ _ := (Ha.op (f := minusB) Hb (by decide)).toHasL
  have HmBA : HasL _ 16 _ _ := (Hb.op (f := minusB) Ha (by decide)).toHasL
  have HNA := (HmA.not (by decide)).toHasL
  have HL := (Ha.op (f := andB) HmOC (by decide)).toHasL
  have H3 := (HmO.op (f := orB) Hc (by decide)).toHasL
  have bA := min_bounds HmA
  have bM := min_bounds HmM
  have bX := min_bounds HmX
  have bNA := min_bounds HNA
  have bL := min_bounds HL
  have b3 := min_bounds H3
  obtain ⟨mA, emA⟩ : ∃ m, opD andB a b = m := ⟨_, rfl⟩
  obtain ⟨mO, emO⟩ : ∃ m, opD orB a b = m := ⟨_, rfl⟩
  obtain ⟨mP, emP⟩ : ∃ m, notD a = m := ⟨_, rfl⟩
  obtain ⟨mQ, emQ⟩ : ∃ m, notD b = m := ⟨_, rfl⟩
  obtain ⟨mOC, emOC⟩ : ∃ m, opD orB b c = m := ⟨_, rfl⟩
  obtain ⟨mAC, emAC⟩ : ∃ m, opD andB a c = m := ⟨_, rfl⟩
  obtain ⟨mX, emX⟩ : ∃ m, opD xorB a b = m := ⟨_, rfl⟩
  obtain ⟨mAB, emAB⟩ : ∃ m, opD minusB a b = m := ⟨_, rfl⟩
  obtain ⟨mBA, emBA⟩ : ∃ m, opD minusB b a = m := ⟨_, rfl⟩
  obtain ⟨mM, emM⟩ : ∃ m, minD a = m := ⟨_, rfl⟩
  rw [emA] at HmA HNA bA bNA eq1 eq2 eq4 hsR
  rw [emO] at HmO H3 b3 eq6
  rw [emP] at HmP eq1 eq3
  rw [emQ] at HmQ eq1
  rw [emOC] at HmOC HL bL eq4 eq6
  rw [emAC] at HmAC eq4 hsR
  rw [emX] at HmX bX eq5
  rw [emAB] at HmAB eq5 hsB
  rw [emBA] at HmBA eq5 hsB
  rw [emM] at HmM bM eq3
  obtain ⟨mNA, emNA⟩ : ∃ m, notD mA = m := ⟨_, rfl⟩
  obtain ⟨mL, emL⟩ : ∃ m, opD andB a mOC = m := ⟨_, rfl⟩
  obtain ⟨m3, em3⟩ : ∃ m, opD orB mO c = m := ⟨_, rfl⟩
  rw [emNA] at HNA bNA eq1
  rw [emL] at HL bL eq4
  rw [em3] at H3 b3 eq6
  have emS := eq1.symm
  have emK := eq2
  have emT := eq3
  have emR := eq4.symm
  have emB2 := eq5.symm
  have em4 := eq6.symm
  refine T.region ?_
  refine TO.quiet (q_load_boxAgg 2 Tryd.underlying25 rfl inf25 rfl rfl rfl) (TO.quiet (q_load_boxAgg 1 Tryd.underlying25 rfl inf25 rfl rfl rfl) ?_)
  have hk96 := fun (w1 : World) (hI : Inv w [oI z3 25 (dC c jc), oI z2 25 (dC b jb), oI z1 25 (dC a ja)] w1) => andK w1 Ha Hb ja jb (hI.atB ha) (hI.atB hb) (by decide) (HasL.small Ha Hb (by decide)) emA
  refine TO.loud rfl (l_call ent22 (CallT.of_pure hk96) rfl ?_)
  clear hk96
  rintro vr O' ⟨N, rfl, kmA, rfl, rfl⟩
  refine TO.quiet (q_move rfl) (TO.quiet (q_extract (vs := _) rfl rfl) (TO.quiet (q_extract (vs := _) rfl rfl) ?_))
  refine TO.loud rfl (l_alloc inf25 rfl (fun z5 => ?_))
  refine TO.loud rfl (l_store_box (v := (dV mA kmA)) (vs := (dC mA kmA)) 0 inf25 rfl rfl rfl rfl rfl rfl (by simp [putL]) ?_)
  refine TO.quiet (q_assign rfl) ?_
  refine TO.nil (T.seq (T.region ?_))
  refine TO.quiet (q_load_boxAgg 4 Tryd.underlying25 rfl inf25 rfl rfl rfl) (TO.quiet (q_load_boxAgg 3 Tryd.underlying25 rfl inf25 rfl rfl rfl) ?_)
  have hk102 := fun (w1 : World) (hI : Inv w [oI z5 25 (dC mA kmA), dI 52 4 3 mA kmA, oI z3 25 (dC c jc), oI z2 25 (dC b jb), oI z1 25 (dC a ja)] w1) => orK w1 Ha Hb ja jb (hI.atB ha) (hI.atB hb) (by decide) (HasL.small Ha Hb (by decide)) emO
  refine TO.loud rfl (l_call ent23 (CallT.of_pure hk102) rfl ?_)
  clear hk102
  rintro vr O' ⟨N, rfl, kmO, rfl, rfl⟩
  refine TO.quiet (q_move rfl) (TO.quiet (q_extract (vs := _) rfl rfl) (TO.quiet (q_extract (vs := _) rfl rfl) ?_))
  refine TO.loud rfl (l_alloc inf25 rfl (fun z6 => ?_))
  refine TO.loud rfl (l_store_box (v := (dV mO kmO)) (vs := (dC mO kmO)) 0 inf25 rfl rfl rfl rfl rfl rfl (by simp [putL]) ?_)
  refine TO.quiet (q_assign rfl) ?_
  refine TO.nil (T.seq (T.region ?_))
  refine TO.quiet (q_load_boxAgg 6 Tryd.underlying25 rfl inf25 rfl rfl rfl) ?_
  have hk107 := fun (w1 : World) (hI : Inv w [oI z6 25 (dC mO kmO), dI 52 4 3 mO kmO, oI z5 25 (dC mA kmA), dI 52 4 3 mA kmA, oI z3 25 (dC c jc), oI z2 25 (dC b jb), oI z1 25 (dC a ja)] w1) => notK w1 Ha ja (hI.atB ha) (by decide) emP
  refine TO.loud rfl (l_call ent14 (CallT.of_pure hk107) rfl ?_)
  clear hk107
  rintro vr O' ⟨N, rfl, kmP, rfl, rfl⟩
  refine TO.quiet (q_move rfl) (TO.quiet (q_extract (vs := _) rfl rfl) (TO.quiet (q_extract (vs := _) rfl rfl) ?_))
  refine TO.loud rfl (l_alloc inf25 rfl (fun z7 => ?_))
  refine TO.loud rfl (l_store_box (v := (dV mP kmP)) (vs := (dC mP kmP)) 0 inf25 rfl rfl rfl rfl rfl rfl (by simp [putL]) ?_)
  refine TO.quiet (q_assign rfl) ?_
  refine TO.nil (T.seq (T.region ?_))
  refine TO.quiet (q_load_boxAgg 7 Tryd.underlying25 rfl inf25 rfl rfl rfl) ?_
  have hk112 := fun (w1 : World) (hI : Inv w [oI z7 25 (dC mP kmP), dI 52 4 3 mP kmP, oI z6 25 (dC mO kmO), dI 52 4 3 mO kmO, oI z5 25 (dC mA kmA), dI 52 4 3 mA kmA, oI z3 25 (dC c jc), oI z2 25 (dC b jb), oI z1 25 (dC a ja)] w1) => notK w1 Hb jb (hI.atB hb) (by decide) emQ
  refine TO.loud rfl (l_call ent14 (CallT.of_pure hk112) rfl ?_)
  clear hk112
  rintro vr O' ⟨N, rfl, kmQ, rfl, rfl⟩
  refine TO.quiet (q_move rfl) (TO.quiet (q_extract (vs := _) rfl rfl) (TO.quiet (q_extract (vs := _) rfl rfl) ?_))
  refine TO.loud rfl (l_alloc inf25 rfl (fun z8 => ?_))
  refine TO.loud rfl (l_store_box (v := (dV mQ kmQ)) (vs := (dC mQ kmQ)) 0 inf25 rfl rfl rfl rfl rfl rfl (by simp [putL]) ?_)
  refine TO.quiet (q_assign rfl) ?_
  refine TO.nil (T.seq (T.region ?_))
  refine TO.quiet (q_load_boxAgg 6 Tryd.underlying25 rfl inf25 rfl rfl rfl) ?_
  have hk117 := fun (w1 : World) (hI : Inv w [oI z8 25 (dC mQ kmQ), dI 52 4 3 mQ kmQ, oI z7 25 (dC mP kmP), dI 52 4 3 mP kmP, oI z6 25 (dC mO kmO), dI 52 4 3 mO kmO, oI z5 25 (dC mA kmA), dI 52 4 3 mA kmA, oI z3 25 (dC c jc), oI z2 25 (dC b jb), oI z1 25 (dC a ja)] w1) => notK w1 HmA kmA (hI.at (k := kmA) (List.mem_of_getElem? (i := 7) rfl)) (by decide) emNA
  refine TO.loud rfl (l_call ent14 (CallT.of_pure hk117) rfl ?_)
  clear hk117
  rintro vr O' ⟨N, rfl, kmNA, rfl, rfl⟩
  refine TO.quiet (q_move rfl) (TO.quiet (q_extract (vs := _) rfl rfl) (TO.quiet (q_extract (vs := _) rfl rfl) ?_))
  refine TO.loud rfl (l_alloc inf25 rfl (fun z9 => ?_))
  refine TO.loud rfl (l_store_box (v := (dV mNA kmNA)) (vs := (dC mNA kmNA)) 0 inf25 rfl rfl rfl rfl rfl rfl (by simp [putL]) ?_)
  refine TO.quiet (q_assign rfl) ?_
  refine TO.nil (T.seq (T.region ?_))
  refine TO.quiet (q_load_boxAgg 4 Tryd.underlying25 rfl inf25 rfl rfl rfl) (TO.quiet (q_load_boxAgg 2 Tryd.underlying25 rfl inf25 rfl rfl rfl) ?_)
  have hk123 := fun (w1 : World) (hI : Inv w [oI z9 25 (dC mNA kmNA), dI 52 4 3 mNA kmNA, oI z8 25 (dC mQ kmQ), dI 52 4 3 mQ kmQ, oI z7 25 (dC mP kmP), dI 52 4 3 mP kmP, oI z6 25 (dC mO kmO), dI 52 4 3 mO kmO, oI z5 25 (dC mA kmA), dI 52 4 3 mA kmA, oI z3 25 (dC c jc), oI z2 25 (dC b jb), oI z1 25 (dC a ja)] w1) => orK w1 HmP HmQ kmP kmQ (hI.at (k := kmP) (List.mem_of_getElem? (i := 5) rfl)) (hI.at (k := kmQ) (List.mem_of_getElem? (i := 3) rfl)) (by decide) (HasL.small HmP HmQ (by decide)) emS
  refine TO.loud rfl (l_call ent23 (CallT.of_pure hk123) rfl ?_)
  clear hk123
  rintro vr O' ⟨N, rfl, kmS, rfl, rfl⟩
  refine TO.quiet (q_move rfl) (TO.quiet (q_extract (vs := _) rfl rfl) (TO.quiet (q_extract (vs := _) rfl rfl) ?_))
  refine TO.loud rfl (l_alloc inf25 rfl (fun z10 => ?_))
  refine TO.loud rfl (l_store_box (v := (dV mNA kmS)) (vs := (dC mNA kmS)) 0 inf25 rfl rfl rfl rfl rfl rfl (by simp [putL]) ?_)
  refine TO.quiet (q_assign rfl) ?_
  refine TO.nil (T.seq (T.region ?_))
  refine TO.quiet (q_load_boxAgg 13 Tryd.underlying25 rfl inf25 rfl rfl rfl) (TO.quiet (q_load_boxAgg 14 Tryd.underlying25 rfl inf25 rfl rfl rfl) ?_)
  have hk129 := fun (w1 : World) (hI : Inv w [oI z10 25 (dC mNA kmS), dI 52 4 3 mNA kmS, oI z9 25 (dC mNA kmNA), dI 52 4 3 mNA kmNA, oI z8 25 (dC mQ kmQ), dI 52 4 3 mQ kmQ, oI z7 25 (dC mP kmP), dI 52 4 3 mP kmP, oI z6 25 (dC mO kmO), dI 52 4 3 mO kmO, oI z5 25 (dC mA kmA), dI 52 4 3 mA kmA, oI z3 25 (dC c jc), oI z2 25 (dC b jb), oI z1 25 (dC a ja)] w1) => andK w1 Hb Ha jb ja (hI.atB hb) (hI.atB ha) (by decide) (HasL.small Hb Ha (by decide)) emK
  refine TO.loud rfl (l_call ent22 (CallT.of_pure hk129) rfl ?_)
  clear hk129
  rintro vr O' ⟨N, rfl, kmK, rfl, rfl⟩
  refine TO.quiet (q_move rfl) (TO.quiet (q_extract (vs := _) rfl rfl) (TO.quiet (q_extract (vs := _) rfl rfl) ?_))
  refine TO.loud rfl (l_alloc inf25 rfl (fun z11 => ?_))
  refine TO.loud rfl (l_store_box (v := (dV mA kmK)) (vs := (dC mA kmK)) 0 inf25 rfl rfl rfl rfl rfl rfl (by simp [putL]) ?_)
  refine TO.quiet (q_assign rfl) ?_
  refine TO.nil (T.seq (T.region ?_))
  refine TO.quiet (q_load_boxAgg 16 Tryd.underlying25 rfl inf25 rfl rfl rfl) ?_
  have hk134 := fun (w1 : World) (hI : Inv w [oI z11 25 (dC mA kmK), dI 52 4 3 mA kmK, oI z10 25 (dC mNA kmS), dI 52 4 3 mNA kmS, oI z9 25 (dC mNA kmNA), dI 52 4 3 mNA kmNA, oI z8 25 (dC mQ kmQ), dI 52 4 3 mQ kmQ, oI z7 25 (dC mP kmP), dI 52 4 3 mP kmP, oI z6 25 (dC mO kmO), dI 52 4 3 mO kmO, oI z5 25 (dC mA kmA), dI 52 4 3 mA kmA, oI z3 25 (dC c jc), oI z2 25 (dC b jb), oI z1 25 (dC a ja)] w1) => minKE w1 a ja (hI.atB ha) Ha.valid (Nat.lt_of_le_of_lt Ha.len (by decide)) emM
  refine TO.loud rfl (l_call ent21 (CallT.of_pure hk134) rfl ?_)
  clear hk134
  rintro vr O' ⟨N, rfl, kmM, rfl, rfl⟩
  refine TO.quiet (q_move rfl) (TO.quiet (q_extract (vs := _) rfl rfl) (TO.quiet (q_extract (vs := _) rfl rfl) ?_))
  refine TO.loud rfl (l_alloc inf25 rfl (fun z12 => ?_))
  refine TO.loud rfl (l_store_box (v := (dV mM kmM)) (vs := (dC mM kmM)) 0 inf25 rfl rfl rfl rfl rfl rfl (by simp [putL]) ?_)
  refine TO.quiet (q_assign rfl) ?_
  refine TO.nil (T.seq (T.region ?_))
  refine TO.quiet (q_load_boxAgg 10 Tryd.underlying25 rfl inf25 rfl rfl rfl) ?_
  have hk139 := fun (w1 : World) (hI : Inv w [oI z12 25 (dC mM kmM), dI 52 4 3 mM kmM, oI z11 25 (dC mA kmK), dI 52 4 3 mA kmK, oI z10 25 (dC mNA kmS), dI 52 4 3 mNA kmS, oI z9 25 (dC mNA kmNA), dI 52 4 3 mNA kmNA, oI z8 25 (dC mQ kmQ), dI 52 4 3 mQ kmQ, oI z7 25 (dC mP kmP), dI 52 4 3 mP kmP, oI z6 25 (dC mO kmO), dI 52 4 3 mO kmO, oI z5 25 (dC mA kmA), dI 52 4 3 mA kmA, oI z3 25 (dC c jc), oI z2 25 (dC b jb), oI z1 25 (dC a ja)] w1) => notK w1 HmP kmP (hI.at (k := kmP) (List.mem_of_getElem? (i := 11) rfl)) (by decide) emT
  refine TO.loud rfl (l_call ent14 (CallT.of_pure hk139) rfl ?_)
  clear hk139
  rintro vr O' ⟨N, rfl, kmT, rfl, rfl⟩
  refine TO.quiet (q_move rfl) (TO.quiet (q_extract (vs := _) rfl rfl) (TO.quiet (q_extract (vs := _) rfl rfl) ?_))
  refine TO.loud rfl (l_alloc inf25 rfl (fun z13 => ?_))
  refine TO.loud rfl (l_store_box (v := (dV mM kmT)) (vs := (dC mM kmT)) 0 inf25 rfl rfl rfl rfl rfl rfl (by simp [putL]) ?_)
  refine TO.quiet (q_assign rfl) ?_
  refine TO.nil (T.seq (T.seq (T.region ?_)))
  refine TO.quiet (q_move rfl) (TO.quiet (QT.toB (q_neq rfl rfl) (decide_eq_false (fun h => h rfl))) (TO.quiet (q_move rfl) ?_))
  refine TO.guarded rfl rfl rfl (LT.of_quiet rfl rfl (q_move rfl) ?_)
  refine TO.guarded rfl rfl rfl (LT.of_quiet rfl rfl (QT.toB (q_neq rfl rfl) (decide_eq_false (fun h => h rfl))) ?_)
  refine TO.quiet (q_pick0 rfl rfl) (TO.quiet (q_move rfl) ?_)
  refine TO.guarded rfl rfl rfl (LT.of_quiet rfl rfl (q_move rfl) ?_)
  refine TO.guarded rfl rfl rfl (LT.of_quiet rfl rfl (QT.toB (q_neq rfl rfl) (decide_eq_false (fun h => h rfl))) ?_)
  refine TO.quiet (q_pick0 rfl rfl) (TO.quiet (q_move rfl) ?_)
  refine TO.guarded rfl rfl rfl (LT.of_quiet rfl rfl (q_move rfl) ?_)
  refine TO.guarded rfl rfl rfl (LT.of_quiet rfl rfl (QT.toB (q_neq rfl rfl) (decide_eq_false (fun h => h rfl))) ?_)
  refine TO.quiet (q_pick0 rfl rfl) (TO.quiet (q_move rfl) ?_)
  refine TO.guarded rfl rfl rfl (LT.of_quiet rfl rfl (q_move rfl) ?_)
  refine TO.guarded rfl rfl rfl (LT.of_quiet rfl rfl (QT.toB (q_neq rfl rfl) (decide_eq_false (fun h => h rfl))) ?_)
  refine TO.quiet (q_pick0 rfl rfl) (TO.quiet (q_move rfl) ?_)
  refine TO.guarded rfl rfl rfl (LT.of_quiet rfl rfl (q_move rfl) ?_)
  refine TO.guarded rfl rfl rfl (LT.of_quiet rfl rfl (QT.toB (q_neq rfl rfl) (decide_eq_false (fun h => h rfl))) ?_)
  refine TO.quiet (q_pick0 rfl rfl) (TO.quiet (q_move rfl) ?_)
  refine TO.guarded rfl rfl rfl (LT.of_quiet rfl rfl (q_move rfl) ?_)
  refine TO.guarded rfl rfl rfl (LT.of_quiet rfl rfl (QT.toB (q_neq rfl rfl) (decide_eq_false (fun h => h rfl))) ?_)
  refine TO.quiet (q_pick0 rfl rfl) (TO.quiet (q_move rfl) ?_)
  refine TO.guarded rfl rfl rfl (LT.of_quiet rfl rfl (q_move rfl) ?_)
  refine TO.guarded rfl rfl rfl (LT.of_quiet rfl rfl (QT.toB (q_neq rfl rfl) (decide_eq_false (fun h => h rfl))) ?_)
  refine TO.quiet (q_pick0 rfl rfl) (TO.quiet (q_move rfl) ?_)
  refine TO.guarded rfl rfl rfl (LT.of_quiet rfl rfl (q_move rfl) ?_)
  refine TO.guarded rfl rfl rfl (LT.of_quiet rfl rfl (QT.toB (q_neq rfl rfl) (decide_eq_false (fun h => h rfl))) ?_)
  refine TO.quiet (q_pick0 rfl rfl) (TO.quiet (q_move rfl) ?_)
  refine TO.guarded rfl rfl rfl (LT.of_quiet rfl rfl (q_load_boxAgg 8 Tryd.underlying25 rfl inf25 rfl rfl rfl) ?_)
  refine TO.guarded rfl rfl rfl (LT.of_quiet rfl rfl (q_load_boxAgg 6 Tryd.underlying25 rfl inf25 rfl rfl rfl) ?_)
  have hk179 := fun (w1 : World) (hI : Inv w [oI z13 25 (dC mM kmT), dI 52 4 3 mM kmT, oI z12 25 (dC mM kmM), dI 52 4 3 mM kmM, oI z11 25 (dC mA kmK), dI 52 4 3 mA kmK, oI z10 25 (dC mNA kmS), dI 52 4 3 mNA kmS, oI z9 25 (dC mNA kmNA), dI 52 4 3 mNA kmNA, oI z8 25 (dC mQ kmQ), dI 52 4 3 mQ kmQ, oI z7 25 (dC mP kmP), dI 52 4 3 mP kmP, oI z6 25 (dC mO kmO), dI 52 4 3 mO kmO, oI z5 25 (dC mA kmA), dI 52 4 3 mA kmA, oI z3 25 (dC c jc), oI z2 25 (dC b jb), oI z1 25 (dC a ja)] w1) => equalK w1 mNA kmNA kmS (hI.at (k := kmNA) (List.mem_of_getElem? (i := 9) rfl)) (hI.at (k := kmS) (List.mem_of_getElem? (i := 7) rfl)) bNA.1 bNA.2.1 bNA.2.2
  refine TO.guarded rfl rfl rfl (l_call ent15 (CallT.of_pure hk179) rfl ?_)
  clear hk179
  rintro vr O' ⟨N, rfl, rfl, rfl⟩
  refine TO.guarded rfl rfl rfl (LT.of_quiet rfl rfl (q_not rfl) ?_)
  refine TO.quiet (q_pick0 rfl rfl) (TO.quiet (q_move rfl) ?_)
  refine TO.guarded rfl rfl rfl (LT.of_quiet rfl rfl (q_load_boxAgg 4 Tryd.underlying25 rfl inf25 rfl rfl rfl) ?_)
  refine TO.guarded rfl rfl rfl (LT.of_quiet rfl rfl (q_load_boxAgg 16 Tryd.underlying25 rfl inf25 rfl rfl rfl) ?_)
  have hk185 := fun (w1 : World) (hI : Inv w [oI z13 25 (dC mM kmT), dI 52 4 3 mM kmT, oI z12 25 (dC mM kmM), dI 52 4 3 mM kmM, oI z11 25 (dC mA kmK), dI 52 4 3 mA kmK, oI z10 25 (dC mNA kmS), dI 52 4 3 mNA kmS, oI z9 25 (dC mNA kmNA), dI 52 4 3 mNA kmNA, oI z8 25 (dC mQ kmQ), dI 52 4 3 mQ kmQ, oI z7 25 (dC mP kmP), dI 52 4 3 mP kmP, oI z6 25 (dC mO kmO), dI 52 4 3 mO kmO, oI z5 25 (dC mA kmA), dI 52 4 3 mA kmA, oI z3 25 (dC c jc), oI z2 25 (dC b jb), oI z1 25 (dC a ja)] w1) => equalK w1 mA kmK kmA (hI.at (k := kmK) (List.mem_of_getElem? (i := 5) rfl)) (hI.at (k := kmA) (List.mem_of_getElem? (i := 17) rfl)) bA.1 bA.2.1 bA.2.2
  refine TO.guarded rfl rfl rfl (l_call ent15 (CallT.of_pure hk185) rfl ?_)
  clear hk185
  rintro vr O' ⟨N, rfl, rfl, rfl⟩
  refine TO.guarded rfl rfl rfl (LT.of_quiet rfl rfl (q_not rfl) ?_)
  refine TO.quiet (q_pick0 rfl rfl) (TO.quiet (q_move rfl) ?_)
  refine TO.guarded rfl rfl rfl (LT.of_quiet rfl rfl (q_load_boxAgg 0 Tryd.underlying25 rfl inf25 rfl rfl rfl) ?_)
  refine TO.guarded rfl rfl rfl (LT.of_quiet rfl rfl (q_load_boxAgg 2 Tryd.underlying25 rfl inf25 rfl rfl rfl) ?_)
  have hk191 := fun (w1 : World) (hI : Inv w [oI z13 25 (dC mM kmT), dI 52 4 3 mM kmT, oI z12 25 (dC mM kmM), dI 52 4 3 mM kmM, oI z11 25 (dC mA kmK), dI 52 4 3 mA kmK, oI z10 25 (dC mNA kmS), dI 52 4 3 mNA kmS, oI z9 25 (dC mNA kmNA), dI 52 4 3 mNA kmNA, oI z8 25 (dC mQ kmQ), dI 52 4 3 mQ kmQ, oI z7 25 (dC mP kmP), dI 52 4 3 mP kmP, oI z6 25 (dC mO kmO), dI 52 4 3 mO kmO, oI z5 25 (dC mA kmA), dI 52 4 3 mA kmA, oI z3 25 (dC c jc), oI z2 25 (dC b jb), oI z1 25 (dC a ja)] w1) => equalK w1 mM kmT kmM (hI.at (k := kmT) (List.mem_of_getElem? (i := 1) rfl)) (hI.at (k := kmM) (List.mem_of_getElem? (i := 3) rfl)) bM.1 bM.2.1 bM.2.2
  refine TO.guarded rfl rfl rfl (l_call ent15 (CallT.of_pure hk191) rfl ?_)
  clear hk191
  rintro vr O' ⟨N, rfl, rfl, rfl⟩
  refine TO.guarded rfl rfl rfl (LT.of_quiet rfl rfl (q_not rfl) ?_)
  refine TO.quiet (q_pick0 rfl rfl) ?_
  refine TO.sub (O' := [oI z6 25 (dC mO kmO), dI 52 4 3 mO kmO, oI z5 25 (dC mA kmA), dI 52 4 3 mA kmA, oI z3 25 (dC c jc), oI z2 25 (dC b jb), oI z1 25 (dC a ja)]) (by exact Sub.d (.d (.d (.d (.d (.d (.d (.d (.d (.d (.d (.d (.d (.d (.k (.k (.k (.k (.k (.k (.k .z))))))))))))))))))))) ?_
  refine TO.nil ?_
  refine T.cond0 rfl ?_
  refine T.skip (T.seq (T.region ?_))
  refine TO.quiet (q_load_boxAgg 5 Tryd.underlying25 rfl inf25 rfl rfl rfl) (TO.quiet (q_load_boxAgg 4 Tryd.underlying25 rfl inf25 rfl rfl rfl) ?_)
  have hk197 := fun (w1 : World) (hI : Inv w [oI z6 25 (dC mO kmO), dI 52 4 3 mO kmO, oI z5 25 (dC mA kmA), dI 52 4 3 mA kmA, oI z3 25 (dC c jc), oI z2 25 (dC b jb), oI z1 25 (dC a ja)] w1) => orK w1 Hb Hc jb jc (hI.atB hb) (hI.atB hcc) (by decide) (HasL.small Hb Hc (by decide)) emOC
  refine TO.loud rfl (l_call ent23 (CallT.of_pure hk197) rfl ?_)
  clear hk197
  rintro vr O' ⟨N, rfl, kmOC, rfl, rfl⟩
  refine TO.quiet (q_move rfl) (TO.quiet (q_extract (vs := _) rfl rfl) (TO.quiet (q_extract (vs := _) rfl rfl) ?_))
  refine TO.loud rfl (l_alloc inf25 rfl (fun z14 => ?_))
  refine TO.loud rfl (l_store_box (v := (dV mOC kmOC)) (vs := (dC mOC kmOC)) 0 inf25 rfl rfl rfl rfl rfl rfl (by simp [putL]) ?_)
  refine TO.quiet (q_assign rfl) ?_
  refine TO.nil (T.seq (T.region ?_))
  refine TO.quiet (q_load_boxAgg 8 Tryd.underlying25 rfl inf25 rfl rfl rfl) (TO.quiet (q_load_boxAgg 0 Tryd.underlying25 rfl inf25 rfl rfl rfl) ?_)
  have hk203 := fun (w1 : World) (hI : Inv w [oI z14 25 (dC mOC kmOC), dI 52 4 3 mOC kmOC, oI z6 25 (dC mO kmO), dI 52 4 3 mO kmO, oI z5 25 (dC mA kmA), dI 52 4 3 mA kmA, oI z3 25 (dC c jc), oI z2 25 (dC b jb), oI z1 25 (dC a ja)] w1) => andK w1 Ha HmOC ja kmOC (hI.atB ha) (hI.at (k := kmOC) (List.mem_of_getElem? (i := 1) rfl)) (by decide) (HasL.small Ha HmOC (by decide)) emL
  refine TO.loud rfl (l_call ent22 (CallT.of_pure hk203) rfl ?_)
  clear hk203
  rintro vr O' ⟨N, rfl, kmL, rfl, rfl⟩
  refine TO.quiet (q_move rfl) (TO.quiet (q_extract (vs := _) rfl rfl) (TO.quiet (q_extract (vs := _) rfl rfl) ?_))
  refine TO.loud rfl (l_alloc inf25 rfl (fun z15 => ?_))
  refine TO.loud rfl (l_store_box (v := (dV mL kmL)) (vs := (dC mL kmL)) 0 inf25 rfl rfl rfl rfl rfl rfl (by simp [putL]) ?_)
  refine TO.quiet (q_assign rfl) ?_
  refine TO.nil (T.seq (T.region ?_))
  refine TO.quiet (q_load_boxAgg 10 Tryd.underlying25 rfl inf25 rfl rfl rfl) (TO.quiet (q_load_boxAgg 8 Tryd.underlying25 rfl inf25 rfl rfl rfl) ?_)
  have hk209 := fun (w1 : World) (hI : Inv w [oI z15 25 (dC mL kmL), dI 52 4 3 mL kmL, oI z14 25 (dC mOC kmOC), dI 52 4 3 mOC kmOC, oI z6 25 (dC mO kmO), dI 52 4 3 mO kmO, oI z5 25 (dC mA kmA), dI 52 4 3 mA kmA, oI z3 25 (dC c jc), oI z2 25 (dC b jb), oI z1 25 (dC a ja)] w1) => andK w1 Ha Hc ja jc (hI.atB ha) (hI.atB hcc) (by decide) (HasL.small Ha Hc (by decide)) emAC
  refine TO.loud rfl (l_call ent22 (CallT.of_pure hk209) rfl ?_)
  clear hk209
  rintro vr O' ⟨N, rfl, kmAC, rfl, rfl⟩
  refine TO.quiet (q_move rfl) (TO.quiet (q_extract (vs := _) rfl rfl) (TO.quiet (q_extract (vs := _) rfl rfl) ?_))
  refine TO.loud rfl (l_alloc inf25 rfl (fun z16 => ?_))
  refine TO.loud rfl (l_store_box (v := (dV mAC kmAC)) (vs := (dC mAC kmAC)) 0 inf25 rfl rfl rfl rfl rfl rfl (by simp [putL]) ?_)
  refine TO.quiet (q_assign rfl) ?_
  refine TO.nil (T.seq (T.region ?_))
  refine TO.quiet (q_load_boxAgg 8 Tryd.underlying25 rfl inf25 rfl rfl rfl) (TO.quiet (q_load_boxAgg 0 Tryd.underlying25 rfl inf25 rfl rfl rfl) ?_)
  have hk215 := fun (w1 : World) (hI : Inv w [oI z16 25 (dC mAC kmAC), dI 52 4 3 mAC kmAC, oI z15 25 (dC mL kmL), dI 52 4 3 mL kmL, oI z14 25 (dC mOC kmOC), dI 52 4 3 mOC kmOC, oI z6 25 (dC mO kmO), dI 52 4 3 mO kmO, oI z5 25 (dC mA kmA), dI 52 4 3 mA kmA, oI z3 25 (dC c jc), oI z2 25 (dC b jb), oI z1 25 (dC a ja)] w1) => orK w1 HmA HmAC kmA kmAC (hI.at (k := kmA) (List.mem_of_getElem? (i := 9) rfl)) (hI.at (k := kmAC) (List.mem_of_getElem? (i := 1) rfl)) (by decide) (Nat.lt_of_le_of_lt hsR (by decide)) emR
  refine TO.loud rfl (l_call ent23 (CallT.of_pure hk215) rfl ?_)
  clear hk215
  rintro vr O' ⟨N, rfl, kmR, rfl, rfl⟩
  refine TO.quiet (q_move rfl) (TO.quiet (q_extract (vs := _) rfl rfl) (TO.quiet (q_extract (vs := _) rfl rfl) ?_))
  refine TO.loud rfl (l_alloc inf25 rfl (fun z17 => ?_))
  refine TO.loud rfl (l_store_box (v := (dV mL kmR)) (vs := (dC mL kmR)) 0 inf25 rfl rfl rfl rfl rfl rfl (by simp [putL]) ?_)
  refine TO.quiet (q_assign rfl) ?_
  refine TO.sub (O' := [oI z17 25 (dC mL kmR), dI 52 4 3 mL kmR, oI z15 25 (dC mL kmL), dI 52 4 3 mL kmL, oI z14 25 (dC mOC kmOC), dI 52 4 3 mOC kmOC, oI z6 25 (dC mO kmO), dI 52 4 3 mO kmO, oI z3 25 (dC c jc), oI z2 25 (dC b jb), oI z1 25 (dC a ja)]) (by exact Sub.k (.k (.d (.d (.k (.k (.k (.k (.k (.k (.d (.d (.k (.k (.k .z))))))))))))))) ?_
  refine TO.nil (T.seq (T.region ?_))
  refine TO.quiet (q_load_boxAgg 10 Tryd.underlying25 rfl inf25 rfl rfl rfl) (TO.quiet (q_load_boxAgg 9 Tryd.underlying25 rfl inf25 rfl rfl rfl) ?_)
  have hk221 := fun (w1 : World) (hI : Inv w [oI z17 25 (dC mL kmR), dI 52 4 3 mL kmR, oI z15 25 (dC mL kmL), dI 52 4 3 mL kmL, oI z14 25 (dC mOC kmOC), dI 52 4 3 mOC kmOC, oI z6 25 (dC mO kmO), dI 52 4 3 mO kmO, oI z3 25 (dC c jc), oI z2 25 (dC b jb), oI z1 25 (dC a ja)] w1) => xorK w1 Ha Hb ja jb (hI.atB ha) (hI.atB hb) (by decide) (HasL.small Ha Hb (by decide)) emX
  refine TO.loud rfl (l_call ent24 (CallT.of_pure hk221) rfl ?_)
  clear hk221
  rintro vr O' ⟨N, rfl, kmX, rfl, rfl⟩
  refine TO.quiet (q_move rfl) (TO.quiet (q_extract (vs := _) rfl rfl) (TO.quiet (q_extract (vs := _) rfl rfl) ?_))
  refine TO.loud rfl (l_alloc inf25 rfl (fun z18 => ?_))
  refine TO.loud rfl (l_store_box (v := (dV mX kmX)) (vs := (dC mX kmX)) 0 inf25 rfl rfl rfl rfl rfl rfl (by simp [putL]) ?_)
  refine TO.quiet (q_assign rfl) ?_
  refine TO.nil (T.seq (T.region ?_))
  refine TO.quiet (q_load_boxAgg 12 Tryd.underlying25 rfl inf25 rfl rfl rfl) (TO.quiet (q_load_boxAgg 11 Tryd.underlying25 rfl inf25 rfl rfl rfl) ?_)
  have hk227 := fun (w1 : World) (hI : Inv w [oI z18 25 (dC mX kmX), dI 52 4 3 mX kmX, oI z17 25 (dC mL kmR), dI 52 4 3 mL kmR, oI z15 25 (dC mL kmL), dI 52 4 3 mL kmL, oI z14 25 (dC mOC kmOC), dI 52 4 3 mOC kmOC, oI z6 25 (dC mO kmO), dI 52 4 3 mO kmO, oI z3 25 (dC c jc), oI z2 25 (dC b jb), oI z1 25 (dC a ja)] w1) => minusK w1 Ha Hb ja jb (hI.atB ha) (hI.atB hb) (by decide) (HasL.small Ha Hb (by decide)) emAB
  refine TO.loud rfl (l_call ent25 (CallT.of_pure hk227) rfl ?_)
  clear hk227
  rintro vr O' ⟨N, rfl, kmAB, rfl, rfl⟩
  refine TO.quiet (q_move rfl) (TO.quiet (q_extract (vs := _) rfl rfl) (TO.quiet (q_extract (vs := _) rfl rfl) ?_))
  refine TO.loud rfl (l_alloc inf25 rfl (fun z19 => ?_))
  refine TO.loud rfl (l_store_box (v := (dV mAB kmAB)) (vs := (dC mAB kmAB)) 0 inf25 rfl rfl rfl rfl rfl rfl (by simp [putL]) ?_)
  refine TO.quiet (q_assign rfl) ?_
  refine TO.nil (T.seq (T.region ?_))
  refine TO.quiet (q_load_boxAgg 13 Tryd.underlying25 rfl inf25 rfl rfl rfl) (TO.quiet (q_load_boxAgg 14 Tryd.underlying25 rfl inf25 rfl rfl rfl) ?_)
  have hk233 := fun (w1 : World) (hI : Inv w [oI z19 25 (dC mAB kmAB), dI 52 4 3 mAB kmAB, oI z18 25 (dC mX kmX), dI 52 4 3 mX kmX, oI z17 25 (dC mL kmR), dI 52 4 3 mL kmR, oI z15 25 (dC mL kmL), dI 52 4 3 mL kmL, oI z14 25 (dC mOC kmOC), dI 52 4 3 mOC kmOC, oI z6 25 (dC mO kmO), dI 52 4 3 mO kmO, oI z3 25 (dC c jc), oI z2 25 (dC b jb), oI z1 25 (dC a ja)] w1) => minusK w1 Hb Ha jb ja (hI.atB hb) (hI.atB ha) (by decide) (HasL.small Hb Ha (by decide)) emBA
  refine TO.loud rfl (l_call ent25 (CallT.of_pure hk233) rfl ?_)
  clear hk233
  rintro vr O' ⟨N, rfl, kmBA, rfl, rfl⟩
  refine TO.quiet (q_move rfl) (TO.quiet (q_extract (vs := _) rfl rfl) (TO.quiet (q_extract (vs := _) rfl rfl) ?_))
  refine TO.loud rfl (l_alloc inf25 rfl (fun z20 => ?_))
  refine TO.loud rfl (l_store_box (v := (dV mBA kmBA)) (vs := (dC mBA kmBA)) 0 inf25 rfl rfl rfl rfl rfl rfl (by simp [putL]) ?_)
  refine TO.quiet (q_assign rfl) ?_
  refine TO.nil (T.seq (T.region ?_))
  refine TO.quiet (q_load_boxAgg 2 Tryd.underlying25 rfl inf25 rfl rfl rfl) (TO.quiet (q_load_boxAgg 0 Tryd.underlying25 rfl inf25 rfl rfl rfl) ?_)
  have hk239 := fun (w1 : World) (hI : Inv w [oI z20 25 (dC mBA kmBA), dI 52 4 3 mBA kmBA, oI z19 25 (dC mAB kmAB), dI 52 4 3 mAB kmAB, oI z18 25 (dC mX kmX), dI 52 4 3 mX kmX, oI z17 25 (dC mL kmR), dI 52 4 3 mL kmR, oI z15 25 (dC mL kmL), dI 52 4 3 mL kmL, oI z14 25 (dC mOC kmOC), dI 52 4 3 mOC kmOC, oI z6 25 (dC mO kmO), dI 52 4 3 mO kmO, oI z3 25 (dC c jc), oI z2 25 (dC b jb), oI z1 25 (dC a ja)] w1) => orK w1 HmAB HmBA kmAB kmBA (hI.at (k := kmAB) (List.mem_of_getElem? (i := 3) rfl)) (hI.at (k := kmBA) (List.mem_of_getElem? (i := 1) rfl)) (by decide) (Nat.lt_of_le_of_lt hsB (by decide)) emB2
  refine TO.loud rfl (l_call ent23 (CallT.of_pure hk239) rfl ?_)
  clear hk239
  rintro vr O' ⟨N, rfl, kmB2, rfl, rfl⟩
  refine TO.quiet (q_move rfl) (TO.quiet (q_extract (vs := _) rfl rfl) (TO.quiet (q_extract (vs := _) rfl rfl) ?_))
  refine TO.loud rfl (l_alloc inf25 rfl (fun z21 => ?_))
  refine TO.loud rfl (l_store_box (v := (dV mX kmB2)) (vs := (dC mX kmB2)) 0 inf25 rfl rfl rfl rfl rfl rfl (by simp [putL]) ?_)
  refine TO.quiet (q_assign rfl) ?_
  refine TO.nil (T.seq (T.region ?_))
  refine TO.quiet (q_load_boxAgg 14 Tryd.underlying25 rfl inf25 rfl rfl rfl) (TO.quiet (q_load_boxAgg 16 Tryd.underlying25 rfl inf25 rfl rfl rfl) ?_)
  have hk245 := fun (w1 : World) (hI : Inv w [oI z21 25 (dC mX kmB2), dI 52 4 3 mX kmB2, oI z20 25 (dC mBA kmBA), dI 52 4 3 mBA kmBA, oI z19 25 (dC mAB kmAB), dI 52 4 3 mAB kmAB, oI z18 25 (dC mX kmX), dI 52 4 3 mX kmX, oI z17 25 (dC mL kmR), dI 52 4 3 mL kmR, oI z15 25 (dC mL kmL), dI 52 4 3 mL kmL, oI z14 25 (dC mOC kmOC), dI 52 4 3 mOC kmOC, oI z6 25 (dC mO kmO), dI 52 4 3 mO kmO, oI z3 25 (dC c jc), oI z2 25 (dC b jb), oI z1 25 (dC a ja)] w1) => orK w1 HmO Hc kmO jc (hI.at (k := kmO) (List.mem_of_getElem? (i := 15) rfl)) (hI.atB hcc) (by decide) (HasL.small HmO Hc (by decide)) em3
  refine TO.loud rfl (l_call ent23 (CallT.of_pure hk245) rfl ?_)
  clear hk245
  rintro vr O' ⟨N, rfl, km3, rfl, rfl⟩
  refine TO.quiet (q_move rfl) (TO.quiet (q_extract (vs := _) rfl rfl) (TO.quiet (q_extract (vs := _) rfl rfl) ?_))
  refine TO.loud rfl (l_alloc inf25 rfl (fun z22 => ?_))
  refine TO.loud rfl (l_store_box (v := (dV m3 km3)) (vs := (dC m3 km3)) 0 inf25 rfl rfl rfl rfl rfl rfl (by simp [putL]) ?_)
  refine TO.quiet (q_assign rfl) ?_
  refine TO.nil (T.seq (T.region ?_))
  refine TO.quiet (q_load_boxAgg 20 Tryd.underlying25 rfl inf25 rfl rfl rfl) (TO.quiet (q_load_boxAgg 14 Tryd.underlying25 rfl inf25 rfl rfl rfl) ?_)
  have hk251 := fun (w1 : World) (hI : Inv w [oI z22 25 (dC m3 km3), dI 52 4 3 m3 km3, oI z21 25 (dC mX kmB2), dI 52 4 3 mX kmB2, oI z20 25 (dC mBA kmBA), dI 52 4 3 mBA kmBA, oI z19 25 (dC mAB kmAB), dI 52 4 3 mAB kmAB, oI z18 25 (dC mX kmX), dI 52 4 3 mX kmX, oI z17 25 (dC mL kmR), dI 52 4 3 mL kmR, oI z15 25 (dC mL kmL), dI 52 4 3 mL kmL, oI z14 25 (dC mOC kmOC), dI 52 4 3 mOC kmOC, oI z6 25 (dC mO kmO), dI 52 4 3 mO kmO, oI z3 25 (dC c jc), oI z2 25 (dC b jb), oI z1 25 (dC a ja)] w1) => orK w1 Ha HmOC ja kmOC (hI.atB ha) (hI.at (k := kmOC) (List.mem_of_getElem? (i := 15) rfl)) (by decide) (HasL.small Ha HmOC (by decide)) em4
  refine TO.loud rfl (l_call ent23 (CallT.of_pure hk251) rfl ?_)
  clear hk251
  rintro vr O' ⟨N, rfl, km4, rfl, rfl⟩
  refine TO.quiet (q_move rfl) (TO.quiet (q_extract (vs := _) rfl rfl) (TO.quiet (q_extract (vs := _) rfl rfl) ?_))
  refine TO.loud rfl (l_alloc inf25 rfl (fun z23 => ?_))
  refine TO.loud rfl (l_store_box (v := (dV m3 km4)) (vs := (dC m3 km4)) 0 inf25 rfl rfl rfl rfl rfl rfl (by simp [putL]) ?_)
  refine TO.quiet (q_assign rfl) ?_
  refine TO.nil (T.seq (T.region ?_))
  refine TO.quiet (q_move rfl) (TO.quiet (QT.toB (q_eql rfl rfl) (decide_eq_true rfl)) (TO.quiet (q_move rfl) ?_))
  refine TO.guarded rfl rfl rfl (LT.of_quiet rfl rfl (q_move rfl) ?_)
  refine TO.guarded rfl rfl rfl (LT.of_quiet rfl rfl (QT.toB (q_eql rfl rfl) (decide_eq_true rfl)) ?_)
  refine TO.quiet (q_pick1 rfl rfl) (TO.quiet (q_move rfl) ?_)
  refine TO.guarded rfl rfl rfl (LT.of_quiet rfl rfl (q_move rfl) ?_)
  refine TO.guarded rfl rfl rfl (LT.of_quiet rfl rfl (QT.toB (q_eql rfl rfl) (decide_eq_true rfl)) ?_)
  refine TO.quiet (q_pick1 rfl rfl) (TO.quiet (q_move rfl) ?_)
  refine TO.guarded rfl rfl rfl (LT.of_quiet rfl rfl (q_move rfl) ?_)
  refine TO.guarded rfl rfl rfl (LT.of_quiet rfl rfl (QT.toB (q_eql rfl rfl) (decide_eq_true rfl)) ?_)
  refine TO.quiet (q_pick1 rfl rfl) (TO.quiet (q_move rfl) ?_)
  refine TO.guarded rfl rfl rfl (LT.of_quiet rfl rfl (q_move rfl) ?_)
  refine TO.guarded rfl rfl rfl (LT.of_quiet rfl rfl (QT.toB (q_eql rfl rfl) (decide_eq_true rfl)) ?_)
  refine TO.quiet (q_pick1 rfl rfl) (TO.quiet (q_move rfl) ?_)
  refine TO.guarded rfl rfl rfl (LT.of_quiet rfl rfl (q_move rfl) ?_)
  refine TO.guarded rfl rfl rfl (LT.of_quiet rfl rfl (QT.toB (q_eql rfl rfl) (decide_eq_true rfl)) ?_)
  refine TO.quiet (q_pick1 rfl rfl) (TO.quiet (q_move rfl) ?_)
  refine TO.guarded rfl rfl rfl (LT.of_quiet rfl rfl (q_move rfl) ?_)
  refine TO.guarded rfl rfl rfl (LT.of_quiet rfl rfl (QT.toB (q_eql rfl rfl) (decide_eq_true rfl)) ?_)
  refine TO.quiet (q_pick1 rfl rfl) (TO.quiet (q_move rfl) ?_)
  refine TO.guarded rfl rfl rfl (LT.of_quiet rfl rfl (q_move rfl) ?_)
  refine TO.guarded rfl rfl rfl (LT.of_quiet rfl rfl (QT.toB (q_eql rfl rfl) (decide_eq_true rfl)) ?_)
  refine TO.quiet (q_pick1 rfl rfl) (TO.quiet (q_move rfl) ?_)
  refine TO.guarded rfl rfl rfl (LT.of_quiet rfl rfl (q_move rfl) ?_)
  refine TO.guarded rfl rfl rfl (LT.of_quiet rfl rfl (QT.toB (q_eql rfl rfl) (decide_eq_true rfl)) ?_)
  refine TO.quiet (q_pick1 rfl rfl) (TO.quiet (q_move rfl) ?_)
  refine TO.guarded rfl rfl rfl (LT.of_quiet rfl rfl (q_move rfl) ?_)
  refine TO.guarded rfl rfl rfl (LT.of_quiet rfl rfl (QT.toB (q_eql rfl rfl) (decide_eq_true rfl)) ?_)
  refine TO.quiet (q_pick1 rfl rfl) (TO.quiet (q_move rfl) ?_)
  refine TO.guarded rfl rfl rfl (LT.of_quiet rfl rfl (q_load_boxAgg 14 Tryd.underlying25 rfl inf25 rfl rfl rfl) ?_)
  refine TO.guarded rfl rfl rfl (LT.of_quiet rfl rfl (q_load_boxAgg 12 Tryd.underlying25 rfl inf25 rfl rfl rfl) ?_)
  have hk295 := fun (w1 : World) (hI : Inv w [oI z23 25 (dC m3 km4), dI 52 4 3 m3 km4, oI z22 25 (dC m3 km3), dI 52 4 3 m3 km3, oI z21 25 (dC mX kmB2), dI 52 4 3 mX kmB2, oI z20 25 (dC mBA kmBA), dI 52 4 3 mBA kmBA, oI z19 25 (dC mAB kmAB), dI 52 4 3 mAB kmAB, oI z18 25 (dC mX kmX), dI 52 4 3 mX kmX, oI z17 25 (dC mL kmR), dI 52 4 3 mL kmR, oI z15 25 (dC mL kmL), dI 52 4 3 mL kmL, oI z14 25 (dC mOC kmOC), dI 52 4 3 mOC kmOC, oI z6 25 (dC mO kmO), dI 52 4 3 mO kmO, oI z3 25 (dC c jc), oI z2 25 (dC b jb), oI z1 25 (dC a ja)] w1) => equalK w1 mL kmL kmR (hI.at (k := kmL) (List.mem_of_getElem? (i := 15) rfl)) (hI.at (k := kmR) (List.mem_of_getElem? (i := 13) rfl)) bL.1 bL.2.1 bL.2.2
  refine TO.guarded rfl rfl rfl (l_call ent15 (CallT.of_pure hk295) rfl ?_)
  clear hk295
  rintro vr O' ⟨N, rfl, rfl, rfl⟩
  refine TO.quiet (q_pick1 rfl rfl) (TO.quiet (q_move rfl) ?_)
  refine TO.guarded rfl rfl rfl (LT.of_quiet rfl rfl (q_load_boxAgg 10 Tryd.underlying25 rfl inf25 rfl rfl rfl) ?_)
  refine TO.guarded rfl rfl rfl (LT.of_quiet rfl rfl (q_load_boxAgg 4 Tryd.underlying25 rfl inf25 rfl rfl rfl) ?_)
  have hk300 := fun (w1 : World) (hI : Inv w [oI z23 25 (dC m3 km4), dI 52 4 3 m3 km4, oI z22 25 (dC m3 km3), dI 52 4 3 m3 km3, oI z21 25 (dC mX kmB2), dI 52 4 3 mX kmB2, oI z20 25 (dC mBA kmBA), dI 52 4 3 mBA kmBA, oI z19 25 (dC mAB kmAB), dI 52 4 3 mAB kmAB, oI z18 25 (dC mX kmX), dI 52 4 3 mX kmX, oI z17 25 (dC mL kmR), dI 52 4 3 mL kmR, oI z15 25 (dC mL kmL), dI 52 4 3 mL kmL, oI z14 25 (dC mOC kmOC), dI 52 4 3 mOC kmOC, oI z6 25 (dC mO kmO), dI 52 4 3 mO kmO, oI z3 25 (dC c jc), oI z2 25 (dC b jb), oI z1 25 (dC a ja)] w1) => equalK w1 mX kmX kmB2 (hI.at (k := kmX) (List.mem_of_getElem? (i := 11) rfl)) (hI.at (k := kmB2) (List.mem_of_getElem? (i := 5) rfl)) bX.1 bX.2.1 bX.2.2
  refine TO.guarded rfl rfl rfl (l_call ent15 (CallT.of_pure hk300) rfl ?_)
  clear hk300
  rintro vr O' ⟨N, rfl, rfl, rfl⟩
  refine TO.quiet (q_pick1 rfl rfl) (TO.quiet (q_move rfl) ?_)
  refine TO.guarded rfl rfl rfl (LT.of_quiet rfl rfl (q_load_boxAgg 2 Tryd.underlying25 rfl inf25 rfl rfl rfl) ?_)
  refine TO.guarded rfl rfl rfl (LT.of_quiet rfl rfl (q_load_boxAgg 0 Tryd.underlying25 rfl inf25 rfl rfl rfl) ?_)
  have hk305 := fun (w1 : World) (hI : Inv w [oI z23 25 (dC m3 km4), dI 52 4 3 m3 km4, oI z22 25 (dC m3 km3), dI 52 4 3 m3 km3, oI z21 25 (dC mX kmB2), dI 52 4 3 mX kmB2, oI z20 25 (dC mBA kmBA), dI 52 4 3 mBA kmBA, oI z19 25 (dC mAB kmAB), dI 52 4 3 mAB kmAB, oI z18 25 (dC mX kmX), dI 52 4 3 mX kmX, oI z17 25 (dC mL kmR), dI 52 4 3 mL kmR, oI z15 25 (dC mL kmL), dI 52 4 3 mL kmL, oI z14 25 (dC mOC kmOC), dI 52 4 3 mOC kmOC, oI z6 25 (dC mO kmO), dI 52 4 3 mO kmO, oI z3 25 (dC c jc), oI z2 25 (dC b jb), oI z1 25 (dC a ja)] w1) => equalK w1 m3 km3 km4 (hI.at (k := km3) (List.mem_of_getElem? (i := 3) rfl)) (hI.at (k := km4) (List.mem_of_getElem? (i := 1) rfl)) b3.1 b3.2.1 b3.2.2
  refine TO.guarded rfl rfl rfl (l_call ent15 (CallT.of_pure hk305) rfl ?_)
  clear hk305
  rintro vr O' ⟨N, rfl, rfl, rfl⟩
  refine TO.quiet (q_pick1 rfl rfl) (TO.quiet (q_assign rfl) ?_)
  refine TO.nil (T.ret (Res.drop ?_))
  refine Res.one (.bool true) Tryd.results5 rfl ?_
  exact ⟨[], Sub.z, rfl, rfl⟩
theorem lawsLaw (w : World) (a : DFA) (nba fba : Option Addr) (nca fca : Nat) (vsa : List Value) (ha : DfaAt w a nba vsa fba) (ha1 : a.next.length < 9223372036854775807) (ha2 : ∀ r ∈ a.next, r.length < 9223372036854775807) (ha3 : a.final.length < 9223372036854775807) (b : DFA) (nbb fbb : Option Addr) (ncb fcb : Nat) (vsb : List Value) (hb : DfaAt w b nbb vsb fbb) (hb1 : b.next.length < 9223372036854775807) (hb2 : ∀ r ∈ b.next, r.length < 9223372036854775807) (hb3 : b.final.length < 9223372036854775807) (c : DFA) (nbc fbc : Option Addr) (ncc fcc : Nat) (vsc : List Value) (hc : DfaAt w c nbc vsc fbc) (hc1 : c.next.length < 9223372036854775807) (hc2 : ∀ r ∈ c.next, r.length < 9223372036854775807) (hc3 : c.final.length < 9223372036854775807)  :
    PureT Tryd.prog 5 [.agg (dfaCells a nba nca fba fca).toArray, .agg (dfaCells b nbb ncb fbb fcb).toArray, .agg (dfaCells c nbc ncc fbc fcc).toArray] w fun v N => v = .bool true ∧ N = [] := by
  obtain ⟨ja, ga, ea⟩ := ha.dk nca fca
  obtain ⟨jb, gb, eb⟩ := hb.dk ncb fcb
  obtain ⟨jc, gc, ec⟩ := hc.dk ncc fcc
  rw [ea, eb, ec]
  exact lawsW w a ja ga ha1 ha2 ha3 b jb gb hb1 hb2 hb3 c jc gc hc1 hc2 hc3 
end Go.Proofs.YtdaapdamcekkgaaDoor
