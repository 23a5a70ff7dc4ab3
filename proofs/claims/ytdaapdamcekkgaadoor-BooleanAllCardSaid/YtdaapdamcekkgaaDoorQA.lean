/- Contracts of functions of the program (QA): what each call answers and that it leaves memory as it was. Conditions: those each theorem names. -/
import Derived.Test.YtdaapdamcekkgaaDoorEnd
import Derived.Test.YtdaapdamcekkgaaDoorRun
import Derived.Test.YtdaapdamcekkgaaDoorBolD
set_option linter.unusedSectionVars false
set_option linter.unusedSimpArgs false
set_option linter.unusedVariables false
set_option linter.unnecessarySimpa false
namespace Go.Proofs.YtdaapdamcekkgaaDoor
open Go.Lx Go.RowKit
set_option linter.unusedVariables false
set_option linter.unusedSimpArgs false
theorem bAll3 (w : World) (n : Int) (a : DFA) (ja : DK) (ha : At w a ja) (ba : a.next.length < 9223372036854775807 ∧ (∀ r ∈ a.next, r.length < 9223372036854775807) ∧ a.final.length < 9223372036854775807) (b : DFA) (jb : DK) (hb : At w b jb) (bb : b.next.length < 9223372036854775807 ∧ (∀ r ∈ b.next, r.length < 9223372036854775807) ∧ b.final.length < 9223372036854775807) (c : DFA) (jc : DK) (hc : At w c jc) (bc : c.next.length < 9223372036854775807 ∧ (∀ r ∈ c.next, r.length < 9223372036854775807) ∧ c.final.length < 9223372036854775807) (ad : Option Addr) (hS : Sl w ad (dC a ja ++ (dC b jb ++ dC c jc))) (hA : 0 ≤ n → n ≤ 6 → AllOk (stayD n true) [a, b, c]) {M : DFA} {e : Nat} (hM : (allV n [a, b, c]).1 = M) (he : (allV n [a, b, c]).2 = e) :
    PureT Tryd.prog 32 [.int .i64 n, .slice ad 3 3] w fun v N => ∃ k' : DK, v = .tuple #[dV M k', .int .i64 (e : Int)] ∧ N = [dI 52 4 3 M k'] := by
  subst hM; subst he
  exact bAllC w n [⟨a, ja.nb, ja.fb, ja.nc, ja.fc, vals ja.qs⟩, ⟨b, jb.nb, jb.fb, jb.nc, jb.fc, vals jb.qs⟩, ⟨c, jc.nb, jc.fb, jc.nc, jc.fc, vals jc.qs⟩] ad 3 hS (allC ha (allC hb (allC hc allN))) (allC ba (allC bb (allC bc allN))) (show 3 < 1000 by decide) hA
set_option maxHeartbeats 4000000 in
set_option maxRecDepth 20000 in
theorem allW (w : World) (a : DFA) (ja : DK) (ha : At w a ja) (ha1 : a.next.length < 9223372036854775807) (ha2 : ∀ r ∈ a.next, r.length < 9223372036854775807) (ha3 : a.final.length < 9223372036854775807) (b : DFA) (jb : DK) (hb : At w b jb) (hb1 : b.next.length < 9223372036854775807) (hb2 : ∀ r ∈ b.next, r.length < 9223372036854775807) (hb3 : b.final.length < 9223372036854775807) (c : DFA) (jc : DK) (hc : At w c jc) (hc1 : c.next.length < 9223372036854775807) (hc2 : ∀ r ∈ c.next, r.length < 9223372036854775807) (hc3 : c.final.length < 9223372036854775807) (wb : Option Addr) (wc : Nat) (o : List Nat) (hW : Sl w wb (byts o)) (hwb : o.length < 9223372036854775807) (hw8 : ∀ x ∈ o, x < 256) :
    PureT Tryd.prog 9 [dV a ja, dV b jb, dV c jc, .slice wb o.length wc] w fun v N => v = .bool true ∧ N = [] := by
  refine CallT.enter Tryd.func9 rfl Tryd.ntmps9 rfl ?_
  have hcc := hc
  refine T.seq (T.region ?_)
  refine TO.loud rfl (l_box (v := (dV a ja)) (cs := (dC a ja)) rfl rfl (fun z1 => ?_))
  refine TO.loud rfl (l_box (v := (dV b jb)) (cs := (dC b jb)) rfl rfl (fun z2 => ?_))
  refine TO.loud rfl (l_box (v := (dV c jc)) (cs := (dC c jc)) rfl rfl (fun z3 => ?_))
  refine TO.quiet (q_assign rfl) ?_
  refine TO.nil (T.seq (T.seq (T.region ?_)))
  refine TO.quiet (q_load_boxAgg 2 Tryd.underlying25 rfl inf25 rfl rfl rfl) (TO.quiet (q_load_boxAgg 1 Tryd.underlying25 rfl inf25 rfl rfl rfl) (TO.quiet (q_load_boxAgg 0 Tryd.underlying25 rfl inf25 rfl rfl rfl) ?_))
  refine TO.loud rfl (l_buildSlice (m := 3) (parts := [(0, _), (1, _), (2, _)]) (cs := [(.int .i64 a.vars), (.int .i64 a.start), (.slice ja.nb a.next.length ja.nc), (.slice ja.fb a.final.length ja.fc), (.int .i64 b.vars), (.int .i64 b.start), (.slice jb.nb b.next.length jb.nc), (.slice jb.fb b.final.length jb.fc), (.int .i64 c.vars), (.int .i64 c.start), (.slice jc.nb c.next.length jc.nc), (.slice jc.fb c.final.length jc.fc)]) Tryd.underlying48 inf25 (by decide) (by kernel_rfl) rfl (fun z4 => ?_))
  have hk17 := fun (w1 : World) (hI : Inv w [rowI (some ⟨z4, 0, none⟩) 3 25 4 [(.int .i64 a.vars), (.int .i64 a.start), (.slice ja.nb a.next.length ja.nc), (.slice ja.fb a.final.length ja.fc), (.int .i64 b.vars), (.int .i64 b.start), (.slice jb.nb b.next.length jb.nc), (.slice jb.fb b.final.length jb.fc), (.int .i64 c.vars), (.int .i64 c.start), (.slice jc.nb c.next.length jc.nc), (.slice jc.fb c.final.length jc.fc)], oI z3 25 (dC c jc), oI z2 25 (dC b jb), oI z1 25 (dC a ja)] w1) => long3 w1 (some ⟨z4, 0, none⟩) a b c ja jb jc (hI.slOf (List.mem_of_getElem? (i := 0) rfl)) (hI.atB ha) (hI.atB hb) (hI.atB hcc) ha1 hb1 hc1
  refine TO.loud rfl (l_call ent10 (CallT.of_pure hk17) rfl ?_)
  clear hk17
  rintro vr O' ⟨N, rfl, rfl, rfl⟩
  by_cases hs18 : (longB [a, b, c]) = true
  · refine TO.quiet (QT.toB (q_move rfl) (hs18)) ?_
    refine TO.passed rfl rfl ?_
    refine TO.passed rfl rfl ?_
    refine TO.passed rfl rfl ?_
    refine TO.passed rfl rfl ?_
    refine TO.quiet (q_pick1 rfl rfl) (TO.quiet (q_move rfl) ?_)
    refine TO.passed rfl rfl ?_
    refine TO.passed rfl rfl ?_
    refine TO.passed rfl rfl ?_
    refine TO.passed rfl rfl ?_
    refine TO.quiet (q_pick1 rfl rfl) (TO.quiet (q_move rfl) ?_)
    refine TO.passed rfl rfl ?_
    refine TO.passed rfl rfl ?_
    refine TO.passed rfl rfl ?_
    refine TO.passed rfl rfl ?_
    refine TO.quiet (q_pick1 rfl rfl) (TO.quiet (q_move rfl) ?_)
    refine TO.passed rfl rfl ?_
    refine TO.passed rfl rfl ?_
    refine TO.passed rfl rfl ?_
    refine TO.quiet (q_pick1 rfl rfl) (TO.quiet (q_move rfl) ?_)
    refine TO.passed rfl rfl ?_
    refine TO.passed rfl rfl ?_
    refine TO.quiet (q_pick1 rfl rfl) ?_
    refine TO.sub (O' := [oI z3 25 (dC c jc), oI z2 25 (dC b jb), oI z1 25 (dC a ja)]) (by exact Sub.d (.k (.k (.k .z)))) ?_
    refine TO.nil ?_
    refine T.cond1 rfl ?_
    refine T.seq (T.region ?_)
    have hk45 := fun (w1 : World) (hI : Inv w [oI z3 25 (dC c jc), oI z2 25 (dC b jb), oI z1 25 (dC a ja)] w1) => awakeC w1
    refine TO.loud rfl (l_call ent11 (CallT.of_pure hk45) rfl ?_)
    clear hk45
    rintro vr O' ⟨N, rfl, rfl, rfl⟩
    refine TO.quiet (q_assign rfl) ?_
    refine TO.nil (T.ret (Res.drop ?_))
    refine Res.one (.bool true) Tryd.results9 rfl ?_
    exact ⟨[], Sub.z, rfl, rfl⟩
  refine TO.quiet (QT.toB (q_move rfl) (Bool.eq_false_iff.2 hs18)) ?_
  refine TO.guarded rfl rfl rfl (LT.of_quiet rfl rfl (q_fieldAddr Tryd.underlying25 rfl inf22 rfl rfl) ?_)
  refine TO.guarded rfl rfl rfl (LT.of_quiet rfl rfl (q_load_box 3 Tryd.underlying22 rfl rfl rfl rfl) ?_)
  refine TO.guarded rfl rfl rfl (LT.of_quiet rfl rfl (q_len Tryd.underlying22 rfl) ?_)
  refine TO.guarded rfl rfl rfl (LT.of_quiet rfl rfl (q_gtr rfl rfl) ?_)
  refine TO.quiet (q_pick0 rfl rfl) ?_
  by_cases hs24 : (a.next.length : Int) > 4
  · refine TO.quiet (QT.toB (q_move rfl) (decide_eq_true hs24)) ?_
    refine TO.passed rfl rfl ?_
    refine TO.passed rfl rfl ?_
    refine TO.passed rfl rfl ?_
    refine TO.passed rfl rfl ?_
    refine TO.quiet (q_pick1 rfl rfl) (TO.quiet (q_move rfl) ?_)
    refine TO.passed rfl rfl ?_
    refine TO.passed rfl rfl ?_
    refine TO.passed rfl rfl ?_
    refine TO.passed rfl rfl ?_
    refine TO.quiet (q_pick1 rfl rfl) (TO.quiet (q_move rfl) ?_)
    refine TO.passed rfl rfl ?_
    refine TO.passed rfl rfl ?_
    refine TO.passed rfl rfl ?_
    refine TO.quiet (q_pick1 rfl rfl) (TO.quiet (q_move rfl) ?_)
    refine TO.passed rfl rfl ?_
    refine TO.passed rfl rfl ?_
    refine TO.quiet (q_pick1 rfl rfl) ?_
    refine TO.sub (O' := [oI z3 25 (dC c jc), oI z2 25 (dC b jb), oI z1 25 (dC a ja)]) (by exact Sub.d (.k (.k (.k .z)))) ?_
    refine TO.nil ?_
    refine T.cond1 rfl ?_
    refine T.seq (T.region ?_)
    have hk45 := fun (w1 : World) (hI : Inv w [oI z3 25 (dC c jc), oI z2 25 (dC b jb), oI z1 25 (dC a ja)] w1) => awakeC w1
    refine TO.loud rfl (l_call ent11 (CallT.of_pure hk45) rfl ?_)
    clear hk45
    rintro vr O' ⟨N, rfl, rfl, rfl⟩
    refine TO.quiet (q_assign rfl) ?_
    refine TO.nil (T.ret (Res.drop ?_))
    refine Res.one (.bool true) Tryd.results9 rfl ?_
    exact ⟨[], Sub.z, rfl, rfl⟩
  refine TO.quiet (QT.toB (q_move rfl) (decide_eq_false hs24)) ?_
  refine TO.guarded rfl rfl rfl (LT.of_quiet rfl rfl (q_fieldAddr Tryd.underlying25 rfl inf22 rfl rfl) ?_)
  refine TO.guarded rfl rfl rfl (LT.of_quiet rfl rfl (q_load_box 2 Tryd.underlying22 rfl rfl rfl rfl) ?_)
  refine TO.guarded rfl rfl rfl (LT.of_quiet rfl rfl (q_len Tryd.underlying22 rfl) ?_)
  refine TO.guarded rfl rfl rfl (LT.of_quiet rfl rfl (q_gtr rfl rfl) ?_)
  refine TO.quiet (q_pick0 rfl rfl) ?_
  by_cases hs30 : (b.next.length : Int) > 4
  · refine TO.quiet (QT.toB (q_move rfl) (decide_eq_true hs30)) ?_
    refine TO.passed rfl rfl ?_
    refine TO.passed rfl rfl ?_
    refine TO.passed rfl rfl ?_
    refine TO.passed rfl rfl ?_
    refine TO.quiet (q_pick1 rfl rfl) (TO.quiet (q_move rfl) ?_)
    refine TO.passed rfl rfl ?_
    refine TO.passed rfl rfl ?_
    refine TO.passed rfl rfl ?_
    refine TO.quiet (q_pick1 rfl rfl) (TO.quiet (q_move rfl) ?_)
    refine TO.passed rfl rfl ?_
    refine TO.passed rfl rfl ?_
    refine TO.quiet (q_pick1 rfl rfl) ?_
    refine TO.sub (O' := [oI z3 25 (dC c jc), oI z2 25 (dC b jb), oI z1 25 (dC a ja)]) (by exact Sub.d (.k (.k (.k .z)))) ?_
    refine TO.nil ?_
    refine T.cond1 rfl ?_
    refine T.seq (T.region ?_)
    have hk45 := fun (w1 : World) (hI : Inv w [oI z3 25 (dC c jc), oI z2 25 (dC b jb), oI z1 25 (dC a ja)] w1) => awakeC w1
    refine TO.loud rfl (l_call ent11 (CallT.of_pure hk45) rfl ?_)
    clear hk45
    rintro vr O' ⟨N, rfl, rfl, rfl⟩
    refine TO.quiet (q_assign rfl) ?_
    refine TO.nil (T.ret (Res.drop ?_))
    refine Res.one (.bool true) Tryd.results9 rfl ?_
    exact ⟨[], Sub.z, rfl, rfl⟩
  refine TO.quiet (QT.toB (q_move rfl) (decide_eq_false hs30)) ?_
  refine TO.guarded rfl rfl rfl (LT.of_quiet rfl rfl (q_fieldAddr Tryd.underlying25 rfl inf22 rfl rfl) ?_)
  refine TO.guarded rfl rfl rfl (LT.of_quiet rfl rfl (q_load_box 1 Tryd.underlying22 rfl rfl rfl rfl) ?_)
  refine TO.guarded rfl rfl rfl (LT.of_quiet rfl rfl (q_len Tryd.underlying22 rfl) ?_)
  refine TO.guarded rfl rfl rfl (LT.of_quiet rfl rfl (q_gtr rfl rfl) ?_)
  refine TO.quiet (q_pick0 rfl rfl) ?_
  by_cases hs36 : (c.next.length : Int) > 4
  · refine TO.quiet (QT.toB (q_move rfl) (decide_eq_true hs36)) ?_
    refine TO.passed rfl rfl ?_
    refine TO.passed rfl rfl ?_
    refine TO.passed rfl rfl ?_
    refine TO.quiet (q_pick1 rfl rfl) (TO.quiet (q_move rfl) ?_)
    refine TO.passed rfl rfl ?_
    refine TO.passed rfl rfl ?_
    refine TO.quiet (q_pick1 rfl rfl) ?_
    refine TO.sub (O' := [oI z3 25 (dC c jc), oI z2 25 (dC b jb), oI z1 25 (dC a ja)]) (by exact Sub.d (.k (.k (.k .z)))) ?_
    refine TO.nil ?_
    refine T.cond1 rfl ?_
    refine T.seq (T.region ?_)
    have hk45 := fun (w1 : World) (hI : Inv w [oI z3 25 (dC c jc), oI z2 25 (dC b jb), oI z1 25 (dC a ja)] w1) => awakeC w1
    refine TO.loud rfl (l_call ent11 (CallT.of_pure hk45) rfl ?_)
    clear hk45
    rintro vr O' ⟨N, rfl, rfl, rfl⟩
    refine TO.quiet (q_assign rfl) ?_
    refine TO.nil (T.ret (Res.drop ?_))
    refine Res.one (.bool true) Tryd.results9 rfl ?_
    exact ⟨[], Sub.z, rfl, rfl⟩
  refine TO.quiet (QT.toB (q_move rfl) (decide_eq_false hs36)) ?_
  refine TO.guarded rfl rfl rfl (LT.of_quiet rfl rfl (q_move rfl) ?_)
  refine TO.guarded rfl rfl rfl (LT.of_quiet rfl rfl (q_len Tryd.underlying35 rfl) ?_)
  refine TO.guarded rfl rfl rfl (LT.of_quiet rfl rfl (q_gtr rfl rfl) ?_)
  refine TO.quiet (q_pick0 rfl rfl) ?_
  by_cases hs41 : (o.length : Int) > 60
  · refine TO.quiet (QT.toB (q_move rfl) (decide_eq_true hs41)) ?_
    refine TO.passed rfl rfl ?_
    refine TO.passed rfl rfl ?_
    refine TO.quiet (q_pick1 rfl rfl) ?_
    refine TO.sub (O' := [oI z3 25 (dC c jc), oI z2 25 (dC b jb), oI z1 25 (dC a ja)]) (by exact Sub.d (.k (.k (.k .z)))) ?_
    refine TO.nil ?_
    refine T.cond1 rfl ?_
    refine T.seq (T.region ?_)
    have hk45 := fun (w1 : World) (hI : Inv w [oI z3 25 (dC c jc), oI z2 25 (dC b jb), oI z1 25 (dC a ja)] w1) => awakeC w1
    refine TO.loud rfl (l_call ent11 (CallT.of_pure hk45) rfl ?_)
    clear hk45
    rintro vr O' ⟨N, rfl, rfl, rfl⟩
    refine TO.quiet (q_assign rfl) ?_
    refine TO.nil (T.ret (Res.drop ?_))
    refine Res.one (.bool true) Tryd.results9 rfl ?_
    exact ⟨[], Sub.z, rfl, rfl⟩
  refine TO.quiet (QT.toB (q_move rfl) (decide_eq_false hs41)) ?_
  have hk42 := fun (w1 : World) (hI : Inv w [rowI (some ⟨z4, 0, none⟩) 3 25 4 [(.int .i64 a.vars), (.int .i64 a.start), (.slice ja.nb a.next.length ja.nc), (.slice ja.fb a.final.length ja.fc), (.int .i64 b.vars), (.int .i64 b.start), (.slice jb.nb b.next.length jb.nc), (.slice jb.fb b.final.length jb.fc), (.int .i64 c.vars), (.int .i64 c.start), (.slice jc.nb c.next.length jc.nc), (.slice jc.fb c.final.length jc.fc)], oI z3 25 (dC c jc), oI z2 25 (dC b jb), oI z1 25 (dC a ja)] w1) => awakeC w1
  refine TO.guarded rfl rfl rfl (l_call ent11 (CallT.of_pure hk42) rfl ?_)
  clear hk42
  rintro vr O' ⟨N, rfl, rfl, rfl⟩
  refine TO.guarded rfl rfl rfl (LT.of_quiet rfl rfl (q_not rfl) ?_)
  refine TO.quiet (q_pick0 rfl rfl) ?_
  refine TO.sub (O' := [oI z3 25 (dC c jc), oI z2 25 (dC b jb), oI z1 25 (dC a ja)]) (by exact Sub.d (.k (.k (.k .z)))) ?_
  refine TO.nil ?_
  refine T.cond0 rfl ?_
  refine T.skip (T.seq ?_)
  obtain ⟨sa, sb, sc⟩ := longB_three (by simpa using hs18)
  have ba : a.next.length < 9223372036854775807 ∧ (∀ r ∈ a.next, r.length < 9223372036854775807) ∧ a.final.length < 9223372036854775807 := ⟨ha1, ha2, ha3⟩
  have bb : b.next.length < 9223372036854775807 ∧ (∀ r ∈ b.next, r.length < 9223372036854775807) ∧ b.final.length < 9223372036854775807 := ⟨hb1, hb2, hb3⟩
  have bc : c.next.length < 9223372036854775807 ∧ (∀ r ∈ c.next, r.length < 9223372036854775807) ∧ c.final.length < 9223372036854775807 := ⟨hc1, hc2, hc3⟩
  have la : a.next.length ≤ 4 := by omega
  have lb : b.next.length ≤ 4 := by omega
  have lc : c.next.length ≤ 4 := by omega
  obtain ⟨G1, G2⟩ := all_facts la lb lc o
  have bV := allV_bounds (n := a.vars) (l := [a, b, c]) (fun h0 h6 => Sh.allOk3 h0 h6 la lb lc)
  obtain ⟨mV, hmV⟩ : ∃ m, (allV a.vars [a, b, c]).1 = m := ⟨_, rfl⟩
  obtain ⟨eV, hemV⟩ : ∃ m, (allV a.vars [a, b, c]).2 = m := ⟨_, rfl⟩
  obtain ⟨mU, hmU⟩ : ∃ m, (allV a.vars [c, a, b]).1 = m := ⟨_, rfl⟩
  obtain ⟨eU, hemU⟩ : ∃ m, (allV a.vars [c, a, b]).2 = m := ⟨_, rfl⟩
  rw [hmV] at bV
  rw [hmV, hemV, hemU] at G1
  rw [hmV, hemV, hmU, hemU] at G2
  refine T.region ?_
  refine TO.quiet (q_fieldAddr Tryd.underlying25 rfl inf3 rfl rfl) (TO.quiet (q_load_box 2 Tryd.underlying3 rfl rfl rfl rfl) (TO.quiet (q_load_boxAgg 2 Tryd.underlying25 rfl inf25 rfl rfl rfl) (TO.quiet (q_load_boxAgg 1 Tryd.underlying25 rfl inf25 rfl rfl rfl) ?_)))
  refine TO.quiet (q_load_boxAgg 0 Tryd.underlying25 rfl inf25 rfl rfl rfl) ?_
  refine TO.loud rfl (l_buildSlice (m := 3) (parts := [(0, _), (1, _), (2, _)]) (cs := [(.int .i64 a.vars), (.int .i64 a.start), (.slice ja.nb a.next.length ja.nc), (.slice ja.fb a.final.length ja.fc), (.int .i64 b.vars), (.int .i64 b.start), (.slice jb.nb b.next.length jb.nc), (.slice jb.fb b.final.length jb.fc), (.int .i64 c.vars), (.int .i64 c.start), (.slice jc.nb c.next.length jc.nc), (.slice jc.fb c.final.length jc.fc)]) Tryd.underlying48 inf25 (by decide) (by kernel_rfl) rfl (fun z5 => ?_))
  have hk53 := fun (w1 : World) (hI : Inv w [rowI (some ⟨z5, 0, none⟩) 3 25 4 [(.int .i64 a.vars), (.int .i64 a.start), (.slice ja.nb a.next.length ja.nc), (.slice ja.fb a.final.length ja.fc), (.int .i64 b.vars), (.int .i64 b.start), (.slice jb.nb b.next.length jb.nc), (.slice jb.fb b.final.length jb.fc), (.int .i64 c.vars), (.int .i64 c.start), (.slice jc.nb c.next.length jc.nc), (.slice jc.fb c.final.length jc.fc)], oI z3 25 (dC c jc), oI z2 25 (dC b jb), oI z1 25 (dC a ja)] w1) => bAll3 w1 a.vars a ja (hI.atB ha) ba b jb (hI.atB hb) bb c jc (hI.atB hcc) bc (some ⟨z5, 0, none⟩) (hI.slOf (List.mem_of_getElem? (i := 0) rfl)) (fun h0 h6 => Sh.allOk3 h0 h6 la lb lc) hmV hemV
  refine TO.loud rfl (l_call ent32 (CallT.of_pure hk53) rfl ?_)
  clear hk53
  rintro vr O' ⟨N, rfl, k1, rfl, rfl⟩
  refine TO.quiet (q_move rfl) (TO.quiet (q_extract (vs := _) rfl rfl) (TO.quiet (q_extract (vs := _) rfl rfl) ?_))
  refine TO.loud rfl (l_alloc inf25 rfl (fun z6 => ?_))
  refine TO.loud rfl (l_store_box (v := (dV mV k1)) (vs := (dC mV k1)) 0 inf25 rfl rfl rfl rfl rfl rfl (by simp [putL]) ?_)
  refine TO.quiet (q_assign rfl) ?_
  refine TO.sub (O' := [oI z6 25 (dC mV k1), dI 52 4 3 mV k1, oI z3 25 (dC c jc), oI z2 25 (dC b jb), oI z1 25 (dC a ja)]) (by exact Sub.k (.k (.d (.k (.k (.k .z)))))) ?_
  refine TO.nil (T.seq (T.region ?_))
  refine TO.quiet (q_fieldAddr Tryd.underlying25 rfl inf3 rfl rfl) (TO.quiet (q_load_box 4 Tryd.underlying3 rfl rfl rfl rfl) (TO.quiet (q_load_boxAgg 2 Tryd.underlying25 rfl inf25 rfl rfl rfl) (TO.quiet (q_load_boxAgg 4 Tryd.underlying25 rfl inf25 rfl rfl rfl) ?_)))
  refine TO.quiet (q_load_boxAgg 3 Tryd.underlying25 rfl inf25 rfl rfl rfl) ?_
  refine TO.loud rfl (l_buildSlice (m := 3) (parts := [(0, _), (1, _), (2, _)]) (cs := [(.int .i64 c.vars), (.int .i64 c.start), (.slice jc.nb c.next.length jc.nc), (.slice jc.fb c.final.length jc.fc), (.int .i64 a.vars), (.int .i64 a.start), (.slice ja.nb a.next.length ja.nc), (.slice ja.fb a.final.length ja.fc), (.int .i64 b.vars), (.int .i64 b.start), (.slice jb.nb b.next.length jb.nc), (.slice jb.fb b.final.length jb.fc)]) Tryd.underlying48 inf25 (by decide) (by kernel_rfl) rfl (fun z7 => ?_))
  have hk63 := fun (w1 : World) (hI : Inv w [rowI (some ⟨z7, 0, none⟩) 3 25 4 [(.int .i64 c.vars), (.int .i64 c.start), (.slice jc.nb c.next.length jc.nc), (.slice jc.fb c.final.length jc.fc), (.int .i64 a.vars), (.int .i64 a.start), (.slice ja.nb a.next.length ja.nc), (.slice ja.fb a.final.length ja.fc), (.int .i64 b.vars), (.int .i64 b.start), (.slice jb.nb b.next.length jb.nc), (.slice jb.fb b.final.length jb.fc)], oI z6 25 (dC mV k1), dI 52 4 3 mV k1, oI z3 25 (dC c jc), oI z2 25 (dC b jb), oI z1 25 (dC a ja)] w1) => bAll3 w1 a.vars c jc (hI.atB hcc) bc a ja (hI.atB ha) ba b jb (hI.atB hb) bb (some ⟨z7, 0, none⟩) (hI.slOf (List.mem_of_getElem? (i := 0) rfl)) (fun h0 h6 => Sh.allOk3 h0 h6 lc la lb) hmU hemU
  refine TO.loud rfl (l_call ent32 (CallT.of_pure hk63) rfl ?_)
  clear hk63
  rintro vr O' ⟨N, rfl, k2, rfl, rfl⟩
  refine TO.quiet (q_move rfl) (TO.quiet (q_extract (vs := _) rfl rfl) (TO.quiet (q_extract (vs := _) rfl rfl) ?_))
  refine TO.loud rfl (l_alloc inf25 rfl (fun z8 => ?_))
  refine TO.loud rfl (l_store_box (v := (dV mU k2)) (vs := (dC mU k2)) 0 inf25 rfl rfl rfl rfl rfl rfl (by simp [putL]) ?_)
  refine TO.quiet (q_assign rfl) ?_
  refine TO.sub (O' := [oI z8 25 (dC mU k2), dI 52 4 3 mU k2, oI z6 25 (dC mV k1), dI 52 4 3 mV k1, oI z3 25 (dC c jc), oI z2 25 (dC b jb), oI z1 25 (dC a ja)]) (by exact Sub.k (.k (.d (.k (.k (.k (.k (.k .z)))))))) ?_
  refine TO.nil (T.seq (T.seq (T.region ?_)))
  refine TO.quiet (q_move rfl) (TO.quiet (q_neq rfl rfl) ?_)
  refine TO.nil ?_
  refine T.condP rfl (fun hc => ?_) (fun hc => ?_)
  · have hlt67 : eV ≠ 0 := by omega
    refine T.seq ?_
    have G1 := G1 (by omega)
    refine T.region ?_
    refine TO.quiet (q_move rfl) (TO.quiet (QT.toB (q_neq rfl rfl) (decide_eq_true (by omega))) (TO.quiet (q_move rfl) ?_))
    refine TO.guarded rfl rfl rfl (LT.of_quiet rfl rfl (q_fieldAddr Tryd.underlying25 rfl inf22 rfl rfl) ?_)
    refine TO.guarded rfl rfl rfl (LT.of_quiet rfl rfl (q_load_box 2 Tryd.underlying22 rfl rfl rfl rfl) ?_)
    refine TO.guarded rfl rfl rfl (LT.of_quiet rfl rfl (q_len Tryd.underlying22 rfl) ?_)
    refine TO.guarded rfl rfl rfl (LT.of_quiet rfl rfl (QT.toB (q_eql rfl rfl) (decide_eq_true (by omega))) ?_)
    refine TO.quiet (q_pick1 rfl rfl) (TO.quiet (q_assign rfl) ?_)
    refine TO.nil (T.ret (Res.drop ?_))
    refine Res.one (.bool true) Tryd.results9 rfl ?_
    exact ⟨[], Sub.z, rfl, rfl⟩
  have hge67 : ¬ eV ≠ 0 := by omega
  refine T.skip (T.seq ?_)
  have G2 := G2 (by omega)
  refine T.draws [oI z8 25 (dC mU k2), dI 52 4 3 mU k2, oI z6 25 (dC mV k1), dI 52 4 3 mV k1, oI z3 25 (dC c jc), oI z2 25 (dC b jb), oI z1 25 (dC a ja)] [(0, 0), (1, 0), (2, 0), (3, 0), (4, 0), (5, 1), (6, 0), (7, 0), (8, 0), (9, 0), (11, 0), (12, 0), (10, 1), (13, 1), (14, 0), (15, 0), (16, 0), (17, 1), (18, 0), (19, 0), (20, 0), (21, 0), (22, 2), (23, 2), (24, 2), (25, 2), (26, 2)] mixed (by kernel_rfl) (by exact Sub.rf) (fun _ _ _ h => h) ?_
  refine DO.quiet rfl (q_move rfl) (DO.quiet rfl (QT.toB (q_eql rfl rfl) (decide_eq_true (by omega))) (DO.quiet rfl (q_move rfl) ?_))
  refine DO.guarded rfl rfl rfl (q_load_boxAgg 2 Tryd.underlying25 rfl inf25 rfl rfl rfl) ?_
  refine DO.guarded rfl rfl rfl (q_load_boxAgg 0 Tryd.underlying25 rfl inf25 rfl rfl rfl) ?_
  have hk81 := fun (w1 : World) (hI : Inv w [oI z8 25 (dC mU k2), dI 52 4 3 mU k2, oI z6 25 (dC mV k1), dI 52 4 3 mV k1, oI z3 25 (dC c jc), oI z2 25 (dC b jb), oI z1 25 (dC a ja)] w1) => (show PureT _ _ _ _ _ from by
      have h9 := equalK2 w1 mV mU k1 k2 (hI.at (k := k1) (List.mem_of_getElem? (i := 3) rfl)) (hI.at (k := k2) (List.mem_of_getElem? (i := 1) rfl)) bV.1 bV.2.1 bV.2.2
      rw [decide_eq_true G2.2.1.symm] at h9
      exact h9)
  refine DO.loudG rfl rfl rfl rfl (l_call ent15 (CallT.of_pure hk81) rfl ?_)
  clear hk81
  rintro vr O' ⟨N, rfl, rfl, rfl⟩
  refine ⟨by exact Sub.rf, ?_⟩
  refine DO.quiet rfl (q_pick1 rfl rfl) (DO.quiet rfl (q_move rfl) ?_)
  refine DO.guarded rfl rfl rfl (q_load_boxAgg 2 Tryd.underlying25 rfl inf25 rfl rfl rfl) ?_
  refine DO.guarded rfl rfl rfl (q_move rfl) ?_
  refine DO.guarded rfl rfl rfl (q_load_boxAgg 6 Tryd.underlying25 rfl inf25 rfl rfl rfl) ?_
  refine DO.guarded rfl rfl rfl (q_move rfl) ?_
  have hk86 := fun (w1 : World) (hI : Inv w [oI z8 25 (dC mU k2), dI 52 4 3 mU k2, oI z6 25 (dC mV k1), dI 52 4 3 mV k1, oI z3 25 (dC c jc), oI z2 25 (dC b jb), oI z1 25 (dC a ja)] w1) => accF w1 mV k1 (hI.at (k := k1) (List.mem_of_getElem? (i := 3) rfl)) bV.1 bV.2.1 bV.2.2 wb wc o (hI.sl hW) hwb hw8
  refine DO.loudG rfl rfl rfl rfl (l_call ent28 (CallT.of_pure hk86) rfl ?_)
  clear hk86
  rintro vr O' ⟨N, rfl, rfl, rfl⟩
  refine ⟨by exact Sub.rf, ?_⟩
  have hk89 := fun (w1 : World) (hI : Inv w [oI z8 25 (dC mU k2), dI 52 4 3 mU k2, oI z6 25 (dC mV k1), dI 52 4 3 mV k1, oI z3 25 (dC c jc), oI z2 25 (dC b jb), oI z1 25 (dC a ja)] w1) => accF w1 a ja (hI.atB ha) ba.1 ba.2.1 ba.2.2 wb wc o (hI.sl hW) hwb hw8
  refine DO.loudG rfl rfl rfl rfl (l_call ent28 (CallT.of_pure hk89) rfl ?_)
  clear hk89
  rintro vr O' ⟨N, rfl, rfl, rfl⟩
  refine ⟨by exact Sub.rf, ?_⟩
  by_cases hs90 : (accV a o) = true
  · refine DO.guarded rfl rfl rfl (QT.toB (q_move rfl) (hs90)) ?_
    refine DO.guarded rfl rfl rfl (q_load_boxAgg 5 Tryd.underlying25 rfl inf25 rfl rfl rfl) ?_
    refine DO.guarded rfl rfl rfl (q_move rfl) ?_
    have hk93 := fun (w1 : World) (hI : Inv w [oI z8 25 (dC mU k2), dI 52 4 3 mU k2, oI z6 25 (dC mV k1), dI 52 4 3 mV k1, oI z3 25 (dC c jc), oI z2 25 (dC b jb), oI z1 25 (dC a ja)] w1) => accF w1 b jb (hI.atB hb) bb.1 bb.2.1 bb.2.2 wb wc o (hI.sl hW) hwb hw8
    refine DO.loudG rfl rfl rfl rfl (l_call ent28 (CallT.of_pure hk93) rfl ?_)
    clear hk93
    rintro vr O' ⟨N, rfl, rfl, rfl⟩
    refine ⟨by exact Sub.rf, ?_⟩
    refine DO.guarded rfl rfl rfl (q_pick1 rfl rfl) ?_
    by_cases hs95 : (accV b o) = true
    · refine DO.guarded rfl rfl rfl (QT.toB (q_move rfl) (hs95)) ?_
      refine DO.guarded rfl rfl rfl (q_load_boxAgg 4 Tryd.underlying25 rfl inf25 rfl rfl rfl) ?_
      refine DO.guarded rfl rfl rfl (q_move rfl) ?_
      have hk98 := fun (w1 : World) (hI : Inv w [oI z8 25 (dC mU k2), dI 52 4 3 mU k2, oI z6 25 (dC mV k1), dI 52 4 3 mV k1, oI z3 25 (dC c jc), oI z2 25 (dC b jb), oI z1 25 (dC a ja)] w1) => accF w1 c jc (hI.atB hcc) bc.1 bc.2.1 bc.2.2 wb wc o (hI.sl hW) hwb hw8
      refine DO.lastG rfl rfl rfl rfl (l_call ent28 (CallT.of_pure hk98) rfl ?_)
      clear hk98
      rintro vr O' ⟨N, rfl, rfl, rfl⟩
      refine DO.lastG rfl rfl rfl rfl (LT.of_quiet rfl rfl (q_pick1 rfl rfl) ?_)
      refine DO.lastG rfl rfl rfl rfl (LT.of_quiet rfl rfl (QT.cast (q_beql Tryd.underlying4 rfl rfl) (v' := .bool true) (by rw [G2.2.2]; simp_all)) ?_)
      refine DO.last rfl rfl (LT.of_quiet rfl rfl (q_pick1 rfl rfl) ?_)
      refine DO.last rfl rfl (LT.of_quiet rfl rfl (q_assign rfl) ?_)
      refine DO.done ?_
      refine T.ret (Res.drop ?_)
      refine Res.one (.bool true) Tryd.results9 rfl ?_
      exact ⟨[], Sub.z, rfl, rfl⟩
    refine DO.guarded rfl rfl rfl (QT.toB (q_move rfl) (Bool.eq_false_iff.2 hs95)) ?_
    refine DO.passed rfl rfl rfl ?_
    refine DO.passed rfl rfl rfl ?_
    refine DO.passedL (by decide) rfl rfl rfl rfl rfl ?_
    refine DO.lastG rfl rfl rfl rfl (LT.of_quiet rfl rfl (q_pick0 rfl rfl) ?_)
    refine DO.lastG rfl rfl rfl rfl (LT.of_quiet rfl rfl (QT.cast (q_beql Tryd.underlying4 rfl rfl) (v' := .bool true) (by rw [G2.2.2]; simp_all)) ?_)
    refine DO.last rfl rfl (LT.of_quiet rfl rfl (q_pick1 rfl rfl) ?_)
    refine DO.last rfl rfl (LT.of_quiet rfl rfl (q_assign rfl) ?_)
    refine DO.done ?_
    refine T.ret (Res.drop ?_)
    refine Res.one (.bool true) Tryd.results9 rfl ?_
    exact ⟨[], Sub.z, rfl, rfl⟩
  refine DO.guarded rfl rfl rfl (QT.toB (q_move rfl) (Bool.eq_false_iff.2 hs90)) ?_
  refine DO.passed rfl rfl rfl ?_
  refine DO.passed rfl rfl rfl ?_
  refine DO.passedL (by decide) rfl rfl rfl rfl rfl ?_
  refine DO.guarded rfl rfl rfl (q_pick0 rfl rfl) ?_
  refine DO.guarded rfl rfl rfl (q_move rfl) ?_
  refine DO.passed rfl rfl rfl ?_
  refine DO.passed rfl rfl rfl ?_
  refine DO.passedL (by decide) rfl rfl rfl rfl rfl ?_
  refine DO.lastG rfl rfl rfl rfl (LT.of_quiet rfl rfl (q_pick0 rfl rfl) ?_)
  refine DO.lastG rfl rfl rfl rfl (LT.of_quiet rfl rfl (QT.cast (q_beql Tryd.underlying4 rfl rfl) (v' := .bool true) (by rw [G2.2.2]; simp_all)) ?_)
  refine DO.last rfl rfl (LT.of_quiet rfl rfl (q_pick1 rfl rfl) ?_)
  refine DO.last rfl rfl (LT.of_quiet rfl rfl (q_assign rfl) ?_)
  refine DO.done ?_
  refine T.ret (Res.drop ?_)
  refine Res.one (.bool true) Tryd.results9 rfl ?_
  exact ⟨[], Sub.z, rfl, rfl⟩
theorem allLaw (w : World) (a : DFA) (nba fba : Option Addr) (nca fca : Nat) (vsa : List Value) (ha : DfaAt w a nba vsa fba) (ha1 : a.next.length < 9223372036854775807) (ha2 : ∀ r ∈ a.next, r.length < 9223372036854775807) (ha3 : a.final.length < 9223372036854775807) (b : DFA) (nbb fbb : Option Addr) (ncb fcb : Nat) (vsb : List Value) (hb : DfaAt w b nbb vsb fbb) (hb1 : b.next.length < 9223372036854775807) (hb2 : ∀ r ∈ b.next, r.length < 9223372036854775807) (hb3 : b.final.length < 9223372036854775807) (c : DFA) (nbc fbc : Option Addr) (ncc fcc : Nat) (vsc : List Value) (hc : DfaAt w c nbc vsc fbc) (hc1 : c.next.length < 9223372036854775807) (hc2 : ∀ r ∈ c.next, r.length < 9223372036854775807) (hc3 : c.final.length < 9223372036854775807) (wb : Option Addr) (wc : Nat) (o : List Nat) (hW : Sl w wb (byts o)) (hwb : o.length < 9223372036854775807) (hw8 : ∀ x ∈ o, x < 256) :
    PureT Tryd.prog 9 [.agg (dfaCells a nba nca fba fca).toArray, .agg (dfaCells b nbb ncb fbb fcb).toArray, .agg (dfaCells c nbc ncc fbc fcc).toArray, .slice wb o.length wc] w fun v N => v = .bool true ∧ N = [] := by
  obtain ⟨ja, ga, ea⟩ := ha.dk nca fca
  obtain ⟨jb, gb, eb⟩ := hb.dk ncb fcb
  obtain ⟨jc, gc, ec⟩ := hc.dk ncc fcc
  rw [ea, eb, ec]
  exact allW w a ja ga ha1 ha2 ha3 b jb gb hb1 hb2 hb3 c jc gc hc1 hc2 hc3 wb wc o hW hwb hw8
end Go.Proofs.YtdaapdamcekkgaaDoor
