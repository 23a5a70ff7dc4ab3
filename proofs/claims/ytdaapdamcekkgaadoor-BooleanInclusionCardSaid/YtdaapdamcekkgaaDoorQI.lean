/- Contracts of functions of the program (QI): what each call answers and that it leaves memory as it was. Conditions: those each theorem names. -/
import Derived.Test.YtdaapdamcekkgaaDoorEnd
import Derived.Test.YtdaapdamcekkgaaDoorRun
import Derived.Test.YtdaapdamcekkgaaDoorBolD
set_option linter.unusedSectionVars false
set_option linter.unusedSimpArgs false
set_option linter.unusedVariables false
set_option linter.unnecessarySimpa false
namespace Go.Proofs.YtdaapdamcekkgaaDoor
open Go.Lx Go.RowKit
set_option linter.unusedVariables false
set_option linter.unusedSimpArgs false
set_option maxHeartbeats 1000000 in
set_option maxRecDepth 20000 in
theorem cmpW (w : World) (b1 b2 : Option Addr) (c1 c2 : Nat) (xs ys : List Nat) (h1 : Sl w b1 (byts xs)) (h2 : Sl w b2 (byts ys)) (hb : ys.length < 9223372036854775807) (hx : ∀ x ∈ xs, x < 64) (hy : ∀ x ∈ ys, x < 64) (hc9 : code xs ≤ code ys) :
    PureT Tryd.prog 29 [.slice b1 xs.length c1, .slice b2 ys.length c2] w fun v N => ∃ c : Int, v = .int .i64 c ∧ c ≤ 0 ∧ N = [] := by
  refine CallT.enter Tryd.func29 rfl Tryd.ntmps29 rfl ?_
  have hlen := code_len xs ys hx hy hc9
  refine T.seq (T.region ?_)
  refine TO.quiet (q_assign rfl) ?_
  refine TO.nil (T.seq (T.seq (T.region ?_)))
  refine TO.quiet (q_move rfl) (TO.quiet (q_len Tryd.underlying35 rfl) (TO.quiet (q_move rfl) (TO.quiet (q_len Tryd.underlying35 rfl) ?_)))
  refine TO.quiet (q_lss rfl rfl) ?_
  refine TO.nil ?_
  refine T.condP rfl (fun hc => ?_) (fun hc => ?_)
  · have hlt10 : xs.length < ys.length := by omega
    refine T.seq (T.region ?_)
    refine TO.quiet (q_assign rfl) ?_
    refine TO.nil (T.ret ?_)
    refine Res.one (.int .i64 (-1)) Tryd.results29 rfl ?_
    exact ⟨_, rfl, by decide, rfl⟩
  have hge10 : ¬ xs.length < ys.length := by omega
  have hge10 : xs.length = ys.length := by omega
  refine T.skip (T.seq (T.seq (T.region ?_)))
  refine TO.quiet (q_move rfl) (TO.quiet (q_len Tryd.underlying35 rfl) (TO.quiet (q_move rfl) (TO.quiet (q_len Tryd.underlying35 rfl) ?_)))
  refine TO.quiet (q_gtr rfl rfl) ?_
  refine TO.nil ?_
  refine T.condP rfl (fun hc => ?_) (fun hc => ?_)
  · exact absurd hc (by omega)
  have hge15 : ¬ xs.length > ys.length := by omega
  refine T.skip (T.seq (T.seq (T.region ?_)))
  refine TO.quiet (q_assign rfl) ?_
  refine TO.nil (T.block ?_)
  refine T.loop (fun (k : Nat) ρ O => O = [] ∧ k ≤ xs.length ∧ xs.take k = ys.take k ∧ Heads [(0, (.slice b1 xs.length c1)), (1, (.slice b2 ys.length c2)), (5, .int .i64 (k : Int))] ρ) (fun k => xs.length - k) 0 ?_ ?_
  · exact ⟨rfl, Nat.zero_le _, rfl, ⟨rfl, rfl, rfl, trivial⟩⟩
  rintro k ρ O ⟨rfl, hk, he, hH⟩
  obtain ⟨ρ0, rfl⟩ := hH.elim
  clear hH
  refine T.seq (T.seq (T.region ?_))
  refine TO.quiet (q_move rfl) (TO.quiet (q_move rfl) (TO.quiet (q_len Tryd.underlying35 rfl) (TO.quiet (q_lss rfl rfl) ?_)))
  refine TO.nil ?_
  refine T.condP rfl (fun hc => ?_) (fun hc => ?_)
  · have hlt19 : k < xs.length := by omega
    have hky : k < ys.length := by omega
    refine T.skip (T.seq (T.block (T.seq (T.seq ?_))))
    refine T.draws _ [(0, 0), (1, 0), (2, 0), (3, 0), (4, 0), (5, 0), (6, 0), (7, 0), (8, 0)] mixed (by kernel_rfl) (Sub.of (List.Sublist.refl _)) (fun _ _ _ h => h) ?_
    refine DO.quiet rfl (q_move rfl) (DO.quiet rfl (q_move rfl) (DO.quiet rfl (q_ix (i := k) Tryd.underlying35 inf5 rfl rfl (Sl.o h1) hlt19 (by rw [List.length_map]; exact hlt19)) (DO.quiet rfl (q_ld Tryd.underlying5 rfl rfl (Sl.o h1) (byts_get hlt19)) ?_)))
    refine DO.quiet rfl (q_move rfl) (DO.quiet rfl (q_move rfl) (DO.quiet rfl (q_ix (i := k) Tryd.underlying35 inf5 rfl rfl (Sl.o h2) hky (by rw [List.length_map]; exact hky)) (DO.quiet rfl (q_ld Tryd.underlying5 rfl rfl (Sl.o h2) (byts_get hky)) ?_)))
    refine DO.quiet rfl (q_lss rfl rfl) ?_
    refine DO.done ?_
    refine T.condP rfl (fun hc => ?_) (fun hc => ?_)
    · have hlt30 : xs[k] < ys[k] := by omega
      refine T.seq (T.region ?_)
      refine TO.quiet (q_assign rfl) ?_
      refine TO.nil (T.ret ?_)
      refine Res.one (.int .i64 (-1)) Tryd.results29 rfl ?_
      exact ⟨_, rfl, by decide, rfl⟩
    have hge30 : ¬ xs[k] < ys[k] := by omega
    refine T.skip (T.seq ?_)
    refine T.draws _ [(0, 0), (1, 0), (2, 0), (3, 0), (4, 0), (5, 0), (6, 0), (7, 0), (8, 0)] mixed (by kernel_rfl) (Sub.of (List.Sublist.refl _)) (fun _ _ _ h => h) ?_
    refine DO.quiet rfl (q_move rfl) (DO.quiet rfl (q_move rfl) (DO.quiet rfl (q_ix (i := k) Tryd.underlying35 inf5 rfl rfl (Sl.o h1) hlt19 (by rw [List.length_map]; exact hlt19)) (DO.quiet rfl (q_ld Tryd.underlying5 rfl rfl (Sl.o h1) (byts_get hlt19)) ?_)))
    refine DO.quiet rfl (q_move rfl) (DO.quiet rfl (q_move rfl) (DO.quiet rfl (q_ix (i := k) Tryd.underlying35 inf5 rfl rfl (Sl.o h2) hky (by rw [List.length_map]; exact hky)) (DO.quiet rfl (q_ld Tryd.underlying5 rfl rfl (Sl.o h2) (byts_get hky)) ?_)))
    refine DO.quiet rfl (q_gtr rfl rfl) ?_
    refine DO.done ?_
    refine T.condP rfl (fun hc => ?_) (fun hc => ?_)
    · exact absurd (code_diff hge10 hlt19 hky he hy (by omega)) (by omega)
    have hge39 : ¬ xs[k] > ys[k] := by omega
    refine T.skip (T.region ?_)
    refine TO.quiet (q_move rfl) (TO.quiet (q_inc rfl rfl (by omega)) (TO.quiet (q_assign rfl) ?_))
    refine TO.nil ?_
    have hee : xs[k] = ys[k] := by omega
    refine ⟨k + 1, by omega, rfl, by omega, ?_, ⟨rfl, rfl, rfl, trivial⟩⟩
    rw [List.take_succ_eq_append_getElem hlt19, List.take_succ_eq_append_getElem hky, he, hee]
  have hge19 : ¬ k < xs.length := by omega
  refine T.exit ?_
  refine T.seq (T.region ?_)
  refine TO.quiet (q_assign rfl) ?_
  refine TO.nil (T.ret ?_)
  refine Res.one (.int .i64 0) Tryd.results29 rfl ?_
  exact ⟨_, rfl, by decide, rfl⟩
theorem inclKB (w : World) {v : Int} {n m : Nat} {a b : DFA} {p q : List Nat → Bool} (ha : HasL v n a p) (hb : HasL v m b q) (j k : DK) (hj : At w a j) (hk : At w b k) (hn : n * m ≤ 64) :
    PureT Tryd.prog 26 [dV a j, dV b k] w fun v N => ∃ res u wb wc is, LeastA (opD minusB a b) res ∧ u = res.getD [] ∧ is = !res.isSome ∧ v = .tuple #[.slice wb u.length wc, .bool is, .int .i64 0] ∧ N = [rowI wb wc 5 1 (byts u)] :=
  (inclK w ha hb j k hj hk hn).mono fun v N ⟨res, wb, wc, h1, h2, h3⟩ => ⟨res, res.getD [], wb, wc, !res.isSome, h1, rfl, rfl, h2, h3⟩
theorem eqlKB (w : World) {v : Int} {n m : Nat} {a b : DFA} {p q : List Nat → Bool} (ha : HasL v n a p) (hb : HasL v m b q) (j k : DK) (hj : At w a j) (hk : At w b k) (hn : n * m ≤ 64) :
    PureT Tryd.prog 27 [dV a j, dV b k] w fun v N => ∃ eq, eq = (decide ((opD xorB a b).next.length = 1) && !finN (opD xorB a b) 0) ∧ v = .tuple #[.bool eq, .int .i64 0] ∧ N = [] :=
  (eqlK w ha hb j k hj hk hn).mono fun v N ⟨h1, h2⟩ => ⟨_, rfl, h1, h2⟩
set_option maxHeartbeats 4000000 in
set_option maxRecDepth 20000 in
theorem inclW (w : World) (a : DFA) (ja : DK) (ha : At w a ja) (ha1 : a.next.length < 9223372036854775807) (ha2 : ∀ r ∈ a.next, r.length < 9223372036854775807) (ha3 : a.final.length < 9223372036854775807) (b : DFA) (jb : DK) (hb : At w b jb) (hb1 : b.next.length < 9223372036854775807) (hb2 : ∀ r ∈ b.next, r.length < 9223372036854775807) (hb3 : b.final.length < 9223372036854775807) (wb : Option Addr) (wc : Nat) (other : List Nat) (hW : Sl w wb (byts other)) (hwb : other.length < 9223372036854775807) (hw8 : ∀ x ∈ other, x < 256) :
    PureT Tryd.prog 6 [dV a ja, dV b jb, .slice wb other.length wc] w fun v N => v = .bool true ∧ N = [] := by
  refine CallT.enter Tryd.func6 rfl Tryd.ntmps6 rfl ?_
  refine T.seq (T.region ?_)
  refine TO.loud rfl (l_box (v := (dV a ja)) (cs := (dC a ja)) rfl rfl (fun z1 => ?_))
  refine TO.loud rfl (l_box (v := (dV b jb)) (cs := (dC b jb)) rfl rfl (fun z2 => ?_))
  refine TO.quiet (q_assign rfl) ?_
  refine TO.nil (T.seq (T.seq (T.region ?_)))
  refine TO.quiet (q_load_boxAgg 1 Tryd.underlying25 rfl inf25 rfl rfl rfl) (TO.quiet (q_load_boxAgg 0 Tryd.underlying25 rfl inf25 rfl rfl rfl) ?_)
  refine TO.loud rfl (l_buildSlice (m := 2) (parts := [(0, _), (1, _)]) (cs := [(.int .i64 a.vars), (.int .i64 a.start), (.slice ja.nb a.next.length ja.nc), (.slice ja.fb a.final.length ja.fc), (.int .i64 b.vars), (.int .i64 b.start), (.slice jb.nb b.next.length jb.nc), (.slice jb.fb b.final.length jb.fc)]) Tryd.underlying48 inf25 (by decide) (by kernel_rfl) rfl (fun z3 => ?_))
  have hk25 := fun (w1 : World) (hI : Inv w [rowI (some ⟨z3, 0, none⟩) 2 25 4 [(.int .i64 a.vars), (.int .i64 a.start), (.slice ja.nb a.next.length ja.nc), (.slice ja.fb a.final.length ja.fc), (.int .i64 b.vars), (.int .i64 b.start), (.slice jb.nb b.next.length jb.nc), (.slice jb.fb b.final.length jb.fc)], oI z2 25 (dC b jb), oI z1 25 (dC a ja)] w1) => long2 w1 (some ⟨z3, 0, none⟩) a b ja jb (hI.slOf (List.mem_of_getElem? (i := 0) rfl)) (hI.atB ha) (hI.atB hb) ha1 hb1
  refine TO.loud rfl (l_call ent10 (CallT.of_pure hk25) rfl ?_)
  clear hk25
  rintro vr O' ⟨N, rfl, rfl, rfl⟩
  by_cases hs26 : (longB [a, b]) = true
  · refine TO.quiet (QT.toB (q_move rfl) (hs26)) ?_
    refine TO.passed rfl rfl ?_
    refine TO.passed rfl rfl ?_
    refine TO.passed rfl rfl ?_
    refine TO.quiet (q_pick1 rfl rfl) (TO.quiet (q_move rfl) ?_)
    refine TO.passed rfl rfl ?_
    refine TO.passed rfl rfl ?_
    refine TO.quiet (q_pick1 rfl rfl) (TO.quiet (q_move rfl) ?_)
    refine TO.passed rfl rfl ?_
    refine TO.passed rfl rfl ?_
    refine TO.passed rfl rfl ?_
    refine TO.quiet (q_pick1 rfl rfl) (TO.quiet (q_move rfl) ?_)
    refine TO.passed rfl rfl ?_
    refine TO.passed rfl rfl ?_
    refine TO.passed rfl rfl ?_
    refine TO.quiet (q_pick1 rfl rfl) (TO.quiet (q_move rfl) ?_)
    refine TO.passed rfl rfl ?_
    refine TO.passed rfl rfl ?_
    refine TO.passed rfl rfl ?_
    refine TO.passed rfl rfl ?_
    refine TO.passed rfl rfl ?_
    refine TO.quiet (q_pick1 rfl rfl) ?_
    refine TO.sub (O' := [oI z2 25 (dC b jb), oI z1 25 (dC a ja)]) (by exact Sub.d (.k (.k .z))) ?_
    refine TO.nil ?_
    refine T.cond1 rfl ?_
    refine T.seq (T.region ?_)
    have hk52 := fun (w1 : World) (hI : Inv w [oI z2 25 (dC b jb), oI z1 25 (dC a ja)] w1) => awakeC w1
    refine TO.loud rfl (l_call ent11 (CallT.of_pure hk52) rfl ?_)
    clear hk52
    rintro vr O' ⟨N, rfl, rfl, rfl⟩
    refine TO.quiet (q_assign rfl) ?_
    refine TO.nil (T.ret (Res.drop ?_))
    refine Res.one (.bool true) Tryd.results6 rfl ?_
    exact ⟨[], Sub.z, congrArg Value.bool (by first | rfl | (simp_all; done) | (have F4 := F4 (by simpa using hc); simp_all; done) | (cases accV a other <;> cases accV b other <;> simp_all; done)), rfl⟩
  refine TO.quiet (QT.toB (q_move rfl) (Bool.eq_false_iff.2 hs26)) ?_
  refine TO.guarded rfl rfl rfl (LT.of_quiet rfl rfl (q_move rfl) ?_)
  refine TO.guarded rfl rfl rfl (LT.of_quiet rfl rfl (q_len Tryd.underlying35 rfl) ?_)
  refine TO.guarded rfl rfl rfl (LT.of_quiet rfl rfl (q_gtr rfl rfl) ?_)
  refine TO.quiet (q_pick0 rfl rfl) ?_
  by_cases hs31 : (other.length : Int) > 60
  · refine TO.quiet (QT.toB (q_move rfl) (decide_eq_true hs31)) ?_
    refine TO.passed rfl rfl ?_
    refine TO.passed rfl rfl ?_
    refine TO.quiet (q_pick1 rfl rfl) (TO.quiet (q_move rfl) ?_)
    refine TO.passed rfl rfl ?_
    refine TO.passed rfl rfl ?_
    refine TO.passed rfl rfl ?_
    refine TO.quiet (q_pick1 rfl rfl) (TO.quiet (q_move rfl) ?_)
    refine TO.passed rfl rfl ?_
    refine TO.passed rfl rfl ?_
    refine TO.passed rfl rfl ?_
    refine TO.quiet (q_pick1 rfl rfl) (TO.quiet (q_move rfl) ?_)
    refine TO.passed rfl rfl ?_
    refine TO.passed rfl rfl ?_
    refine TO.passed rfl rfl ?_
    refine TO.passed rfl rfl ?_
    refine TO.passed rfl rfl ?_
    refine TO.quiet (q_pick1 rfl rfl) ?_
    refine TO.sub (O' := [oI z2 25 (dC b jb), oI z1 25 (dC a ja)]) (by exact Sub.d (.k (.k .z))) ?_
    refine TO.nil ?_
    refine T.cond1 rfl ?_
    refine T.seq (T.region ?_)
    have hk52 := fun (w1 : World) (hI : Inv w [oI z2 25 (dC b jb), oI z1 25 (dC a ja)] w1) => awakeC w1
    refine TO.loud rfl (l_call ent11 (CallT.of_pure hk52) rfl ?_)
    clear hk52
    rintro vr O' ⟨N, rfl, rfl, rfl⟩
    refine TO.quiet (q_assign rfl) ?_
    refine TO.nil (T.ret (Res.drop ?_))
    refine Res.one (.bool true) Tryd.results6 rfl ?_
    exact ⟨[], Sub.z, congrArg Value.bool (by first | rfl | (simp_all; done) | (have F4 := F4 (by simpa using hc); simp_all; done) | (cases accV a other <;> cases accV b other <;> simp_all; done)), rfl⟩
  refine TO.quiet (QT.toB (q_move rfl) (decide_eq_false hs31)) ?_
  have hk32 := fun (w1 : World) (hI : Inv w [rowI (some ⟨z3, 0, none⟩) 2 25 4 [(.int .i64 a.vars), (.int .i64 a.start), (.slice ja.nb a.next.length ja.nc), (.slice ja.fb a.final.length ja.fc), (.int .i64 b.vars), (.int .i64 b.start), (.slice jb.nb b.next.length jb.nc), (.slice jb.fb b.final.length jb.fc)], oI z2 25 (dC b jb), oI z1 25 (dC a ja)] w1) => awakeC w1
  refine TO.guarded rfl rfl rfl (l_call ent11 (CallT.of_pure hk32) rfl ?_)
  clear hk32
  rintro vr O' ⟨N, rfl, rfl, rfl⟩
  refine TO.guarded rfl rfl rfl (LT.of_quiet rfl rfl (q_not rfl) ?_)
  refine TO.quiet (q_pick0 rfl rfl) (TO.quiet (q_move rfl) ?_)
  refine TO.guarded rfl rfl rfl (LT.of_quiet rfl rfl (q_load_boxAgg 2 Tryd.underlying25 rfl inf25 rfl rfl rfl) ?_)
  have hk37 := fun (w1 : World) (hI : Inv w [rowI (some ⟨z3, 0, none⟩) 2 25 4 [(.int .i64 a.vars), (.int .i64 a.start), (.slice ja.nb a.next.length ja.nc), (.slice ja.fb a.final.length ja.fc), (.int .i64 b.vars), (.int .i64 b.start), (.slice jb.nb b.next.length jb.nc), (.slice jb.fb b.final.length jb.fc)], oI z2 25 (dC b jb), oI z1 25 (dC a ja)] w1) => subsetCheck w1 a ja.nb ja.fb ja.nc ja.fc (vals ja.qs) (hI.dfa ha) ha1 ha2 ha3
  refine TO.guarded rfl rfl rfl (l_call ent20 (CallT.of_pure hk37) rfl ?_)
  clear hk37
  rintro vr O' ⟨N, rfl, rfl, rfl⟩
  refine TO.guarded rfl rfl rfl (LT.of_quiet rfl rfl (q_neq rfl rfl) ?_)
  refine TO.quiet (q_pick0 rfl rfl) ?_
  by_cases hs40 : (checkD a : Int) ≠ 0
  · refine TO.quiet (QT.toB (q_move rfl) (decide_eq_true hs40)) ?_
    refine TO.passed rfl rfl ?_
    refine TO.passed rfl rfl ?_
    refine TO.passed rfl rfl ?_
    refine TO.quiet (q_pick1 rfl rfl) (TO.quiet (q_move rfl) ?_)
    refine TO.passed rfl rfl ?_
    refine TO.passed rfl rfl ?_
    refine TO.passed rfl rfl ?_
    refine TO.passed rfl rfl ?_
    refine TO.passed rfl rfl ?_
    refine TO.quiet (q_pick1 rfl rfl) ?_
    refine TO.sub (O' := [oI z2 25 (dC b jb), oI z1 25 (dC a ja)]) (by exact Sub.d (.k (.k .z))) ?_
    refine TO.nil ?_
    refine T.cond1 rfl ?_
    refine T.seq (T.region ?_)
    have hk52 := fun (w1 : World) (hI : Inv w [oI z2 25 (dC b jb), oI z1 25 (dC a ja)] w1) => awakeC w1
    refine TO.loud rfl (l_call ent11 (CallT.of_pure hk52) rfl ?_)
    clear hk52
    rintro vr O' ⟨N, rfl, rfl, rfl⟩
    refine TO.quiet (q_assign rfl) ?_
    refine TO.nil (T.ret (Res.drop ?_))
    refine Res.one (.bool true) Tryd.results6 rfl ?_
    exact ⟨[], Sub.z, congrArg Value.bool (by first | rfl | (simp_all; done) | (have F4 := F4 (by simpa using hc); simp_all; done) | (cases accV a other <;> cases accV b other <;> simp_all; done)), rfl⟩
  refine TO.quiet (QT.toB (q_move rfl) (decide_eq_false hs40)) ?_
  refine TO.guarded rfl rfl rfl (LT.of_quiet rfl rfl (q_load_boxAgg 1 Tryd.underlying25 rfl inf25 rfl rfl rfl) ?_)
  have hk42 := fun (w1 : World) (hI : Inv w [rowI (some ⟨z3, 0, none⟩) 2 25 4 [(.int .i64 a.vars), (.int .i64 a.start), (.slice ja.nb a.next.length ja.nc), (.slice ja.fb a.final.length ja.fc), (.int .i64 b.vars), (.int .i64 b.start), (.slice jb.nb b.next.length jb.nc), (.slice jb.fb b.final.length jb.fc)], oI z2 25 (dC b jb), oI z1 25 (dC a ja)] w1) => subsetCheck w1 b jb.nb jb.fb jb.nc jb.fc (vals jb.qs) (hI.dfa hb) hb1 hb2 hb3
  refine TO.guarded rfl rfl rfl (l_call ent20 (CallT.of_pure hk42) rfl ?_)
  clear hk42
  rintro vr O' ⟨N, rfl, rfl, rfl⟩
  refine TO.guarded rfl rfl rfl (LT.of_quiet rfl rfl (q_neq rfl rfl) ?_)
  refine TO.quiet (q_pick0 rfl rfl) ?_
  by_cases hs45 : (checkD b : Int) ≠ 0
  · refine TO.quiet (QT.toB (q_move rfl) (decide_eq_true hs45)) ?_
    refine TO.passed rfl rfl ?_
    refine TO.passed rfl rfl ?_
    refine TO.passed rfl rfl ?_
    refine TO.passed rfl rfl ?_
    refine TO.passed rfl rfl ?_
    refine TO.quiet (q_pick1 rfl rfl) ?_
    refine TO.sub (O' := [oI z2 25 (dC b jb), oI z1 25 (dC a ja)]) (by exact Sub.d (.k (.k .z))) ?_
    refine TO.nil ?_
    refine T.cond1 rfl ?_
    refine T.seq (T.region ?_)
    have hk52 := fun (w1 : World) (hI : Inv w [oI z2 25 (dC b jb), oI z1 25 (dC a ja)] w1) => awakeC w1
    refine TO.loud rfl (l_call ent11 (CallT.of_pure hk52) rfl ?_)
    clear hk52
    rintro vr O' ⟨N, rfl, rfl, rfl⟩
    refine TO.quiet (q_assign rfl) ?_
    refine TO.nil (T.ret (Res.drop ?_))
    refine Res.one (.bool true) Tryd.results6 rfl ?_
    exact ⟨[], Sub.z, congrArg Value.bool (by first | rfl | (simp_all; done) | (have F4 := F4 (by simpa using hc); simp_all; done) | (cases accV a other <;> cases accV b other <;> simp_all; done)), rfl⟩
  refine TO.quiet (QT.toB (q_move rfl) (decide_eq_false hs45)) ?_
  refine TO.guarded rfl rfl rfl (LT.of_quiet rfl rfl (q_fieldAddr Tryd.underlying25 rfl inf3 rfl rfl) ?_)
  refine TO.guarded rfl rfl rfl (LT.of_quiet rfl rfl (q_load_box 2 Tryd.underlying3 rfl rfl rfl rfl) ?_)
  refine TO.guarded rfl rfl rfl (LT.of_quiet rfl rfl (q_fieldAddr Tryd.underlying25 rfl inf3 rfl rfl) ?_)
  refine TO.guarded rfl rfl rfl (LT.of_quiet rfl rfl (q_load_box 1 Tryd.underlying3 rfl rfl rfl rfl) ?_)
  refine TO.guarded rfl rfl rfl (LT.of_quiet rfl rfl (q_neq rfl rfl) ?_)
  refine TO.quiet (q_pick0 rfl rfl) ?_
  refine TO.sub (O' := [oI z2 25 (dC b jb), oI z1 25 (dC a ja)]) (by exact Sub.d (.k (.k .z))) ?_
  refine TO.nil ?_
  refine T.condP rfl (fun hc => ?_) (fun hc => ?_)
  · refine T.seq ?_
    refine T.region ?_
    have hk52 := fun (w1 : World) (hI : Inv w [oI z2 25 (dC b jb), oI z1 25 (dC a ja)] w1) => awakeC w1
    refine TO.loud rfl (l_call ent11 (CallT.of_pure hk52) rfl ?_)
    clear hk52
    rintro vr O' ⟨N, rfl, rfl, rfl⟩
    refine TO.quiet (q_assign rfl) ?_
    refine TO.nil (T.ret (Res.drop ?_))
    refine Res.one (.bool true) Tryd.results6 rfl ?_
    exact ⟨[], Sub.z, congrArg Value.bool (by first | rfl | (simp_all; done) | (have F4 := F4 (by simpa using hc); simp_all; done) | (cases accV a other <;> cases accV b other <;> simp_all; done)), rfl⟩
  refine T.skip (T.seq ?_)
  obtain ⟨sa, sb⟩ := longB_two (by simpa using hs26)
  have ba : a.next.length < 9223372036854775807 ∧ (∀ r ∈ a.next, r.length < 9223372036854775807) ∧ a.final.length < 9223372036854775807 := ⟨ha1, ha2, ha3⟩
  have bb : b.next.length < 9223372036854775807 ∧ (∀ r ∈ b.next, r.length < 9223372036854775807) ∧ b.final.length < 9223372036854775807 := ⟨hb1, hb2, hb3⟩
  have va : Valid a := checkD_zero.1 (by omega)
  have vb : Valid b := checkD_zero.1 (by omega)
  have Ha : HasL a.vars 8 a (acc a) := sa.has va
  have Hb : HasL a.vars 8 b (acc b) := by rw [show a.vars = b.vars by omega]; exact sb.has vb
  obtain ⟨mA, emA⟩ : ∃ m, opD andB a b = m := ⟨_, rfl⟩
  obtain ⟨mM, emM⟩ : ∃ m, minD a = m := ⟨_, rfl⟩
  obtain ⟨mI, emI⟩ : ∃ m, opD minusB a b = m := ⟨_, rfl⟩
  have bA := min_bounds (Ha.op (f := andB) Hb (by decide)).toHasL
  have vI := (Ha.op (f := minusB) Hb (by decide)).valid
  rw [emA] at bA
  rw [emI] at vI
  have hI0 := vI.n0
  have hIf := vI.fin
  have hf0 := finN_at vI hI0
  refine T.region ?_
  refine TO.quiet (q_load_boxAgg 1 Tryd.underlying25 rfl inf25 rfl rfl rfl) (TO.quiet (q_load_boxAgg 0 Tryd.underlying25 rfl inf25 rfl rfl rfl) ?_)
  have hk56 := fun (w1 : World) (hI : Inv w [oI z2 25 (dC b jb), oI z1 25 (dC a ja)] w1) => inclKB w1 Ha Hb ja jb (hI.atB ha) (hI.atB hb) (by decide)
  refine TO.loud rfl (l_call ent26 (CallT.of_pure hk56) rfl ?_)
  clear hk56
  rintro vr O' ⟨N, rfl, res1, u1, wb1, wc1, is1, hL1, hu1, hi1, rfl, rfl⟩
  refine TO.quiet (q_move rfl) (TO.quiet (q_extract (vs := _) rfl rfl) (TO.quiet (q_extract (vs := _) rfl rfl) (TO.quiet (q_extract (vs := _) rfl rfl) ?_)))
  refine TO.quiet (q_assign rfl) (TO.quiet (q_assign rfl) (TO.quiet (q_assign rfl) ?_))
  refine TO.nil (T.seq (T.region ?_))
  refine TO.quiet (q_load_boxAgg 2 Tryd.underlying25 rfl inf25 rfl rfl rfl) (TO.quiet (q_load_boxAgg 1 Tryd.underlying25 rfl inf25 rfl rfl rfl) ?_)
  have hk63 := fun (w1 : World) (hI : Inv w [rowI wb1 wc1 5 1 (byts u1), oI z2 25 (dC b jb), oI z1 25 (dC a ja)] w1) => andK w1 Ha Hb ja jb (hI.atB ha) (hI.atB hb) (by decide) (HasL.small Ha Hb (by decide)) emA
  refine TO.loud rfl (l_call ent22 (CallT.of_pure hk63) rfl ?_)
  clear hk63
  rintro vr O' ⟨N, rfl, kmA, rfl, rfl⟩
  refine TO.quiet (q_move rfl) (TO.quiet (q_extract (vs := _) rfl rfl) (TO.quiet (q_extract (vs := _) rfl rfl) ?_))
  refine TO.loud rfl (l_alloc inf25 rfl (fun z4 => ?_))
  refine TO.loud rfl (l_store_box (v := (dV mA kmA)) (vs := (dC mA kmA)) 0 inf25 rfl rfl rfl rfl rfl rfl (by simp [putL]) ?_)
  refine TO.quiet (q_assign rfl) ?_
  refine TO.nil (T.seq (T.region ?_))
  refine TO.quiet (q_load_boxAgg 4 Tryd.underlying25 rfl inf25 rfl rfl rfl) ?_
  have hk68 := fun (w1 : World) (hI : Inv w [oI z4 25 (dC mA kmA), dI 52 4 3 mA kmA, rowI wb1 wc1 5 1 (byts u1), oI z2 25 (dC b jb), oI z1 25 (dC a ja)] w1) => minKE w1 a ja (hI.atB ha) Ha.valid (Nat.lt_of_le_of_lt Ha.len (by decide)) emM
  refine TO.loud rfl (l_call ent21 (CallT.of_pure hk68) rfl ?_)
  clear hk68
  rintro vr O' ⟨N, rfl, kmM, rfl, rfl⟩
  refine TO.quiet (q_move rfl) (TO.quiet (q_extract (vs := _) rfl rfl) (TO.quiet (q_extract (vs := _) rfl rfl) ?_))
  refine TO.loud rfl (l_alloc inf25 rfl (fun z5 => ?_))
  refine TO.loud rfl (l_store_box (v := (dV mM kmM)) (vs := (dC mM kmM)) 0 inf25 rfl rfl rfl rfl rfl rfl (by simp [putL]) ?_)
  refine TO.quiet (q_assign rfl) ?_
  refine TO.nil (T.seq (T.region ?_))
  refine TO.quiet (q_load_boxAgg 6 Tryd.underlying25 rfl inf25 rfl rfl rfl) (TO.quiet (q_load_boxAgg 5 Tryd.underlying25 rfl inf25 rfl rfl rfl) ?_)
  have hk74 := fun (w1 : World) (hI : Inv w [oI z5 25 (dC mM kmM), dI 52 4 3 mM kmM, oI z4 25 (dC mA kmA), dI 52 4 3 mA kmA, rowI wb1 wc1 5 1 (byts u1), oI z2 25 (dC b jb), oI z1 25 (dC a ja)] w1) => minusK w1 Ha Hb ja jb (hI.atB ha) (hI.atB hb) (by decide) (HasL.small Ha Hb (by decide)) emI
  refine TO.loud rfl (l_call ent25 (CallT.of_pure hk74) rfl ?_)
  clear hk74
  rintro vr O' ⟨N, rfl, kmI, rfl, rfl⟩
  refine TO.quiet (q_move rfl) (TO.quiet (q_extract (vs := _) rfl rfl) (TO.quiet (q_extract (vs := _) rfl rfl) ?_))
  refine TO.loud rfl (l_alloc inf25 rfl (fun z6 => ?_))
  refine TO.loud rfl (l_store_box (v := (dV mI kmI)) (vs := (dC mI kmI)) 0 inf25 rfl rfl rfl rfl rfl rfl (by simp [putL]) ?_)
  refine TO.quiet (q_assign rfl) ?_
  refine TO.nil (T.seq (T.region ?_))
  refine TO.quiet (q_load_boxAgg 8 Tryd.underlying25 rfl inf25 rfl rfl rfl) (TO.quiet (q_load_boxAgg 7 Tryd.underlying25 rfl inf25 rfl rfl rfl) ?_)
  have hk80 := fun (w1 : World) (hI : Inv w [oI z6 25 (dC mI kmI), dI 52 4 3 mI kmI, oI z5 25 (dC mM kmM), dI 52 4 3 mM kmM, oI z4 25 (dC mA kmA), dI 52 4 3 mA kmA, rowI wb1 wc1 5 1 (byts u1), oI z2 25 (dC b jb), oI z1 25 (dC a ja)] w1) => eqlKB w1 Ha Hb ja jb (hI.atB ha) (hI.atB hb) (by decide)
  refine TO.loud rfl (l_call ent27 (CallT.of_pure hk80) rfl ?_)
  clear hk80
  rintro vr O' ⟨N, rfl, eq1, he1, rfl, rfl⟩
  refine TO.quiet (q_move rfl) (TO.quiet (q_extract (vs := _) rfl rfl) (TO.quiet (q_extract (vs := _) rfl rfl) (TO.quiet (q_assign rfl) ?_)))
  refine TO.quiet (q_assign rfl) ?_
  refine TO.nil (T.seq (T.region ?_))
  refine TO.quiet (q_load_boxAgg 7 Tryd.underlying25 rfl inf25 rfl rfl rfl) (TO.quiet (q_load_boxAgg 8 Tryd.underlying25 rfl inf25 rfl rfl rfl) ?_)
  have hk86 := fun (w1 : World) (hI : Inv w [oI z6 25 (dC mI kmI), dI 52 4 3 mI kmI, oI z5 25 (dC mM kmM), dI 52 4 3 mM kmM, oI z4 25 (dC mA kmA), dI 52 4 3 mA kmA, rowI wb1 wc1 5 1 (byts u1), oI z2 25 (dC b jb), oI z1 25 (dC a ja)] w1) => inclKB w1 Hb Ha jb ja (hI.atB hb) (hI.atB ha) (by decide)
  refine TO.loud rfl (l_call ent26 (CallT.of_pure hk86) rfl ?_)
  clear hk86
  rintro vr O' ⟨N, rfl, res2, u2, wb2, wc2, is2, hL2, hu2, hi2, rfl, rfl⟩
  refine TO.quiet (q_move rfl) (TO.quiet (q_extract (vs := _) rfl rfl) (TO.quiet (q_extract (vs := _) rfl rfl) (TO.quiet (q_extract (vs := _) rfl rfl) ?_)))
  refine TO.quiet (q_assign rfl) (TO.quiet (q_assign rfl) (TO.quiet (q_assign rfl) ?_))
  refine TO.sub (O' := [oI z6 25 (dC mI kmI), dI 52 4 3 mI kmI, oI z5 25 (dC mM kmM), dI 52 4 3 mM kmM, oI z4 25 (dC mA kmA), dI 52 4 3 mA kmA, rowI wb1 wc1 5 1 (byts u1), oI z2 25 (dC b jb), oI z1 25 (dC a ja)]) (by exact Sub.d (.k (.k (.k (.k (.k (.k (.k (.k (.k .z)))))))))) ?_
  refine TO.nil (T.seq (T.seq ?_))
  have FF := in_facts Ha Hb (by decide) (by decide) hL1 hL2 hu1 hi1 hi2 he1 other
  have F1 := FF.andM
  have F2 := FF.minusM
  have F3 := FF.both
  have F4 := FF.yes
  have F5a := FF.no
  rw [emA, emM] at F1
  rw [emI] at F2
  refine T.region ?_
  refine TO.quiet (q_move rfl) (TO.quiet (QT.toB (q_neq rfl rfl) (decide_eq_false (fun h => h rfl))) (TO.quiet (q_move rfl) ?_))
  refine TO.guarded rfl rfl rfl (LT.of_quiet rfl rfl (q_move rfl) ?_)
  refine TO.guarded rfl rfl rfl (LT.of_quiet rfl rfl (QT.toB (q_neq rfl rfl) (decide_eq_false (fun h => h rfl))) ?_)
  refine TO.quiet (q_pick0 rfl rfl) (TO.quiet (q_move rfl) ?_)
  refine TO.guarded rfl rfl rfl (LT.of_quiet rfl rfl (q_move rfl) ?_)
  refine TO.guarded rfl rfl rfl (LT.of_quiet rfl rfl (QT.toB (q_neq rfl rfl) (decide_eq_false (fun h => h rfl))) ?_)
  refine TO.quiet (q_pick0 rfl rfl) (TO.quiet (q_move rfl) ?_)
  refine TO.guarded rfl rfl rfl (LT.of_quiet rfl rfl (q_move rfl) ?_)
  refine TO.guarded rfl rfl rfl (LT.of_quiet rfl rfl (QT.toB (q_neq rfl rfl) (decide_eq_false (fun h => h rfl))) ?_)
  refine TO.quiet (q_pick0 rfl rfl) (TO.quiet (q_move rfl) ?_)
  refine TO.guarded rfl rfl rfl (LT.of_quiet rfl rfl (q_move rfl) ?_)
  refine TO.guarded rfl rfl rfl (LT.of_quiet rfl rfl (QT.toB (q_neq rfl rfl) (decide_eq_false (fun h => h rfl))) ?_)
  refine TO.quiet (q_pick0 rfl rfl) (TO.quiet (q_move rfl) ?_)
  refine TO.guarded rfl rfl rfl (LT.of_quiet rfl rfl (q_move rfl) ?_)
  refine TO.guarded rfl rfl rfl (LT.of_quiet rfl rfl (QT.toB (q_neq rfl rfl) (decide_eq_false (fun h => h rfl))) ?_)
  refine TO.quiet (q_pick0 rfl rfl) (TO.quiet (q_move rfl) ?_)
  refine TO.guarded rfl rfl rfl (LT.of_quiet rfl rfl (q_move rfl) ?_)
  refine TO.guarded rfl rfl rfl (LT.of_quiet rfl rfl (q_load_boxAgg 4 Tryd.underlying25 rfl inf25 rfl rfl rfl) ?_)
  refine TO.guarded rfl rfl rfl (LT.of_quiet rfl rfl (q_load_boxAgg 2 Tryd.underlying25 rfl inf25 rfl rfl rfl) ?_)
  have hk116 := fun (w1 : World) (hI : Inv w [oI z6 25 (dC mI kmI), dI 52 4 3 mI kmI, oI z5 25 (dC mM kmM), dI 52 4 3 mM kmM, oI z4 25 (dC mA kmA), dI 52 4 3 mA kmA, rowI wb1 wc1 5 1 (byts u1), oI z2 25 (dC b jb), oI z1 25 (dC a ja)] w1) => (show PureT _ _ _ _ _ from by
      have h9 := equalK2 w1 mA mM kmA kmM (hI.at (k := kmA) (List.mem_of_getElem? (i := 5) rfl)) (hI.at (k := kmM) (List.mem_of_getElem? (i := 3) rfl)) bA.1 bA.2.1 bA.2.2
      rw [← F1] at h9
      exact h9)
  refine TO.guarded rfl rfl rfl (l_call ent15 (CallT.of_pure hk116) rfl ?_)
  clear hk116
  rintro vr O' ⟨N, rfl, rfl, rfl⟩
  refine TO.guarded rfl rfl rfl (LT.of_quiet rfl rfl (QT.cast (q_bneq Tryd.underlying4 rfl rfl) (v' := .bool false) (by simp)) ?_)
  refine TO.quiet (q_pick0 rfl rfl) (TO.quiet (q_move rfl) ?_)
  refine TO.guarded rfl rfl rfl (LT.of_quiet rfl rfl (q_move rfl) ?_)
  refine TO.guarded rfl rfl rfl (LT.of_quiet rfl rfl (q_fieldAddr Tryd.underlying25 rfl inf22 rfl rfl) ?_)
  refine TO.guarded rfl rfl rfl (LT.of_quiet rfl rfl (q_load_box 0 Tryd.underlying22 rfl rfl rfl rfl) ?_)
  refine TO.guarded rfl rfl rfl (LT.of_quiet rfl rfl (q_len Tryd.underlying22 rfl) ?_)
  refine TO.guarded rfl rfl rfl (LT.of_quiet rfl rfl (q_eql rfl rfl) ?_)
  by_cases hs125 : (mI.next.length : Int) = 1
  · refine TO.guarded rfl rfl rfl (LT.of_quiet rfl rfl (QT.toB (q_move rfl) (decide_eq_true hs125)) ?_)
    refine TO.guarded rfl rfl rfl (LT.of_quiet rfl rfl (q_fieldAddr Tryd.underlying25 rfl inf23 rfl rfl) ?_)
    refine TO.guarded rfl rfl rfl (LT.of_quiet rfl rfl (q_load_box 0 Tryd.underlying23 rfl rfl rfl rfl) ?_)
    refine TO.guarded rfl rfl rfl (LT.of_quiet rfl rfl (q_ix (i := 0) Tryd.underlying23 inf4 rfl rfl (fun w9 hI9 => (hI9.at (k := kmI) (List.mem_of_getElem? (i := 1) rfl)).final) (by omega) (by rw [List.length_map]; omega)) ?_)
    refine TO.guarded rfl rfl rfl (LT.of_quiet rfl rfl (q_ld Tryd.underlying4 rfl rfl (fun w9 hI9 => (hI9.at (k := kmI) (List.mem_of_getElem? (i := 1) rfl)).final) hf0) ?_)
    refine TO.guarded rfl rfl rfl (LT.of_quiet rfl rfl (q_not rfl) ?_)
    refine TO.guarded rfl rfl rfl (LT.of_quiet rfl rfl (q_pick1 rfl rfl) ?_)
    refine TO.guarded rfl rfl rfl (LT.of_quiet rfl rfl (QT.cast (q_bneq Tryd.underlying4 rfl rfl) (v' := .bool false) (by rw [F2]; first | (rw [decide_eq_true hs125]; simp; done) | (rw [decide_eq_false hs125]; simp; done))) ?_)
    refine TO.quiet (q_pick0 rfl rfl) (TO.quiet (q_move rfl) ?_)
    refine TO.guarded rfl rfl rfl (LT.of_quiet rfl rfl (q_move rfl) ?_)
    refine TO.guarded rfl rfl rfl (LT.of_quiet rfl rfl (q_move rfl) ?_)
    by_cases hs137 : is1 = true
    · refine TO.guarded rfl rfl rfl (LT.of_quiet rfl rfl (QT.toB (q_move rfl) (hs137)) ?_)
      refine TO.guarded rfl rfl rfl (LT.of_quiet rfl rfl (q_move rfl) ?_)
      refine TO.guarded rfl rfl rfl (LT.of_quiet rfl rfl (q_pick1 rfl rfl) ?_)
      refine TO.guarded rfl rfl rfl (LT.of_quiet rfl rfl (QT.cast (q_bneq Tryd.underlying4 rfl rfl) (v' := .bool false) (by rw [F3]; first | (rw [hs137]; simp; done) | (rw [Bool.eq_false_iff.2 hs137]; simp; done))) ?_)
      refine TO.quiet (q_pick0 rfl rfl) ?_
      refine TO.sub (O' := [rowI wb1 wc1 5 1 (byts u1), oI z2 25 (dC b jb), oI z1 25 (dC a ja)]) (by exact Sub.d (.d (.d (.d (.d (.d (.k (.k (.k .z))))))))) ?_
      refine TO.nil ?_
      refine T.cond0 rfl ?_
      refine T.skip (T.seq (T.region ?_))
      refine TO.quiet (q_load_boxAgg 2 Tryd.underlying25 rfl inf25 rfl rfl rfl) (TO.quiet (q_move rfl) ?_)
      have hk144 := fun (w1 : World) (hI : Inv w [rowI wb1 wc1 5 1 (byts u1), oI z2 25 (dC b jb), oI z1 25 (dC a ja)] w1) => accF w1 a ja (hI.atB ha) ba.1 ba.2.1 ba.2.2 wb wc other (hI.sl hW) hwb hw8
      refine TO.loud rfl (l_call ent28 (CallT.of_pure hk144) rfl ?_)
      clear hk144
      rintro vr O' ⟨N, rfl, rfl, rfl⟩
      by_cases hs145 : (accV a other) = true
      · refine TO.quiet (QT.toB (q_move rfl) (hs145)) ?_
        refine TO.guarded rfl rfl rfl (LT.of_quiet rfl rfl (q_load_boxAgg 1 Tryd.underlying25 rfl inf25 rfl rfl rfl) ?_)
        refine TO.guarded rfl rfl rfl (LT.of_quiet rfl rfl (q_move rfl) ?_)
        have hk148 := fun (w1 : World) (hI : Inv w [rowI wb1 wc1 5 1 (byts u1), oI z2 25 (dC b jb), oI z1 25 (dC a ja)] w1) => accF w1 b jb (hI.atB hb) bb.1 bb.2.1 bb.2.2 wb wc other (hI.sl hW) hwb hw8
        refine TO.guarded rfl rfl rfl (l_call ent28 (CallT.of_pure hk148) rfl ?_)
        clear hk148
        rintro vr O' ⟨N, rfl, rfl, rfl⟩
        refine TO.guarded rfl rfl rfl (LT.of_quiet rfl rfl (q_not rfl) ?_)
        refine TO.quiet (q_pick1 rfl rfl) (TO.quiet (q_assign rfl) ?_)
        refine TO.nil (T.seq (T.seq (T.region ?_)))
        refine TO.quiet (q_move rfl) ?_
        refine TO.nil ?_
        refine T.cond rfl (fun hc => ?_) (fun hc => ?_)
        · refine T.seq ?_
          refine T.region ?_
          refine TO.quiet (q_move rfl) (TO.quiet (q_len Tryd.underlying35 rfl) (TO.quiet (QT.toB (q_eql rfl rfl) (decide_eq_true (by rw [(F4 (by simpa using hc)).1]; rfl))) (TO.quiet (q_move rfl) ?_)))
          refine TO.guarded rfl rfl rfl (LT.of_quiet rfl rfl (q_move rfl) ?_)
          refine TO.guarded rfl rfl rfl (LT.of_quiet rfl rfl (q_not rfl) ?_)
          refine TO.quiet (q_pick1 rfl rfl) (TO.quiet (q_assign rfl) ?_)
          refine TO.nil (T.ret (Res.drop ?_))
          refine Res.one (.bool (!(!(accV b other)))) Tryd.results6 rfl ?_
          exact ⟨[], Sub.z, congrArg Value.bool (by first | rfl | (simp_all; done) | (have F4 := F4 (by simpa using hc); simp_all; done) | (cases accV a other <;> cases accV b other <;> simp_all; done)), rfl⟩
        refine T.skip (T.seq (T.seq ?_))
        have F5 := fun hl => F5a (by simpa using hc) hl
        refine T.region ?_
        refine TO.quiet (q_move rfl) (TO.quiet (q_len Tryd.underlying35 rfl) (TO.quiet (q_gtr rfl rfl) ?_))
        refine TO.nil ?_
        refine T.condP rfl (fun hc => ?_) (fun hc => ?_)
        · have hlt161 : u1.length > 64 := by omega
          refine T.seq (T.region ?_)
          refine TO.quiet (q_assign rfl) ?_
          refine TO.nil (T.ret (Res.drop ?_))
          refine Res.one (.bool true) Tryd.results6 rfl ?_
          exact ⟨[], Sub.z, congrArg Value.bool (by first | rfl | (simp_all; done) | (have F4 := F4 (by simpa using hc); simp_all; done) | (cases accV a other <;> cases accV b other <;> simp_all; done)), rfl⟩
        have hge161 : ¬ u1.length > 64 := by omega
        refine T.skip (T.seq ?_)
        have F5 := F5 (by omega)
        refine T.region ?_
        refine TO.quiet (q_load_boxAgg 2 Tryd.underlying25 rfl inf25 rfl rfl rfl) (TO.quiet (q_move rfl) ?_)
        have hk164 := fun (w1 : World) (hI : Inv w [rowI wb1 wc1 5 1 (byts u1), oI z2 25 (dC b jb), oI z1 25 (dC a ja)] w1) => (show PureT _ _ _ _ _ from by
            have h9 := accF w1 a ja (hI.atB ha) ba.1 ba.2.1 ba.2.2 wb1 wc1 u1 (hI.slOf (List.mem_of_getElem? (i := 0) rfl)) (by omega) (fun x hx => by have := F5.2.2.1 x hx; omega)
            rw [F5.1] at h9
            exact h9)
        refine TO.loud rfl (l_call ent28 (CallT.of_pure hk164) rfl ?_)
        clear hk164
        rintro vr O' ⟨N, rfl, rfl, rfl⟩
        refine TO.quiet (q_move rfl) ?_
        refine TO.guarded rfl rfl rfl (LT.of_quiet rfl rfl (q_load_boxAgg 1 Tryd.underlying25 rfl inf25 rfl rfl rfl) ?_)
        refine TO.guarded rfl rfl rfl (LT.of_quiet rfl rfl (q_move rfl) ?_)
        have hk168 := fun (w1 : World) (hI : Inv w [rowI wb1 wc1 5 1 (byts u1), oI z2 25 (dC b jb), oI z1 25 (dC a ja)] w1) => (show PureT _ _ _ _ _ from by
            have h9 := accF w1 b jb (hI.atB hb) bb.1 bb.2.1 bb.2.2 wb1 wc1 u1 (hI.slOf (List.mem_of_getElem? (i := 0) rfl)) (by omega) (fun x hx => by have := F5.2.2.1 x hx; omega)
            rw [F5.2.1] at h9
            exact h9)
        refine TO.guarded rfl rfl rfl (l_call ent28 (CallT.of_pure hk168) rfl ?_)
        clear hk168
        rintro vr O' ⟨N, rfl, rfl, rfl⟩
        refine TO.guarded rfl rfl rfl (LT.of_quiet rfl rfl (q_not rfl) ?_)
        refine TO.quiet (q_pick1 rfl rfl) (TO.quiet (q_move rfl) ?_)
        refine TO.guarded rfl rfl rfl (LT.of_quiet rfl rfl (q_move rfl) ?_)
        refine TO.guarded rfl rfl rfl (LT.of_quiet rfl rfl (q_not rfl) ?_)
        by_cases hs174 : ((!(!(accV b other)))) = true
        · refine TO.guarded rfl rfl rfl (LT.of_quiet rfl rfl (QT.toB (q_move rfl) (hs174)) ?_)
          refine TO.passed rfl rfl ?_
          refine TO.passed rfl rfl ?_
          refine TO.passed rfl rfl ?_
          refine TO.passed rfl rfl ?_
          refine TO.guarded rfl rfl rfl (LT.of_quiet rfl rfl (q_pick1 rfl rfl) ?_)
          refine TO.quiet (q_pick1 rfl rfl) (TO.quiet (q_assign rfl) ?_)
          refine TO.nil (T.ret (Res.drop ?_))
          refine Res.one (.bool true) Tryd.results6 rfl ?_
          exact ⟨[], Sub.z, congrArg Value.bool (by first | rfl | (simp_all; done) | (have F4 := F4 (by simpa using hc); simp_all; done) | (cases accV a other <;> cases accV b other <;> simp_all; done)), rfl⟩
        refine TO.guarded rfl rfl rfl (LT.of_quiet rfl rfl (QT.toB (q_move rfl) (Bool.eq_false_iff.2 hs174)) ?_)
        refine TO.guarded rfl rfl rfl (LT.of_quiet rfl rfl (q_move rfl) ?_)
        refine TO.guarded rfl rfl rfl (LT.of_quiet rfl rfl (q_move rfl) ?_)
        have hk177 := fun (w1 : World) (hI : Inv w [rowI wb1 wc1 5 1 (byts u1), oI z2 25 (dC b jb), oI z1 25 (dC a ja)] w1) => cmpW w1 wb1 wb wc1 wc u1 other (hI.slOf (List.mem_of_getElem? (i := 0) rfl)) (hI.sl hW) hwb F5.2.2.1 (F5.2.2.2 (by simp_all) (by simp_all)).1 (F5.2.2.2 (by simp_all) (by simp_all)).2
        refine TO.guarded rfl rfl rfl (l_call ent29 (CallT.of_pure hk177) rfl ?_)
        clear hk177
        rintro vr O' ⟨N, rfl, cc9, rfl, hcc9, rfl⟩
        refine TO.guarded rfl rfl rfl (LT.of_quiet rfl rfl (QT.toB (q_leq rfl rfl) (decide_eq_true (by omega))) ?_)
        refine TO.guarded rfl rfl rfl (LT.of_quiet rfl rfl (q_pick0 rfl rfl) ?_)
        refine TO.quiet (q_pick1 rfl rfl) (TO.quiet (q_assign rfl) ?_)
        refine TO.nil (T.ret (Res.drop ?_))
        refine Res.one (.bool true) Tryd.results6 rfl ?_
        exact ⟨[], Sub.z, congrArg Value.bool (by first | rfl | (simp_all; done) | (have F4 := F4 (by simpa using hc); simp_all; done) | (cases accV a other <;> cases accV b other <;> simp_all; done)), rfl⟩
      refine TO.quiet (QT.toB (q_move rfl) (Bool.eq_false_iff.2 hs145)) ?_
      refine TO.passed rfl rfl ?_
      refine TO.passed rfl rfl ?_
      refine TO.passed rfl rfl ?_
      refine TO.passed rfl rfl ?_
      refine TO.quiet (q_pick0 rfl rfl) (TO.quiet (q_assign rfl) ?_)
      refine TO.nil (T.seq (T.seq (T.region ?_)))
      refine TO.quiet (q_move rfl) ?_
      refine TO.nil ?_
      refine T.cond rfl (fun hc => ?_) (fun hc => ?_)
      · refine T.seq ?_
        refine T.region ?_
        refine TO.quiet (q_move rfl) (TO.quiet (q_len Tryd.underlying35 rfl) (TO.quiet (QT.toB (q_eql rfl rfl) (decide_eq_true (by rw [(F4 (by simpa using hc)).1]; rfl))) (TO.quiet (q_move rfl) ?_)))
        refine TO.guarded rfl rfl rfl (LT.of_quiet rfl rfl (q_move rfl) ?_)
        refine TO.guarded rfl rfl rfl (LT.of_quiet rfl rfl (q_not rfl) ?_)
        refine TO.quiet (q_pick1 rfl rfl) (TO.quiet (q_assign rfl) ?_)
        refine TO.nil (T.ret (Res.drop ?_))
        refine Res.one (.bool true) Tryd.results6 rfl ?_
        exact ⟨[], Sub.z, congrArg Value.bool (by first | rfl | (simp_all; done) | (have F4 := F4 (by simpa using hc); simp_all; done) | (cases accV a other <;> cases accV b other <;> simp_all; done)), rfl⟩
      refine T.skip (T.seq (T.seq ?_))
      have F5 := fun hl => F5a (by simpa using hc) hl
      refine T.region ?_
      refine TO.quiet (q_move rfl) (TO.quiet (q_len Tryd.underlying35 rfl) (TO.quiet (q_gtr rfl rfl) ?_))
      refine TO.nil ?_
      refine T.condP rfl (fun hc => ?_) (fun hc => ?_)
      · have hlt161 : u1.length > 64 := by omega
        refine T.seq (T.region ?_)
        refine TO.quiet (q_assign rfl) ?_
        refine TO.nil (T.ret (Res.drop ?_))
        refine Res.one (.bool true) Tryd.results6 rfl ?_
        exact ⟨[], Sub.z, congrArg Value.bool (by first | rfl | (simp_all; done) | (have F4 := F4 (by simpa using hc); simp_all; done) | (cases accV a other <;> cases accV b other <;> simp_all; done)), rfl⟩
      have hge161 : ¬ u1.length > 64 := by omega
      refine T.skip (T.seq ?_)
      have F5 := F5 (by omega)
      refine T.region ?_
      refine TO.quiet (q_load_boxAgg 2 Tryd.underlying25 rfl inf25 rfl rfl rfl) (TO.quiet (q_move rfl) ?_)
      have hk164 := fun (w1 : World) (hI : Inv w [rowI wb1 wc1 5 1 (byts u1), oI z2 25 (dC b jb), oI z1 25 (dC a ja)] w1) => (show PureT _ _ _ _ _ from by
          have h9 := accF w1 a ja (hI.atB ha) ba.1 ba.2.1 ba.2.2 wb1 wc1 u1 (hI.slOf (List.mem_of_getElem? (i := 0) rfl)) (by omega) (fun x hx => by have := F5.2.2.1 x hx; omega)
          rw [F5.1] at h9
          exact h9)
      refine TO.loud rfl (l_call ent28 (CallT.of_pure hk164) rfl ?_)
      clear hk164
      rintro vr O' ⟨N, rfl, rfl, rfl⟩
      refine TO.quiet (q_move rfl) ?_
      refine TO.guarded rfl rfl rfl (LT.of_quiet rfl rfl (q_load_boxAgg 1 Tryd.underlying25 rfl inf25 rfl rfl rfl) ?_)
      refine TO.guarded rfl rfl rfl (LT.of_quiet rfl rfl (q_move rfl) ?_)
      have hk168 := fun (w1 : World) (hI : Inv w [rowI wb1 wc1 5 1 (byts u1), oI z2 25 (dC b jb), oI z1 25 (dC a ja)] w1) => (show PureT _ _ _ _ _ from by
          have h9 := accF w1 b jb (hI.atB hb) bb.1 bb.2.1 bb.2.2 wb1 wc1 u1 (hI.slOf (List.mem_of_getElem? (i := 0) rfl)) (by omega) (fun x hx => by have := F5.2.2.1 x hx; omega)
          rw [F5.2.1] at h9
          exact h9)
      refine TO.guarded rfl rfl rfl (l_call ent28 (CallT.of_pure hk168) rfl ?_)
      clear hk168
      rintro vr O' ⟨N, rfl, rfl, rfl⟩
      refine TO.guarded rfl rfl rfl (LT.of_quiet rfl rfl (q_not rfl) ?_)
      refine TO.quiet (q_pick1 rfl rfl) (TO.quiet (q_move rfl) ?_)
      refine TO.guarded rfl rfl rfl (LT.of_quiet rfl rfl (q_move rfl) ?_)
      refine TO.guarded rfl rfl rfl (LT.of_quiet rfl rfl (q_not rfl) ?_)
      refine TO.guarded rfl rfl rfl (LT.of_quiet rfl rfl (q_move rfl) ?_)
      refine TO.passed rfl rfl ?_
      refine TO.passed rfl rfl ?_
      refine TO.passed rfl rfl ?_
      refine TO.passed rfl rfl ?_
      refine TO.guarded rfl rfl rfl (LT.of_quiet rfl rfl (q_pick1 rfl rfl) ?_)
      refine TO.quiet (q_pick1 rfl rfl) (TO.quiet (q_assign rfl) ?_)
      refine TO.nil (T.ret (Res.drop ?_))
      refine Res.one (.bool true) Tryd.results6 rfl ?_
      exact ⟨[], Sub.z, congrArg Value.bool (by first | rfl | (simp_all; done) | (have F4 := F4 (by simpa using hc); simp_all; done) | (cases accV a other <;> cases accV b other <;> simp_all; done)), rfl⟩
    refine TO.guarded rfl rfl rfl (LT.of_quiet rfl rfl (QT.toB (q_move rfl) (Bool.eq_false_iff.2 hs137)) ?_)
    refine TO.passed rfl rfl ?_
    refine TO.guarded rfl rfl rfl (LT.of_quiet rfl rfl (q_pick0 rfl rfl) ?_)
    refine TO.guarded rfl rfl rfl (LT.of_quiet rfl rfl (QT.cast (q_bneq Tryd.underlying4 rfl rfl) (v' := .bool false) (by rw [F3]; first | (rw [hs137]; simp; done) | (rw [Bool.eq_false_iff.2 hs137]; simp; done))) ?_)
    refine TO.quiet (q_pick0 rfl rfl) ?_
    refine TO.sub (O' := [rowI wb1 wc1 5 1 (byts u1), oI z2 25 (dC b jb), oI z1 25 (dC a ja)]) (by exact Sub.d (.d (.d (.d (.d (.d (.k (.k (.k .z))))))))) ?_
    refine TO.nil ?_
    refine T.cond0 rfl ?_
    refine T.skip (T.seq (T.region ?_))
    refine TO.quiet (q_load_boxAgg 2 Tryd.underlying25 rfl inf25 rfl rfl rfl) (TO.quiet (q_move rfl) ?_)
    have hk144 := fun (w1 : World) (hI : Inv w [rowI wb1 wc1 5 1 (byts u1), oI z2 25 (dC b jb), oI z1 25 (dC a ja)] w1) => accF w1 a ja (hI.atB ha) ba.1 ba.2.1 ba.2.2 wb wc other (hI.sl hW) hwb hw8
    refine TO.loud rfl (l_call ent28 (CallT.of_pure hk144) rfl ?_)
    clear hk144
    rintro vr O' ⟨N, rfl, rfl, rfl⟩
    by_cases hs145 : (accV a other) = true
    · refine TO.quiet (QT.toB (q_move rfl) (hs145)) ?_
      refine TO.guarded rfl rfl rfl (LT.of_quiet rfl rfl (q_load_boxAgg 1 Tryd.underlying25 rfl inf25 rfl rfl rfl) ?_)
      refine TO.guarded rfl rfl rfl (LT.of_quiet rfl rfl (q_move rfl) ?_)
      have hk148 := fun (w1 : World) (hI : Inv w [rowI wb1 wc1 5 1 (byts u1), oI z2 25 (dC b jb), oI z1 25 (dC a ja)] w1) => accF w1 b jb (hI.atB hb) bb.1 bb.2.1 bb.2.2 wb wc other (hI.sl hW) hwb hw8
      refine TO.guarded rfl rfl rfl (l_call ent28 (CallT.of_pure hk148) rfl ?_)
      clear hk148
      rintro vr O' ⟨N, rfl, rfl, rfl⟩
      refine TO.guarded rfl rfl rfl (LT.of_quiet rfl rfl (q_not rfl) ?_)
      refine TO.quiet (q_pick1 rfl rfl) (TO.quiet (q_assign rfl) ?_)
      refine TO.nil (T.seq (T.seq (T.region ?_)))
      refine TO.quiet (q_move rfl) ?_
      refine TO.nil ?_
      refine T.cond rfl (fun hc => ?_) (fun hc => ?_)
      · refine T.seq ?_
        refine T.region ?_
        refine TO.quiet (q_move rfl) (TO.quiet (q_len Tryd.underlying35 rfl) (TO.quiet (QT.toB (q_eql rfl rfl) (decide_eq_true (by rw [(F4 (by simpa using hc)).1]; rfl))) (TO.quiet (q_move rfl) ?_)))
        refine TO.guarded rfl rfl rfl (LT.of_quiet rfl rfl (q_move rfl) ?_)
        refine TO.guarded rfl rfl rfl (LT.of_quiet rfl rfl (q_not rfl) ?_)
        refine TO.quiet (q_pick1 rfl rfl) (TO.quiet (q_assign rfl) ?_)
        refine TO.nil (T.ret (Res.drop ?_))
        refine Res.one (.bool (!(!(accV b other)))) Tryd.results6 rfl ?_
        exact ⟨[], Sub.z, congrArg Value.bool (by first | rfl | (simp_all; done) | (have F4 := F4 (by simpa using hc); simp_all; done) | (cases accV a other <;> cases accV b other <;> simp_all; done)), rfl⟩
      refine T.skip (T.seq (T.seq ?_))
      have F5 := fun hl => F5a (by simpa using hc) hl
      refine T.region ?_
      refine TO.quiet (q_move rfl) (TO.quiet (q_len Tryd.underlying35 rfl) (TO.quiet (q_gtr rfl rfl) ?_))
      refine TO.nil ?_
      refine T.condP rfl (fun hc => ?_) (fun hc => ?_)
      · have hlt161 : u1.length > 64 := by omega
        refine T.seq (T.region ?_)
        refine TO.quiet (q_assign rfl) ?_
        refine TO.nil (T.ret (Res.drop ?_))
        refine Res.one (.bool true) Tryd.results6 rfl ?_
        exact ⟨[], Sub.z, congrArg Value.bool (by first | rfl | (simp_all; done) | (have F4 := F4 (by simpa using hc); simp_all; done) | (cases accV a other <;> cases accV b other <;> simp_all; done)), rfl⟩
      have hge161 : ¬ u1.length > 64 := by omega
      refine T.skip (T.seq ?_)
      have F5 := F5 (by omega)
      refine T.region ?_
      refine TO.quiet (q_load_boxAgg 2 Tryd.underlying25 rfl inf25 rfl rfl rfl) (TO.quiet (q_move rfl) ?_)
      have hk164 := fun (w1 : World) (hI : Inv w [rowI wb1 wc1 5 1 (byts u1), oI z2 25 (dC b jb), oI z1 25 (dC a ja)] w1) => (show PureT _ _ _ _ _ from by
          have h9 := accF w1 a ja (hI.atB ha) ba.1 ba.2.1 ba.2.2 wb1 wc1 u1 (hI.slOf (List.mem_of_getElem? (i := 0) rfl)) (by omega) (fun x hx => by have := F5.2.2.1 x hx; omega)
          rw [F5.1] at h9
          exact h9)
      refine TO.loud rfl (l_call ent28 (CallT.of_pure hk164) rfl ?_)
      clear hk164
      rintro vr O' ⟨N, rfl, rfl, rfl⟩
      refine TO.quiet (q_move rfl) ?_
      refine TO.guarded rfl rfl rfl (LT.of_quiet rfl rfl (q_load_boxAgg 1 Tryd.underlying25 rfl inf25 rfl rfl rfl) ?_)
      refine TO.guarded rfl rfl rfl (LT.of_quiet rfl rfl (q_move rfl) ?_)
      have hk168 := fun (w1 : World) (hI : Inv w [rowI wb1 wc1 5 1 (byts u1), oI z2 25 (dC b jb), oI z1 25 (dC a ja)] w1) => (show PureT _ _ _ _ _ from by
          have h9 := accF w1 b jb (hI.atB hb) bb.1 bb.2.1 bb.2.2 wb1 wc1 u1 (hI.slOf (List.mem_of_getElem? (i := 0) rfl)) (by omega) (fun x hx => by have := F5.2.2.1 x hx; omega)
          rw [F5.2.1] at h9
          exact h9)
      refine TO.guarded rfl rfl rfl (l_call ent28 (CallT.of_pure hk168) rfl ?_)
      clear hk168
      rintro vr O' ⟨N, rfl, rfl, rfl⟩
      refine TO.guarded rfl rfl rfl (LT.of_quiet rfl rfl (q_not rfl) ?_)
      refine TO.quiet (q_pick1 rfl rfl) (TO.quiet (q_move rfl) ?_)
      refine TO.guarded rfl rfl rfl (LT.of_quiet rfl rfl (q_move rfl) ?_)
      refine TO.guarded rfl rfl rfl (LT.of_quiet rfl rfl (q_not rfl) ?_)
      by_cases hs174 : ((!(!(accV b other)))) = true
      · refine TO.guarded rfl rfl rfl (LT.of_quiet rfl rfl (QT.toB (q_move rfl) (hs174)) ?_)
        refine TO.passed rfl rfl ?_
        refine TO.passed rfl rfl ?_
        refine TO.passed rfl rfl ?_
        refine TO.passed rfl rfl ?_
        refine TO.guarded rfl rfl rfl (LT.of_quiet rfl rfl (q_pick1 rfl rfl) ?_)
        refine TO.quiet (q_pick1 rfl rfl) (TO.quiet (q_assign rfl) ?_)
        refine TO.nil (T.ret (Res.drop ?_))
        refine Res.one (.bool true) Tryd.results6 rfl ?_
        exact ⟨[], Sub.z, congrArg Value.bool (by first | rfl | (simp_all; done) | (have F4 := F4 (by simpa using hc); simp_all; done) | (cases accV a other <;> cases accV b other <;> simp_all; done)), rfl⟩
      refine TO.guarded rfl rfl rfl (LT.of_quiet rfl rfl (QT.toB (q_move rfl) (Bool.eq_false_iff.2 hs174)) ?_)
      refine TO.guarded rfl rfl rfl (LT.of_quiet rfl rfl (q_move rfl) ?_)
      refine TO.guarded rfl rfl rfl (LT.of_quiet rfl rfl (q_move rfl) ?_)
      have hk177 := fun (w1 : World) (hI : Inv w [rowI wb1 wc1 5 1 (byts u1), oI z2 25 (dC b jb), oI z1 25 (dC a ja)] w1) => cmpW w1 wb1 wb wc1 wc u1 other (hI.slOf (List.mem_of_getElem? (i := 0) rfl)) (hI.sl hW) hwb F5.2.2.1 (F5.2.2.2 (by simp_all) (by simp_all)).1 (F5.2.2.2 (by simp_all) (by simp_all)).2
      refine TO.guarded rfl rfl rfl (l_call ent29 (CallT.of_pure hk177) rfl ?_)
      clear hk177
      rintro vr O' ⟨N, rfl, cc9, rfl, hcc9, rfl⟩
      refine TO.guarded rfl rfl rfl (LT.of_quiet rfl rfl (QT.toB (q_leq rfl rfl) (decide_eq_true (by omega))) ?_)
      refine TO.guarded rfl rfl rfl (LT.of_quiet rfl rfl (q_pick0 rfl rfl) ?_)
      refine TO.quiet (q_pick1 rfl rfl) (TO.quiet (q_assign rfl) ?_)
      refine TO.nil (T.ret (Res.drop ?_))
      refine Res.one (.bool true) Tryd.results6 rfl ?_
      exact ⟨[], Sub.z, congrArg Value.bool (by first | rfl | (simp_all; done) | (have F4 := F4 (by simpa using hc); simp_all; done) | (cases accV a other <;> cases accV b other <;> simp_all; done)), rfl⟩
    refine TO.quiet (QT.toB (q_move rfl) (Bool.eq_false_iff.2 hs145)) ?_
    refine TO.passed rfl rfl ?_
    refine TO.passed rfl rfl ?_
    refine TO.passed rfl rfl ?_
    refine TO.passed rfl rfl ?_
    refine TO.quiet (q_pick0 rfl rfl) (TO.quiet (q_assign rfl) ?_)
    refine TO.nil (T.seq (T.seq (T.region ?_)))
    refine TO.quiet (q_move rfl) ?_
    refine TO.nil ?_
    refine T.cond rfl (fun hc => ?_) (fun hc => ?_)
    · refine T.seq ?_
      refine T.region ?_
      refine TO.quiet (q_move rfl) (TO.quiet (q_len Tryd.underlying35 rfl) (TO.quiet (QT.toB (q_eql rfl rfl) (decide_eq_true (by rw [(F4 (by simpa using hc)).1]; rfl))) (TO.quiet (q_move rfl) ?_)))
      refine TO.guarded rfl rfl rfl (LT.of_quiet rfl rfl (q_move rfl) ?_)
      refine TO.guarded rfl rfl rfl (LT.of_quiet rfl rfl (q_not rfl) ?_)
      refine TO.quiet (q_pick1 rfl rfl) (TO.quiet (q_assign rfl) ?_)
      refine TO.nil (T.ret (Res.drop ?_))
      refine Res.one (.bool true) Tryd.results6 rfl ?_
      exact ⟨[], Sub.z, congrArg Value.bool (by first | rfl | (simp_all; done) | (have F4 := F4 (by simpa using hc); simp_all; done) | (cases accV a other <;> cases accV b other <;> simp_all; done)), rfl⟩
    refine T.skip (T.seq (T.seq ?_))
    have F5 := fun hl => F5a (by simpa using hc) hl
    refine T.region ?_
    refine TO.quiet (q_move rfl) (TO.quiet (q_len Tryd.underlying35 rfl) (TO.quiet (q_gtr rfl rfl) ?_))
    refine TO.nil ?_
    refine T.condP rfl (fun hc => ?_) (fun hc => ?_)
    · have hlt161 : u1.length > 64 := by omega
      refine T.seq (T.region ?_)
      refine TO.quiet (q_assign rfl) ?_
      refine TO.nil (T.ret (Res.drop ?_))
      refine Res.one (.bool true) Tryd.results6 rfl ?_
      exact ⟨[], Sub.z, congrArg Value.bool (by first | rfl | (simp_all; done) | (have F4 := F4 (by simpa using hc); simp_all; done) | (cases accV a other <;> cases accV b other <;> simp_all; done)), rfl⟩
    have hge161 : ¬ u1.length > 64 := by omega
    refine T.skip (T.seq ?_)
    have F5 := F5 (by omega)
    refine T.region ?_
    refine TO.quiet (q_load_boxAgg 2 Tryd.underlying25 rfl inf25 rfl rfl rfl) (TO.quiet (q_move rfl) ?_)
    have hk164 := fun (w1 : World) (hI : Inv w [rowI wb1 wc1 5 1 (byts u1), oI z2 25 (dC b jb), oI z1 25 (dC a ja)] w1) => (show PureT _ _ _ _ _ from by
        have h9 := accF w1 a ja (hI.atB ha) ba.1 ba.2.1 ba.2.2 wb1 wc1 u1 (hI.slOf (List.mem_of_getElem? (i := 0) rfl)) (by omega) (fun x hx => by have := F5.2.2.1 x hx; omega)
        rw [F5.1] at h9
        exact h9)
    refine TO.loud rfl (l_call ent28 (CallT.of_pure hk164) rfl ?_)
    clear hk164
    rintro vr O' ⟨N, rfl, rfl, rfl⟩
    refine TO.quiet (q_move rfl) ?_
    refine TO.guarded rfl rfl rfl (LT.of_quiet rfl rfl (q_load_boxAgg 1 Tryd.underlying25 rfl inf25 rfl rfl rfl) ?_)
    refine TO.guarded rfl rfl rfl (LT.of_quiet rfl rfl (q_move rfl) ?_)
    have hk168 := fun (w1 : World) (hI : Inv w [rowI wb1 wc1 5 1 (byts u1), oI z2 25 (dC b jb), oI z1 25 (dC a ja)] w1) => (show PureT _ _ _ _ _ from by
        have h9 := accF w1 b jb (hI.atB hb) bb.1 bb.2.1 bb.2.2 wb1 wc1 u1 (hI.slOf (List.mem_of_getElem? (i := 0) rfl)) (by omega) (fun x hx => by have := F5.2.2.1 x hx; omega)
        rw [F5.2.1] at h9
        exact h9)
    refine TO.guarded rfl rfl rfl (l_call ent28 (CallT.of_pure hk168) rfl ?_)
    clear hk168
    rintro vr O' ⟨N, rfl, rfl, rfl⟩
    refine TO.guarded rfl rfl rfl (LT.of_quiet rfl rfl (q_not rfl) ?_)
    refine TO.quiet (q_pick1 rfl rfl) (TO.quiet (q_move rfl) ?_)
    refine TO.guarded rfl rfl rfl (LT.of_quiet rfl rfl (q_move rfl) ?_)
    refine TO.guarded rfl rfl rfl (LT.of_quiet rfl rfl (q_not rfl) ?_)
    refine TO.guarded rfl rfl rfl (LT.of_quiet rfl rfl (q_move rfl) ?_)
    refine TO.passed rfl rfl ?_
    refine TO.passed rfl rfl ?_
    refine TO.passed rfl rfl ?_
    refine TO.passed rfl rfl ?_
    refine TO.guarded rfl rfl rfl (LT.of_quiet rfl rfl (q_pick1 rfl rfl) ?_)
    refine TO.quiet (q_pick1 rfl rfl) (TO.quiet (q_assign rfl) ?_)
    refine TO.nil (T.ret (Res.drop ?_))
    refine Res.one (.bool true) Tryd.results6 rfl ?_
    exact ⟨[], Sub.z, congrArg Value.bool (by first | rfl | (simp_all; done) | (have F4 := F4 (by simpa using hc); simp_all; done) | (cases accV a other <;> cases accV b other <;> simp_all; done)), rfl⟩
  refine TO.guarded rfl rfl rfl (LT.of_quiet rfl rfl (QT.toB (q_move rfl) (decide_eq_false hs125)) ?_)
  refine TO.passed rfl rfl ?_
  refine TO.passed rfl rfl ?_
  refine TO.passed rfl rfl ?_
  refine TO.passed rfl rfl ?_
  refine TO.passed rfl rfl ?_
  refine TO.guarded rfl rfl rfl (LT.of_quiet rfl rfl (q_pick0 rfl rfl) ?_)
  refine TO.guarded rfl rfl rfl (LT.of_quiet rfl rfl (QT.cast (q_bneq Tryd.underlying4 rfl rfl) (v' := .bool false) (by rw [F2]; first | (rw [decide_eq_true hs125]; simp; done) | (rw [decide_eq_false hs125]; simp; done))) ?_)
  refine TO.quiet (q_pick0 rfl rfl) (TO.quiet (q_move rfl) ?_)
  refine TO.guarded rfl rfl rfl (LT.of_quiet rfl rfl (q_move rfl) ?_)
  refine TO.guarded rfl rfl rfl (LT.of_quiet rfl rfl (q_move rfl) ?_)
  by_cases hs137 : is1 = true
  · refine TO.guarded rfl rfl rfl (LT.of_quiet rfl rfl (QT.toB (q_move rfl) (hs137)) ?_)
    refine TO.guarded rfl rfl rfl (LT.of_quiet rfl rfl (q_move rfl) ?_)
    refine TO.guarded rfl rfl rfl (LT.of_quiet rfl rfl (q_pick1 rfl rfl) ?_)
    refine TO.guarded rfl rfl rfl (LT.of_quiet rfl rfl (QT.cast (q_bneq Tryd.underlying4 rfl rfl) (v' := .bool false) (by rw [F3]; first | (rw [hs137]; simp; done) | (rw [Bool.eq_false_iff.2 hs137]; simp; done))) ?_)
    refine TO.quiet (q_pick0 rfl rfl) ?_
    refine TO.sub (O' := [rowI wb1 wc1 5 1 (byts u1), oI z2 25 (dC b jb), oI z1 25 (dC a ja)]) (by exact Sub.d (.d (.d (.d (.d (.d (.k (.k (.k .z))))))))) ?_
    refine TO.nil ?_
    refine T.cond0 rfl ?_
    refine T.skip (T.seq (T.region ?_))
    refine TO.quiet (q_load_boxAgg 2 Tryd.underlying25 rfl inf25 rfl rfl rfl) (TO.quiet (q_move rfl) ?_)
    have hk144 := fun (w1 : World) (hI : Inv w [rowI wb1 wc1 5 1 (byts u1), oI z2 25 (dC b jb), oI z1 25 (dC a ja)] w1) => accF w1 a ja (hI.atB ha) ba.1 ba.2.1 ba.2.2 wb wc other (hI.sl hW) hwb hw8
    refine TO.loud rfl (l_call ent28 (CallT.of_pure hk144) rfl ?_)
    clear hk144
    rintro vr O' ⟨N, rfl, rfl, rfl⟩
    by_cases hs145 : (accV a other) = true
    · refine TO.quiet (QT.toB (q_move rfl) (hs145)) ?_
      refine TO.guarded rfl rfl rfl (LT.of_quiet rfl rfl (q_load_boxAgg 1 Tryd.underlying25 rfl inf25 rfl rfl rfl) ?_)
      refine TO.guarded rfl rfl rfl (LT.of_quiet rfl rfl (q_move rfl) ?_)
      have hk148 := fun (w1 : World) (hI : Inv w [rowI wb1 wc1 5 1 (byts u1), oI z2 25 (dC b jb), oI z1 25 (dC a ja)] w1) => accF w1 b jb (hI.atB hb) bb.1 bb.2.1 bb.2.2 wb wc other (hI.sl hW) hwb hw8
      refine TO.guarded rfl rfl rfl (l_call ent28 (CallT.of_pure hk148) rfl ?_)
      clear hk148
      rintro vr O' ⟨N, rfl, rfl, rfl⟩
      refine TO.guarded rfl rfl rfl (LT.of_quiet rfl rfl (q_not rfl) ?_)
      refine TO.quiet (q_pick1 rfl rfl) (TO.quiet (q_assign rfl) ?_)
      refine TO.nil (T.seq (T.seq (T.region ?_)))
      refine TO.quiet (q_move rfl) ?_
      refine TO.nil ?_
      refine T.cond rfl (fun hc => ?_) (fun hc => ?_)
      · refine T.seq ?_
        refine T.region ?_
        refine TO.quiet (q_move rfl) (TO.quiet (q_len Tryd.underlying35 rfl) (TO.quiet (QT.toB (q_eql rfl rfl) (decide_eq_true (by rw [(F4 (by simpa using hc)).1]; rfl))) (TO.quiet (q_move rfl) ?_)))
        refine TO.guarded rfl rfl rfl (LT.of_quiet rfl rfl (q_move rfl) ?_)
        refine TO.guarded rfl rfl rfl (LT.of_quiet rfl rfl (q_not rfl) ?_)
        refine TO.quiet (q_pick1 rfl rfl) (TO.quiet (q_assign rfl) ?_)
        refine TO.nil (T.ret (Res.drop ?_))
        refine Res.one (.bool (!(!(accV b other)))) Tryd.results6 rfl ?_
        exact ⟨[], Sub.z, congrArg Value.bool (by first | rfl | (simp_all; done) | (have F4 := F4 (by simpa using hc); simp_all; done) | (cases accV a other <;> cases accV b other <;> simp_all; done)), rfl⟩
      refine T.skip (T.seq (T.seq ?_))
      have F5 := fun hl => F5a (by simpa using hc) hl
      refine T.region ?_
      refine TO.quiet (q_move rfl) (TO.quiet (q_len Tryd.underlying35 rfl) (TO.quiet (q_gtr rfl rfl) ?_))
      refine TO.nil ?_
      refine T.condP rfl (fun hc => ?_) (fun hc => ?_)
      · have hlt161 : u1.length > 64 := by omega
        refine T.seq (T.region ?_)
        refine TO.quiet (q_assign rfl) ?_
        refine TO.nil (T.ret (Res.drop ?_))
        refine Res.one (.bool true) Tryd.results6 rfl ?_
        exact ⟨[], Sub.z, congrArg Value.bool (by first | rfl | (simp_all; done) | (have F4 := F4 (by simpa using hc); simp_all; done) | (cases accV a other <;> cases accV b other <;> simp_all; done)), rfl⟩
      have hge161 : ¬ u1.length > 64 := by omega
      refine T.skip (T.seq ?_)
      have F5 := F5 (by omega)
      refine T.region ?_
      refine TO.quiet (q_load_boxAgg 2 Tryd.underlying25 rfl inf25 rfl rfl rfl) (TO.quiet (q_move rfl) ?_)
      have hk164 := fun (w1 : World) (hI : Inv w [rowI wb1 wc1 5 1 (byts u1), oI z2 25 (dC b jb), oI z1 25 (dC a ja)] w1) => (show PureT _ _ _ _ _ from by
          have h9 := accF w1 a ja (hI.atB ha) ba.1 ba.2.1 ba.2.2 wb1 wc1 u1 (hI.slOf (List.mem_of_getElem? (i := 0) rfl)) (by omega) (fun x hx => by have := F5.2.2.1 x hx; omega)
          rw [F5.1] at h9
          exact h9)
      refine TO.loud rfl (l_call ent28 (CallT.of_pure hk164) rfl ?_)
      clear hk164
      rintro vr O' ⟨N, rfl, rfl, rfl⟩
      refine TO.quiet (q_move rfl) ?_
      refine TO.guarded rfl rfl rfl (LT.of_quiet rfl rfl (q_load_boxAgg 1 Tryd.underlying25 rfl inf25 rfl rfl rfl) ?_)
      refine TO.guarded rfl rfl rfl (LT.of_quiet rfl rfl (q_move rfl) ?_)
      have hk168 := fun (w1 : World) (hI : Inv w [rowI wb1 wc1 5 1 (byts u1), oI z2 25 (dC b jb), oI z1 25 (dC a ja)] w1) => (show PureT _ _ _ _ _ from by
          have h9 := accF w1 b jb (hI.atB hb) bb.1 bb.2.1 bb.2.2 wb1 wc1 u1 (hI.slOf (List.mem_of_getElem? (i := 0) rfl)) (by omega) (fun x hx => by have := F5.2.2.1 x hx; omega)
          rw [F5.2.1] at h9
          exact h9)
      refine TO.guarded rfl rfl rfl (l_call ent28 (CallT.of_pure hk168) rfl ?_)
      clear hk168
      rintro vr O' ⟨N, rfl, rfl, rfl⟩
      refine TO.guarded rfl rfl rfl (LT.of_quiet rfl rfl (q_not rfl) ?_)
      refine TO.quiet (q_pick1 rfl rfl) (TO.quiet (q_move rfl) ?_)
      refine TO.guarded rfl rfl rfl (LT.of_quiet rfl rfl (q_move rfl) ?_)
      refine TO.guarded rfl rfl rfl (LT.of_quiet rfl rfl (q_not rfl) ?_)
      by_cases hs174 : ((!(!(accV b other)))) = true
      · refine TO.guarded rfl rfl rfl (LT.of_quiet rfl rfl (QT.toB (q_move rfl) (hs174)) ?_)
        refine TO.passed rfl rfl ?_
        refine TO.passed rfl rfl ?_
        refine TO.passed rfl rfl ?_
        refine TO.passed rfl rfl ?_
        refine TO.guarded rfl rfl rfl (LT.of_quiet rfl rfl (q_pick1 rfl rfl) ?_)
        refine TO.quiet (q_pick1 rfl rfl) (TO.quiet (q_assign rfl) ?_)
        refine TO.nil (T.ret (Res.drop ?_))
        refine Res.one (.bool true) Tryd.results6 rfl ?_
        exact ⟨[], Sub.z, congrArg Value.bool (by first | rfl | (simp_all; done) | (have F4 := F4 (by simpa using hc); simp_all; done) | (cases accV a other <;> cases accV b other <;> simp_all; done)), rfl⟩
      refine TO.guarded rfl rfl rfl (LT.of_quiet rfl rfl (QT.toB (q_move rfl) (Bool.eq_false_iff.2 hs174)) ?_)
      refine TO.guarded rfl rfl rfl (LT.of_quiet rfl rfl (q_move rfl) ?_)
      refine TO.guarded rfl rfl rfl (LT.of_quiet rfl rfl (q_move rfl) ?_)
      have hk177 := fun (w1 : World) (hI : Inv w [rowI wb1 wc1 5 1 (byts u1), oI z2 25 (dC b jb), oI z1 25 (dC a ja)] w1) => cmpW w1 wb1 wb wc1 wc u1 other (hI.slOf (List.mem_of_getElem? (i := 0) rfl)) (hI.sl hW) hwb F5.2.2.1 (F5.2.2.2 (by simp_all) (by simp_all)).1 (F5.2.2.2 (by simp_all) (by simp_all)).2
      refine TO.guarded rfl rfl rfl (l_call ent29 (CallT.of_pure hk177) rfl ?_)
      clear hk177
      rintro vr O' ⟨N, rfl, cc9, rfl, hcc9, rfl⟩
      refine TO.guarded rfl rfl rfl (LT.of_quiet rfl rfl (QT.toB (q_leq rfl rfl) (decide_eq_true (by omega))) ?_)
      refine TO.guarded rfl rfl rfl (LT.of_quiet rfl rfl (q_pick0 rfl rfl) ?_)
      refine TO.quiet (q_pick1 rfl rfl) (TO.quiet (q_assign rfl) ?_)
      refine TO.nil (T.ret (Res.drop ?_))
      refine Res.one (.bool true) Tryd.results6 rfl ?_
      exact ⟨[], Sub.z, congrArg Value.bool (by first | rfl | (simp_all; done) | (have F4 := F4 (by simpa using hc); simp_all; done) | (cases accV a other <;> cases accV b other <;> simp_all; done)), rfl⟩
    refine TO.quiet (QT.toB (q_move rfl) (Bool.eq_false_iff.2 hs145)) ?_
    refine TO.passed rfl rfl ?_
    refine TO.passed rfl rfl ?_
    refine TO.passed rfl rfl ?_
    refine TO.passed rfl rfl ?_
    refine TO.quiet (q_pick0 rfl rfl) (TO.quiet (q_assign rfl) ?_)
    refine TO.nil (T.seq (T.seq (T.region ?_)))
    refine TO.quiet (q_move rfl) ?_
    refine TO.nil ?_
    refine T.cond rfl (fun hc => ?_) (fun hc => ?_)
    · refine T.seq ?_
      refine T.region ?_
      refine TO.quiet (q_move rfl) (TO.quiet (q_len Tryd.underlying35 rfl) (TO.quiet (QT.toB (q_eql rfl rfl) (decide_eq_true (by rw [(F4 (by simpa using hc)).1]; rfl))) (TO.quiet (q_move rfl) ?_)))
      refine TO.guarded rfl rfl rfl (LT.of_quiet rfl rfl (q_move rfl) ?_)
      refine TO.guarded rfl rfl rfl (LT.of_quiet rfl rfl (q_not rfl) ?_)
      refine TO.quiet (q_pick1 rfl rfl) (TO.quiet (q_assign rfl) ?_)
      refine TO.nil (T.ret (Res.drop ?_))
      refine Res.one (.bool true) Tryd.results6 rfl ?_
      exact ⟨[], Sub.z, congrArg Value.bool (by first | rfl | (simp_all; done) | (have F4 := F4 (by simpa using hc); simp_all; done) | (cases accV a other <;> cases accV b other <;> simp_all; done)), rfl⟩
    refine T.skip (T.seq (T.seq ?_))
    have F5 := fun hl => F5a (by simpa using hc) hl
    refine T.region ?_
    refine TO.quiet (q_move rfl) (TO.quiet (q_len Tryd.underlying35 rfl) (TO.quiet (q_gtr rfl rfl) ?_))
    refine TO.nil ?_
    refine T.condP rfl (fun hc => ?_) (fun hc => ?_)
    · have hlt161 : u1.length > 64 := by omega
      refine T.seq (T.region ?_)
      refine TO.quiet (q_assign rfl) ?_
      refine TO.nil (T.ret (Res.drop ?_))
      refine Res.one (.bool true) Tryd.results6 rfl ?_
      exact ⟨[], Sub.z, congrArg Value.bool (by first | rfl | (simp_all; done) | (have F4 := F4 (by simpa using hc); simp_all; done) | (cases accV a other <;> cases accV b other <;> simp_all; done)), rfl⟩
    have hge161 : ¬ u1.length > 64 := by omega
    refine T.skip (T.seq ?_)
    have F5 := F5 (by omega)
    refine T.region ?_
    refine TO.quiet (q_load_boxAgg 2 Tryd.underlying25 rfl inf25 rfl rfl rfl) (TO.quiet (q_move rfl) ?_)
    have hk164 := fun (w1 : World) (hI : Inv w [rowI wb1 wc1 5 1 (byts u1), oI z2 25 (dC b jb), oI z1 25 (dC a ja)] w1) => (show PureT _ _ _ _ _ from by
        have h9 := accF w1 a ja (hI.atB ha) ba.1 ba.2.1 ba.2.2 wb1 wc1 u1 (hI.slOf (List.mem_of_getElem? (i := 0) rfl)) (by omega) (fun x hx => by have := F5.2.2.1 x hx; omega)
        rw [F5.1] at h9
        exact h9)
    refine TO.loud rfl (l_call ent28 (CallT.of_pure hk164) rfl ?_)
    clear hk164
    rintro vr O' ⟨N, rfl, rfl, rfl⟩
    refine TO.quiet (q_move rfl) ?_
    refine TO.guarded rfl rfl rfl (LT.of_quiet rfl rfl (q_load_boxAgg 1 Tryd.underlying25 rfl inf25 rfl rfl rfl) ?_)
    refine TO.guarded rfl rfl rfl (LT.of_quiet rfl rfl (q_move rfl) ?_)
    have hk168 := fun (w1 : World) (hI : Inv w [rowI wb1 wc1 5 1 (byts u1), oI z2 25 (dC b jb), oI z1 25 (dC a ja)] w1) => (show PureT _ _ _ _ _ from by
        have h9 := accF w1 b jb (hI.atB hb) bb.1 bb.2.1 bb.2.2 wb1 wc1 u1 (hI.slOf (List.mem_of_getElem? (i := 0) rfl)) (by omega) (fun x hx => by have := F5.2.2.1 x hx; omega)
        rw [F5.2.1] at h9
        exact h9)
    refine TO.guarded rfl rfl rfl (l_call ent28 (CallT.of_pure hk168) rfl ?_)
    clear hk168
    rintro vr O' ⟨N, rfl, rfl, rfl⟩
    refine TO.guarded rfl rfl rfl (LT.of_quiet rfl rfl (q_not rfl) ?_)
    refine TO.quiet (q_pick1 rfl rfl) (TO.quiet (q_move rfl) ?_)
    refine TO.guarded rfl rfl rfl (LT.of_quiet rfl rfl (q_move rfl) ?_)
    refine TO.guarded rfl rfl rfl (LT.of_quiet rfl rfl (q_not rfl) ?_)
    refine TO.guarded rfl rfl rfl (LT.of_quiet rfl rfl (q_move rfl) ?_)
    refine TO.passed rfl rfl ?_
    refine TO.passed rfl rfl ?_
    refine TO.passed rfl rfl ?_
    refine TO.passed rfl rfl ?_
    refine TO.guarded rfl rfl rfl (LT.of_quiet rfl rfl (q_pick1 rfl rfl) ?_)
    refine TO.quiet (q_pick1 rfl rfl) (TO.quiet (q_assign rfl) ?_)
    refine TO.nil (T.ret (Res.drop ?_))
    refine Res.one (.bool true) Tryd.results6 rfl ?_
    exact ⟨[], Sub.z, congrArg Value.bool (by first | rfl | (simp_all; done) | (have F4 := F4 (by simpa using hc); simp_all; done) | (cases accV a other <;> cases accV b other <;> simp_all; done)), rfl⟩
  refine TO.guarded rfl rfl rfl (LT.of_quiet rfl rfl (QT.toB (q_move rfl) (Bool.eq_false_iff.2 hs137)) ?_)
  refine TO.passed rfl rfl ?_
  refine TO.guarded rfl rfl rfl (LT.of_quiet rfl rfl (q_pick0 rfl rfl) ?_)
  refine TO.guarded rfl rfl rfl (LT.of_quiet rfl rfl (QT.cast (q_bneq Tryd.underlying4 rfl rfl) (v' := .bool false) (by rw [F3]; first | (rw [hs137]; simp; done) | (rw [Bool.eq_false_iff.2 hs137]; simp; done))) ?_)
  refine TO.quiet (q_pick0 rfl rfl) ?_
  refine TO.sub (O' := [rowI wb1 wc1 5 1 (byts u1), oI z2 25 (dC b jb), oI z1 25 (dC a ja)]) (by exact Sub.d (.d (.d (.d (.d (.d (.k (.k (.k .z))))))))) ?_
  refine TO.nil ?_
  refine T.cond0 rfl ?_
  refine T.skip (T.seq (T.region ?_))
  refine TO.quiet (q_load_boxAgg 2 Tryd.underlying25 rfl inf25 rfl rfl rfl) (TO.quiet (q_move rfl) ?_)
  have hk144 := fun (w1 : World) (hI : Inv w [rowI wb1 wc1 5 1 (byts u1), oI z2 25 (dC b jb), oI z1 25 (dC a ja)] w1) => accF w1 a ja (hI.atB ha) ba.1 ba.2.1 ba.2.2 wb wc other (hI.sl hW) hwb hw8
  refine TO.loud rfl (l_call ent28 (CallT.of_pure hk144) rfl ?_)
  clear hk144
  rintro vr O' ⟨N, rfl, rfl, rfl⟩
  by_cases hs145 : (accV a other) = true
  · refine TO.quiet (QT.toB (q_move rfl) (hs145)) ?_
    refine TO.guarded rfl rfl rfl (LT.of_quiet rfl rfl (q_load_boxAgg 1 Tryd.underlying25 rfl inf25 rfl rfl rfl) ?_)
    refine TO.guarded rfl rfl rfl (LT.of_quiet rfl rfl (q_move rfl) ?_)
    have hk148 := fun (w1 : World) (hI : Inv w [rowI wb1 wc1 5 1 (byts u1), oI z2 25 (dC b jb), oI z1 25 (dC a ja)] w1) => accF w1 b jb (hI.atB hb) bb.1 bb.2.1 bb.2.2 wb wc other (hI.sl hW) hwb hw8
    refine TO.guarded rfl rfl rfl (l_call ent28 (CallT.of_pure hk148) rfl ?_)
    clear hk148
    rintro vr O' ⟨N, rfl, rfl, rfl⟩
    refine TO.guarded rfl rfl rfl (LT.of_quiet rfl rfl (q_not rfl) ?_)
    refine TO.quiet (q_pick1 rfl rfl) (TO.quiet (q_assign rfl) ?_)
    refine TO.nil (T.seq (T.seq (T.region ?_)))
    refine TO.quiet (q_move rfl) ?_
    refine TO.nil ?_
    refine T.cond rfl (fun hc => ?_) (fun hc => ?_)
    · refine T.seq ?_
      refine T.region ?_
      refine TO.quiet (q_move rfl) (TO.quiet (q_len Tryd.underlying35 rfl) (TO.quiet (QT.toB (q_eql rfl rfl) (decide_eq_true (by rw [(F4 (by simpa using hc)).1]; rfl))) (TO.quiet (q_move rfl) ?_)))
      refine TO.guarded rfl rfl rfl (LT.of_quiet rfl rfl (q_move rfl) ?_)
      refine TO.guarded rfl rfl rfl (LT.of_quiet rfl rfl (q_not rfl) ?_)
      refine TO.quiet (q_pick1 rfl rfl) (TO.quiet (q_assign rfl) ?_)
      refine TO.nil (T.ret (Res.drop ?_))
      refine Res.one (.bool (!(!(accV b other)))) Tryd.results6 rfl ?_
      exact ⟨[], Sub.z, congrArg Value.bool (by first | rfl | (simp_all; done) | (have F4 := F4 (by simpa using hc); simp_all; done) | (cases accV a other <;> cases accV b other <;> simp_all; done)), rfl⟩
    refine T.skip (T.seq (T.seq ?_))
    have F5 := fun hl => F5a (by simpa using hc) hl
    refine T.region ?_
    refine TO.quiet (q_move rfl) (TO.quiet (q_len Tryd.underlying35 rfl) (TO.quiet (q_gtr rfl rfl) ?_))
    refine TO.nil ?_
    refine T.condP rfl (fun hc => ?_) (fun hc => ?_)
    · have hlt161 : u1.length > 64 := by omega
      refine T.seq (T.region ?_)
      refine TO.quiet (q_assign rfl) ?_
      refine TO.nil (T.ret (Res.drop ?_))
      refine Res.one (.bool true) Tryd.results6 rfl ?_
      exact ⟨[], Sub.z, congrArg Value.bool (by first | rfl | (simp_all; done) | (have F4 := F4 (by simpa using hc); simp_all; done) | (cases accV a other <;> cases accV b other <;> simp_all; done)), rfl⟩
    have hge161 : ¬ u1.length > 64 := by omega
    refine T.skip (T.seq ?_)
    have F5 := F5 (by omega)
    refine T.region ?_
    refine TO.quiet (q_load_boxAgg 2 Tryd.underlying25 rfl inf25 rfl rfl rfl) (TO.quiet (q_move rfl) ?_)
    have hk164 := fun (w1 : World) (hI : Inv w [rowI wb1 wc1 5 1 (byts u1), oI z2 25 (dC b jb), oI z1 25 (dC a ja)] w1) => (show PureT _ _ _ _ _ from by
        have h9 := accF w1 a ja (hI.atB ha) ba.1 ba.2.1 ba.2.2 wb1 wc1 u1 (hI.slOf (List.mem_of_getElem? (i := 0) rfl)) (by omega) (fun x hx => by have := F5.2.2.1 x hx; omega)
        rw [F5.1] at h9
        exact h9)
    refine TO.loud rfl (l_call ent28 (CallT.of_pure hk164) rfl ?_)
    clear hk164
    rintro vr O' ⟨N, rfl, rfl, rfl⟩
    refine TO.quiet (q_move rfl) ?_
    refine TO.guarded rfl rfl rfl (LT.of_quiet rfl rfl (q_load_boxAgg 1 Tryd.underlying25 rfl inf25 rfl rfl rfl) ?_)
    refine TO.guarded rfl rfl rfl (LT.of_quiet rfl rfl (q_move rfl) ?_)
    have hk168 := fun (w1 : World) (hI : Inv w [rowI wb1 wc1 5 1 (byts u1), oI z2 25 (dC b jb), oI z1 25 (dC a ja)] w1) => (show PureT _ _ _ _ _ from by
        have h9 := accF w1 b jb (hI.atB hb) bb.1 bb.2.1 bb.2.2 wb1 wc1 u1 (hI.slOf (List.mem_of_getElem? (i := 0) rfl)) (by omega) (fun x hx => by have := F5.2.2.1 x hx; omega)
        rw [F5.2.1] at h9
        exact h9)
    refine TO.guarded rfl rfl rfl (l_call ent28 (CallT.of_pure hk168) rfl ?_)
    clear hk168
    rintro vr O' ⟨N, rfl, rfl, rfl⟩
    refine TO.guarded rfl rfl rfl (LT.of_quiet rfl rfl (q_not rfl) ?_)
    refine TO.quiet (q_pick1 rfl rfl) (TO.quiet (q_move rfl) ?_)
    refine TO.guarded rfl rfl rfl (LT.of_quiet rfl rfl (q_move rfl) ?_)
    refine TO.guarded rfl rfl rfl (LT.of_quiet rfl rfl (q_not rfl) ?_)
    by_cases hs174 : ((!(!(accV b other)))) = true
    · refine TO.guarded rfl rfl rfl (LT.of_quiet rfl rfl (QT.toB (q_move rfl) (hs174)) ?_)
      refine TO.passed rfl rfl ?_
      refine TO.passed rfl rfl ?_
      refine TO.passed rfl rfl ?_
      refine TO.passed rfl rfl ?_
      refine TO.guarded rfl rfl rfl (LT.of_quiet rfl rfl (q_pick1 rfl rfl) ?_)
      refine TO.quiet (q_pick1 rfl rfl) (TO.quiet (q_assign rfl) ?_)
      refine TO.nil (T.ret (Res.drop ?_))
      refine Res.one (.bool true) Tryd.results6 rfl ?_
      exact ⟨[], Sub.z, congrArg Value.bool (by first | rfl | (simp_all; done) | (have F4 := F4 (by simpa using hc); simp_all; done) | (cases accV a other <;> cases accV b other <;> simp_all; done)), rfl⟩
    refine TO.guarded rfl rfl rfl (LT.of_quiet rfl rfl (QT.toB (q_move rfl) (Bool.eq_false_iff.2 hs174)) ?_)
    refine TO.guarded rfl rfl rfl (LT.of_quiet rfl rfl (q_move rfl) ?_)
    refine TO.guarded rfl rfl rfl (LT.of_quiet rfl rfl (q_move rfl) ?_)
    have hk177 := fun (w1 : World) (hI : Inv w [rowI wb1 wc1 5 1 (byts u1), oI z2 25 (dC b jb), oI z1 25 (dC a ja)] w1) => cmpW w1 wb1 wb wc1 wc u1 other (hI.slOf (List.mem_of_getElem? (i := 0) rfl)) (hI.sl hW) hwb F5.2.2.1 (F5.2.2.2 (by simp_all) (by simp_all)).1 (F5.2.2.2 (by simp_all) (by simp_all)).2
    refine TO.guarded rfl rfl rfl (l_call ent29 (CallT.of_pure hk177) rfl ?_)
    clear hk177
    rintro vr O' ⟨N, rfl, cc9, rfl, hcc9, rfl⟩
    refine TO.guarded rfl rfl rfl (LT.of_quiet rfl rfl (QT.toB (q_leq rfl rfl) (decide_eq_true (by omega))) ?_)
    refine TO.guarded rfl rfl rfl (LT.of_quiet rfl rfl (q_pick0 rfl rfl) ?_)
    refine TO.quiet (q_pick1 rfl rfl) (TO.quiet (q_assign rfl) ?_)
    refine TO.nil (T.ret (Res.drop ?_))
    refine Res.one (.bool true) Tryd.results6 rfl ?_
    exact ⟨[], Sub.z, congrArg Value.bool (by first | rfl | (simp_all; done) | (have F4 := F4 (by simpa using hc); simp_all; done) | (cases accV a other <;> cases accV b other <;> simp_all; done)), rfl⟩
  refine TO.quiet (QT.toB (q_move rfl) (Bool.eq_false_iff.2 hs145)) ?_
  refine TO.passed rfl rfl ?_
  refine TO.passed rfl rfl ?_
  refine TO.passed rfl rfl ?_
  refine TO.passed rfl rfl ?_
  refine TO.quiet (q_pick0 rfl rfl) (TO.quiet (q_assign rfl) ?_)
  refine TO.nil (T.seq (T.seq (T.region ?_)))
  refine TO.quiet (q_move rfl) ?_
  refine TO.nil ?_
  refine T.cond rfl (fun hc => ?_) (fun hc => ?_)
  · refine T.seq ?_
    refine T.region ?_
    refine TO.quiet (q_move rfl) (TO.quiet (q_len Tryd.underlying35 rfl) (TO.quiet (QT.toB (q_eql rfl rfl) (decide_eq_true (by rw [(F4 (by simpa using hc)).1]; rfl))) (TO.quiet (q_move rfl) ?_)))
    refine TO.guarded rfl rfl rfl (LT.of_quiet rfl rfl (q_move rfl) ?_)
    refine TO.guarded rfl rfl rfl (LT.of_quiet rfl rfl (q_not rfl) ?_)
    refine TO.quiet (q_pick1 rfl rfl) (TO.quiet (q_assign rfl) ?_)
    refine TO.nil (T.ret (Res.drop ?_))
    refine Res.one (.bool true) Tryd.results6 rfl ?_
    exact ⟨[], Sub.z, congrArg Value.bool (by first | rfl | (simp_all; done) | (have F4 := F4 (by simpa using hc); simp_all; done) | (cases accV a other <;> cases accV b other <;> simp_all; done)), rfl⟩
  refine T.skip (T.seq (T.seq ?_))
  have F5 := fun hl => F5a (by simpa using hc) hl
  refine T.region ?_
  refine TO.quiet (q_move rfl) (TO.quiet (q_len Tryd.underlying35 rfl) (TO.quiet (q_gtr rfl rfl) ?_))
  refine TO.nil ?_
  refine T.condP rfl (fun hc => ?_) (fun hc => ?_)
  · have hlt161 : u1.length > 64 := by omega
    refine T.seq (T.region ?_)
    refine TO.quiet (q_assign rfl) ?_
    refine TO.nil (T.ret (Res.drop ?_))
    refine Res.one (.bool true) Tryd.results6 rfl ?_
    exact ⟨[], Sub.z, congrArg Value.bool (by first | rfl | (simp_all; done) | (have F4 := F4 (by simpa using hc); simp_all; done) | (cases accV a other <;> cases accV b other <;> simp_all; done)), rfl⟩
  have hge161 : ¬ u1.length > 64 := by omega
  refine T.skip (T.seq ?_)
  have F5 := F5 (by omega)
  refine T.region ?_
  refine TO.quiet (q_load_boxAgg 2 Tryd.underlying25 rfl inf25 rfl rfl rfl) (TO.quiet (q_move rfl) ?_)
  have hk164 := fun (w1 : World) (hI : Inv w [rowI wb1 wc1 5 1 (byts u1), oI z2 25 (dC b jb), oI z1 25 (dC a ja)] w1) => (show PureT _ _ _ _ _ from by
      have h9 := accF w1 a ja (hI.atB ha) ba.1 ba.2.1 ba.2.2 wb1 wc1 u1 (hI.slOf (List.mem_of_getElem? (i := 0) rfl)) (by omega) (fun x hx => by have := F5.2.2.1 x hx; omega)
      rw [F5.1] at h9
      exact h9)
  refine TO.loud rfl (l_call ent28 (CallT.of_pure hk164) rfl ?_)
  clear hk164
  rintro vr O' ⟨N, rfl, rfl, rfl⟩
  refine TO.quiet (q_move rfl) ?_
  refine TO.guarded rfl rfl rfl (LT.of_quiet rfl rfl (q_load_boxAgg 1 Tryd.underlying25 rfl inf25 rfl rfl rfl) ?_)
  refine TO.guarded rfl rfl rfl (LT.of_quiet rfl rfl (q_move rfl) ?_)
  have hk168 := fun (w1 : World) (hI : Inv w [rowI wb1 wc1 5 1 (byts u1), oI z2 25 (dC b jb), oI z1 25 (dC a ja)] w1) => (show PureT _ _ _ _ _ from by
      have h9 := accF w1 b jb (hI.atB hb) bb.1 bb.2.1 bb.2.2 wb1 wc1 u1 (hI.slOf (List.mem_of_getElem? (i := 0) rfl)) (by omega) (fun x hx => by have := F5.2.2.1 x hx; omega)
      rw [F5.2.1] at h9
      exact h9)
  refine TO.guarded rfl rfl rfl (l_call ent28 (CallT.of_pure hk168) rfl ?_)
  clear hk168
  rintro vr O' ⟨N, rfl, rfl, rfl⟩
  refine TO.guarded rfl rfl rfl (LT.of_quiet rfl rfl (q_not rfl) ?_)
  refine TO.quiet (q_pick1 rfl rfl) (TO.quiet (q_move rfl) ?_)
  refine TO.guarded rfl rfl rfl (LT.of_quiet rfl rfl (q_move rfl) ?_)
  refine TO.guarded rfl rfl rfl (LT.of_quiet rfl rfl (q_not rfl) ?_)
  refine TO.guarded rfl rfl rfl (LT.of_quiet rfl rfl (q_move rfl) ?_)
  refine TO.passed rfl rfl ?_
  refine TO.passed rfl rfl ?_
  refine TO.passed rfl rfl ?_
  refine TO.passed rfl rfl ?_
  refine TO.guarded rfl rfl rfl (LT.of_quiet rfl rfl (q_pick1 rfl rfl) ?_)
  refine TO.quiet (q_pick1 rfl rfl) (TO.quiet (q_assign rfl) ?_)
  refine TO.nil (T.ret (Res.drop ?_))
  refine Res.one (.bool true) Tryd.results6 rfl ?_
  exact ⟨[], Sub.z, congrArg Value.bool (by first | rfl | (simp_all; done) | (have F4 := F4 (by simpa using hc); simp_all; done) | (cases accV a other <;> cases accV b other <;> simp_all; done)), rfl⟩
theorem inclLaw (w : World) (a : DFA) (nba fba : Option Addr) (nca fca : Nat) (vsa : List Value) (ha : DfaAt w a nba vsa fba) (ha1 : a.next.length < 9223372036854775807) (ha2 : ∀ r ∈ a.next, r.length < 9223372036854775807) (ha3 : a.final.length < 9223372036854775807) (b : DFA) (nbb fbb : Option Addr) (ncb fcb : Nat) (vsb : List Value) (hb : DfaAt w b nbb vsb fbb) (hb1 : b.next.length < 9223372036854775807) (hb2 : ∀ r ∈ b.next, r.length < 9223372036854775807) (hb3 : b.final.length < 9223372036854775807) (wb : Option Addr) (wc : Nat) (other : List Nat) (hW : Sl w wb (byts other)) (hwb : other.length < 9223372036854775807) (hw8 : ∀ x ∈ other, x < 256) :
    PureT Tryd.prog 6 [.agg (dfaCells a nba nca fba fca).toArray, .agg (dfaCells b nbb ncb fbb fcb).toArray, .slice wb other.length wc] w fun v N => v = .bool true ∧ N = [] := by
  obtain ⟨ja, ga, ea⟩ := ha.dk nca fca
  obtain ⟨jb, gb, eb⟩ := hb.dk ncb fcb
  rw [ea, eb]
  exact inclW w a ja ga ha1 ha2 ha3 b jb gb hb1 hb2 hb3 wb wc other hW hwb hw8
end Go.Proofs.YtdaapdamcekkgaaDoor

