/- Contracts of functions of the program (C4, Cax, C5, Cfx, CoreY, Close, End, CloseC, EndC): what each call answers and that it leaves memory as it was. Conditions: those each theorem names. -/
import Derived.Test.YtnpehjpookcfkaaDoorCoreM
import Derived.Test.YtnpehjpookcfkaaDoorRen
import Derived.Test.YtnpehjpookcfkaaDoorCaw
import Derived.Test.YtnpehjpookcfkaaDoorCt
import Derived.OpenShut
import Derived.Deep.DeepHandedRow
import Derived.Deep.Matrix
import Derived.Deep.Grids
import Derived.WideKeyArgs
import Derived.SizedLaws
import Derived.Test.YtnpehjpookcfkaaDoorCards
import Derived.Test.YtnpehjpookcfkaaDoorTie
import Derived.WalkKit
import Derived.ProofKit
import Derived.Lib.LaidTab
set_option linter.unusedSectionVars false
set_option linter.unusedSimpArgs false
set_option linter.unusedVariables false
set_option linter.unnecessarySimpa false
namespace Go.Proofs.YtnpehjpookcfkaaDoor
open Go.Lx Go.RowKit
set_option linter.unusedVariables false
set_option linter.unusedSimpArgs false
theorem subE (w : World) [Tab Tryd.prog w] (d : DFA) (j : DK) (hd : At w d j) (bd : d.next.length < 9223372036854775807 ∧ (∀ r ∈ d.next, r.length < 9223372036854775807) ∧ d.final.length < 9223372036854775807) (n : Nat) (h1 : 1 ≤ n) (h4 : n ≤ 4) {M : DFA} (hM : subD d n = M) :
    PureT Tryd.prog 9 [dV d j, .int .i64 ((n : Nat) : Int)] w fun v N => ∃ k' : DK, v = dV M k' ∧ N = [dI 54 4 3 M k'] := by
  subst hM
  exact subK w d j hd bd n h1 h4
set_option maxHeartbeats 1000000 in
set_option maxRecDepth 20000 in
theorem tameC (w : World) [Tab Tryd.prog w] (a g : DFA) (j k : DK) (ha : At w a j) (hg : At w g k) (ba : a.next.length < 9223372036854775807 ∧ (∀ r ∈ a.next, r.length < 9223372036854775807) ∧ a.final.length < 9223372036854775807) (bg : g.next.length < 9223372036854775807 ∧ (∀ r ∈ g.next, r.length < 9223372036854775807) ∧ g.final.length < 9223372036854775807) {X Y : DFA} (hX : subD a 3 = X) (hY : subD g 3 = Y) :
    PureT Tryd.prog 10 [cV a g j k] w fun v N => ∃ k1 k2 : DK, v = cV X Y k1 k2 ∧ N = [dI 54 4 3 X k1, dI 54 4 3 Y k2] := by
  refine CallT.enter Tryd.func10 rfl Tryd.ntmps10 rfl ?_
  refine T.seq (T.region ?_)
  refine TO.loud rfl (l_box (v := (cV a g j k)) (cs := (cC a g j k)) rfl rfl (fun z1 => ?_))
  refine TO.loud rfl (l_alloc inf27 rfl (fun z2 => ?_))
  refine TO.nil (T.seq ?_)
  refine T.draws [oI z2 27 [(.int .i64 0), (.int .i64 0), (.slice none 0 0), (.slice none 0 0), (.int .i64 0), (.int .i64 0), (.slice none 0 0), (.slice none 0 0)], oI z1 27 (cC a g j k)] [(0, 0), (1, 0), (3, 0), (4, 0), (2, 1), (5, 2), (6, 2), (7, 2)] mixed (by kernel_rfl) (Sub.pick [0, 0] rfl) (fun _ _ _ h => h) ?_
  refine DO.quiet rfl (q_fieldAddr Tryd.underlying27 rfl inf25 rfl rfl) (DO.quiet rfl (q_load_part 1 (vs := (dC a j)) Tryd.underlying25 rfl inf25 rfl rfl rfl rfl) (DO.quiet rfl (q_fieldAddr Tryd.underlying27 rfl inf25 rfl rfl) (DO.quiet rfl (q_load_part 1 (vs := (dC g k)) Tryd.underlying25 rfl inf25 rfl rfl rfl rfl) ?_)))
  have hk5 := fun (w1 : World) (hI : Inv w [oI z2 27 [(.int .i64 0), (.int .i64 0), (.slice none 0 0), (.slice none 0 0), (.int .i64 0), (.int .i64 0), (.slice none 0 0), (.slice none 0 0)], oI z1 27 (cC a g j k)] w1) => (haveI := Inv.tab (P := Tryd.prog) hI; subE w1 a j (hI.atB ha) ba 3 (by decide) (by decide) hX)
  refine DO.loud rfl rfl (l_call ent9 (CallT.of_pure hk5) rfl ?_)
  clear hk5
  rintro vr O' ⟨N, rfl, k1, rfl, rfl⟩
  refine ⟨Sub.pick [1, 1] rfl, ?_⟩
  have hk8 := fun (w1 : World) (hI : Inv w [dI 54 4 3 X k1, oI z2 27 [(.int .i64 0), (.int .i64 0), (.slice none 0 0), (.slice none 0 0), (.int .i64 0), (.int .i64 0), (.slice none 0 0), (.slice none 0 0)], oI z1 27 (cC a g j k)] w1) => (haveI := Inv.tab (P := Tryd.prog) hI; subE w1 g k (hI.atB hg) bg 3 (by decide) (by decide) hY)
  refine DO.last rfl rfl (l_call ent9 (CallT.of_pure hk8) rfl ?_)
  clear hk8
  rintro vr O' ⟨N, rfl, k2, rfl, rfl⟩
  refine DO.last rfl rfl (LT.of_quiet rfl rfl (q_build (cs := (cC X Y k1 k2)) plan27 inf27 (by kernel_rfl)) ?_)
  refine DO.last rfl rfl (l_store_box (v := (cV X Y k1 k2)) (vs := (cC X Y k1 k2)) 2 inf27 rfl rfl rfl rfl rfl rfl (by simp [putL]) ?_)
  refine DO.done ?_
  refine T.ret (Res.drop ?_)
  refine Res.cell1 (i := 2) Tryd.results10 Tryd.underlying27 rfl inf27 rfl rfl rfl ?_
  exact ⟨[dI 54 4 3 X k1, dI 54 4 3 Y k2], (Sub.pick [1, 0] rfl), k1, k2, rfl, rfl⟩
set_option maxHeartbeats 1000000 in
set_option maxRecDepth 20000 in
theorem accF (w : World) [Tab Tryd.prog w] (a : DFA) (j : DK) (ha : At w a j) (ba : a.next.length < 9223372036854775807 ∧ (∀ r ∈ a.next, r.length < 9223372036854775807) ∧ a.final.length < 9223372036854775807) (wb : Option Addr) (wc : Nat) (l : List Nat) (hW : Sl w wb (byts l)) (hwb : l.length < 9223372036854775807) (hw8 : ∀ x ∈ l, x < 256) {b : Bool} (hb : accV a l = b) :
    PureT Tryd.prog 14 [dV a j, .slice wb l.length wc] w fun v N => v = .bool b ∧ N = [] := by
  refine CallT.enter Tryd.func14 rfl Tryd.ntmps14 rfl ?_
  subst hb
  refine T.seq (T.region ?_)
  refine TO.loud rfl (l_box (v := (dV a j)) (cs := (dC a j)) rfl rfl (fun b1 => ?_))
  refine TO.quiet (q_assign rfl) ?_
  refine TO.nil (T.seq (T.region ?_))
  refine TO.quiet (q_load_boxAgg 0 Tryd.underlying25 rfl inf25 rfl rfl rfl) (TO.quiet (q_move rfl) ?_)
  have hk10 := fun (w1 : World) (hI : Inv w [oI b1 25 (dC a j)] w1) => (haveI := Inv.tab (P := Tryd.prog) hI; acceptsA w1 a j.nb j.fb j.nc j.fc (vals j.qs) (hI.dfa ha) ba.1 ba.2.1 ba.2.2 wb wc l (hI.sl hW) hwb hw8)
  refine TO.loud rfl (l_call ent33 (CallT.of_pure hk10) rfl ?_)
  clear hk10
  rintro v O' ⟨N, rfl, rfl, rfl⟩
  refine TO.quiet (q_move rfl) (TO.quiet (q_extract (vs := _) rfl rfl) (TO.quiet (q_extract (vs := _) rfl rfl) (TO.quiet (q_assign rfl) ?_)))
  refine TO.quiet (q_assign rfl) ?_
  refine TO.nil (T.seq (T.region ?_))
  refine TO.quiet (q_move rfl) ?_
  by_cases hs14 : (accV a l) = true
  · refine TO.quiet (QT.toB (q_move rfl) (hs14)) ?_
    refine TO.guarded rfl rfl rfl (LT.of_quiet rfl rfl (q_move rfl) ?_)
    refine TO.guarded rfl rfl rfl (LT.of_quiet rfl rfl (q_eql rfl rfl) ?_)
    refine TO.quiet (q_pick1 rfl rfl) (TO.quiet (q_assign rfl) ?_)
    refine TO.nil (T.ret (Res.drop ?_))
    refine Res.one (.bool (decide ((runE a l : Int) = 0))) Tryd.results14 rfl ?_
    exact ⟨[], Sub.z, congrArg Value.bool (by
      by_cases he : runE a l = 0
      · simp_all
      · have h9 : accV a l = false := by unfold accV; rw [if_neg he]
        simp_all), rfl⟩
  refine TO.quiet (QT.toB (q_move rfl) (Bool.eq_false_iff.2 hs14)) ?_
  refine TO.passed rfl rfl ?_
  refine TO.passed rfl rfl ?_
  refine TO.quiet (q_pick0 rfl rfl) (TO.quiet (q_assign rfl) ?_)
  refine TO.nil (T.ret (Res.drop ?_))
  refine Res.one (.bool false) Tryd.results14 rfl ?_
  exact ⟨[], Sub.z, congrArg Value.bool (by
    by_cases he : runE a l = 0
    · simp_all
    · have h9 : accV a l = false := by unfold accV; rw [if_neg he]
      simp_all), rfl⟩
set_option maxHeartbeats 1000000 in
set_option maxRecDepth 20000 in
theorem isC (w : World) [Tab Tryd.prog w] (b1 b2 : Option Addr) (c1 c2 : Nat) (l : List Nat) (h1 : Sl w b1 (byts l)) (h2 : Sl w b2 (byts l)) (hl : l.length < 9223372036854775807) (b : Bool) :
    PureT Tryd.prog 38 [.slice b1 l.length c1, .bool b, .int .i64 0, .bool b, .slice b2 l.length c2] w fun v N => v = .bool true ∧ N = [] := by
  refine CallT.enter Tryd.func38 rfl Tryd.ntmps38 rfl ?_
  refine T.seq (T.region ?_)
  refine TO.quiet (q_assign rfl) ?_
  refine TO.nil (T.seq (T.region ?_))
  refine TO.quiet (q_move rfl) (TO.quiet (q_move rfl) ?_)
  have hk13 := fun (w1 : World) (hI : Inv w [] w1) => (haveI := Inv.tab (P := Tryd.prog) hI; (show PureT _ _ _ _ _ from by
      have h9 := equalBytes w1 b1 b2 c1 c2 l l (hI.sl h1) (hI.sl h2) hl
      rw [decide_eq_true rfl] at h9
      exact h9))
  refine TO.loud rfl (l_call ent58 (CallT.of_pure hk13) rfl ?_)
  clear hk13
  rintro v O' ⟨N, rfl, rfl, rfl⟩
  refine TO.quiet (q_move rfl) ?_
  refine TO.guarded rfl rfl rfl (LT.of_quiet rfl rfl (q_move rfl) ?_)
  refine TO.guarded rfl rfl rfl (LT.of_quiet rfl rfl (q_move rfl) ?_)
  refine TO.guarded rfl rfl rfl (LT.of_quiet rfl rfl (QT.toB (q_beql Tryd.underlying4 rfl rfl) (decide_eq_true rfl)) ?_)
  refine TO.quiet (q_pick1 rfl rfl) (TO.quiet (q_move rfl) ?_)
  refine TO.guarded rfl rfl rfl (LT.of_quiet rfl rfl (q_move rfl) ?_)
  refine TO.guarded rfl rfl rfl (LT.of_quiet rfl rfl (QT.toB (q_eql rfl rfl) (decide_eq_true rfl)) ?_)
  refine TO.quiet (q_pick1 rfl rfl) (TO.quiet (q_assign rfl) ?_)
  refine TO.nil (T.ret (Res.drop ?_))
  refine Res.one (.bool true) Tryd.results38 rfl ?_
  exact ⟨[], Sub.z, rfl, rfl⟩
theorem implR (w : World) [Tab Tryd.prog w] {z x a g : DFA} {px p q : List Nat → Bool} (hz : Valid z) (hx : InL z x px) (ha : InL z a p) (hg : InL z g q) (i j k : DK) (hi : At w x i) (hj : At w a j) (hk : At w g k) {b : Bool} (hB : impB z.vars px p q = b) :
    PureT Tryd.prog 12 [dV x i, cV a g j k] w fun v N => ∃ res wb wc, LeastA (opD minusB (opD andB x a) g) res ∧ (!res.isSome) = b ∧ v = .tuple #[.slice wb (res.getD []).length wc, .bool b, .int .i64 0] ∧ N = [rowI wb wc 5 1 (byts (res.getD []))] := by
  refine (implC w hz hx ha hg i j k hi hj hk).mono ?_
  rintro v N ⟨res, wb, wc, hL, rfl, rfl⟩
  have e := (impB_res hz hx ha hg hL).trans hB
  exact ⟨res, wb, wc, hL, e, by rw [e], rfl⟩
theorem refR (w : World) [Tab Tryd.prog w] {z a b0 c d : DFA} {p q p2 q2 : List Nat → Bool} (hz : Valid z) (ha : InL z a p) (hb : InL z b0 q) (hc : InL z c p2) (hd : InL z d q2) (j1 j2 j3 j4 : DK) (hj1 : At w a j1) (hj2 : At w b0 j2) (hj3 : At w c j3) (hj4 : At w d j4) {b : Bool} (hB : refB z.vars p q p2 q2 = b) :
    PureT Tryd.prog 13 [cV a b0 j1 j2, cV c d j3 j4] w fun v N => ∃ res wb wc, LeastA (opD orB (opD minusB c a) (opD minusB (satD a b0) (satD c d))) res ∧ (!res.isSome) = b ∧ v = .tuple #[.slice wb (res.getD []).length wc, .bool b, .int .i64 0] ∧ N = [rowI wb wc 5 1 (byts (res.getD []))] := by
  refine (refC w hz ha hb hc hd j1 j2 j3 j4 hj1 hj2 hj3 hj4).mono ?_
  rintro v N ⟨res, wb, wc, hL, rfl, rfl⟩
  have e := (refB_res hz ha hb hc hd hL).trans hB
  exact ⟨res, wb, wc, hL, e, by rw [e], rfl⟩
set_option maxHeartbeats 1000000 in
set_option maxRecDepth 20000 in
theorem implZ (w : World) [Tab Tryd.prog w] {z x a g : DFA} {px p q : List Nat → Bool} (hz : Valid z) (hx : InL z x px) (ha : InL z a p) (hg : InL z g q) (i j k : DK) (hi : At w x i) (hj : At w a j) (hk : At w g k) {b : Bool} (hB : impB z.vars px p q = b) :
    PureT Tryd.prog 22 [dV x i, cV a g j k] w fun v N => v = .bool b ∧ N = [] := by
  refine CallT.enter Tryd.func22 rfl Tryd.ntmps22 rfl ?_
  refine T.seq (T.region ?_)
  refine TO.loud rfl (l_box (v := (dV x i)) (cs := (dC x i)) rfl rfl (fun z1 => ?_))
  refine TO.loud rfl (l_box (v := (cV a g j k)) (cs := (cC a g j k)) rfl rfl (fun z2 => ?_))
  refine TO.quiet (q_assign rfl) ?_
  refine TO.nil (T.seq (T.region ?_))
  refine TO.quiet (q_load_boxAgg 1 Tryd.underlying25 rfl inf25 rfl rfl rfl) (TO.quiet (q_load_boxAgg 0 Tryd.underlying27 rfl inf27 rfl rfl rfl) ?_)
  have hk11 := fun (w1 : World) (hI : Inv w [oI z2 27 (cC a g j k), oI z1 25 (dC x i)] w1) => (haveI := Inv.tab (P := Tryd.prog) hI; implR w1 hz hx ha hg i j k (hI.atB hi) (hI.atB hj) (hI.atB hk) hB)
  refine TO.loud rfl (l_call ent12 (CallT.of_pure hk11) rfl ?_)
  clear hk11
  rintro v O' ⟨N, rfl, res, rb, rc, hL, he, rfl, rfl⟩
  refine TO.quiet (q_move rfl) (TO.quiet (q_extract (vs := _) rfl rfl) (TO.quiet (q_extract (vs := _) rfl rfl) (TO.quiet (q_extract (vs := _) rfl rfl) ?_)))
  refine TO.quiet (q_assign rfl) (TO.quiet (q_assign rfl) (TO.quiet (q_assign rfl) ?_))
  refine TO.nil (T.seq (T.region ?_))
  refine TO.quiet (q_move rfl) ?_
  by_cases hs16 : b = true
  · refine TO.quiet (QT.toB (q_move rfl) (hs16)) ?_
    refine TO.guarded rfl rfl rfl (LT.of_quiet rfl rfl (q_move rfl) ?_)
    refine TO.guarded rfl rfl rfl (LT.of_quiet rfl rfl (QT.toB (q_eql rfl rfl) (decide_eq_true rfl)) ?_)
    refine TO.quiet (q_pick1 rfl rfl) (TO.quiet (q_assign rfl) ?_)
    refine TO.nil (T.ret (Res.drop ?_))
    refine Res.one (.bool true) Tryd.results22 rfl ?_
    exact ⟨[], Sub.z, congrArg Value.bool (by simp_all), rfl⟩
  refine TO.quiet (QT.toB (q_move rfl) (Bool.eq_false_iff.2 hs16)) ?_
  refine TO.passed rfl rfl ?_
  refine TO.passed rfl rfl ?_
  refine TO.quiet (q_pick0 rfl rfl) (TO.quiet (q_assign rfl) ?_)
  refine TO.nil (T.ret (Res.drop ?_))
  refine Res.one (.bool false) Tryd.results22 rfl ?_
  exact ⟨[], Sub.z, congrArg Value.bool (by simp_all), rfl⟩
set_option maxHeartbeats 1000000 in
set_option maxRecDepth 20000 in
theorem refZ (w : World) [Tab Tryd.prog w] {z a b0 c d : DFA} {p q p2 q2 : List Nat → Bool} (hz : Valid z) (ha : InL z a p) (hb : InL z b0 q) (hc : InL z c p2) (hd : InL z d q2) (j1 j2 j3 j4 : DK) (hj1 : At w a j1) (hj2 : At w b0 j2) (hj3 : At w c j3) (hj4 : At w d j4) {b : Bool} (hB : refB z.vars p q p2 q2 = b) :
    PureT Tryd.prog 19 [cV a b0 j1 j2, cV c d j3 j4] w fun v N => v = .bool b ∧ N = [] := by
  refine CallT.enter Tryd.func19 rfl Tryd.ntmps19 rfl ?_
  refine T.seq (T.region ?_)
  refine TO.loud rfl (l_box (v := (cV a b0 j1 j2)) (cs := (cC a b0 j1 j2)) rfl rfl (fun z1 => ?_))
  refine TO.loud rfl (l_box (v := (cV c d j3 j4)) (cs := (cC c d j3 j4)) rfl rfl (fun z2 => ?_))
  refine TO.quiet (q_assign rfl) ?_
  refine TO.nil (T.seq (T.region ?_))
  refine TO.quiet (q_load_boxAgg 1 Tryd.underlying27 rfl inf27 rfl rfl rfl) (TO.quiet (q_load_boxAgg 0 Tryd.underlying27 rfl inf27 rfl rfl rfl) ?_)
  have hk11 := fun (w1 : World) (hI : Inv w [oI z2 27 (cC c d j3 j4), oI z1 27 (cC a b0 j1 j2)] w1) => (haveI := Inv.tab (P := Tryd.prog) hI; refR w1 hz ha hb hc hd j1 j2 j3 j4 (hI.atB hj1) (hI.atB hj2) (hI.atB hj3) (hI.atB hj4) hB)
  refine TO.loud rfl (l_call ent13 (CallT.of_pure hk11) rfl ?_)
  clear hk11
  rintro v O' ⟨N, rfl, res, rb, rc, hL, he, rfl, rfl⟩
  refine TO.quiet (q_move rfl) (TO.quiet (q_extract (vs := _) rfl rfl) (TO.quiet (q_extract (vs := _) rfl rfl) (TO.quiet (q_extract (vs := _) rfl rfl) ?_)))
  refine TO.quiet (q_assign rfl) (TO.quiet (q_assign rfl) (TO.quiet (q_assign rfl) ?_))
  refine TO.nil (T.seq (T.region ?_))
  refine TO.quiet (q_move rfl) ?_
  by_cases hs16 : b = true
  · refine TO.quiet (QT.toB (q_move rfl) (hs16)) ?_
    refine TO.guarded rfl rfl rfl (LT.of_quiet rfl rfl (q_move rfl) ?_)
    refine TO.guarded rfl rfl rfl (LT.of_quiet rfl rfl (QT.toB (q_eql rfl rfl) (decide_eq_true rfl)) ?_)
    refine TO.quiet (q_pick1 rfl rfl) (TO.quiet (q_assign rfl) ?_)
    refine TO.nil (T.ret (Res.drop ?_))
    refine Res.one (.bool true) Tryd.results19 rfl ?_
    exact ⟨[], Sub.z, congrArg Value.bool (by simp_all), rfl⟩
  refine TO.quiet (QT.toB (q_move rfl) (Bool.eq_false_iff.2 hs16)) ?_
  refine TO.passed rfl rfl ?_
  refine TO.passed rfl rfl ?_
  refine TO.quiet (q_pick0 rfl rfl) (TO.quiet (q_assign rfl) ?_)
  refine TO.nil (T.ret (Res.drop ?_))
  refine Res.one (.bool false) Tryd.results19 rfl ?_
  exact ⟨[], Sub.z, congrArg Value.bool (by simp_all), rfl⟩
theorem equalK (w : World) [Tab Tryd.prog w] (d : DFA) (j k : DK) (h1 : At w d j) (h2 : At w d k) (bd : d.next.length < 9223372036854775807 ∧ (∀ r ∈ d.next, r.length < 9223372036854775807) ∧ d.final.length < 9223372036854775807) :
    PureT Tryd.prog 37 [dV d j, dV d k] w fun v N => v = .bool true ∧ N = [] :=
  (CallT.none (equalDFA w d d j.nb k.nb j.fb k.fb j.nc k.nc j.fc k.fc (vals j.qs) (vals k.qs) h1 h2 bd.1 bd.2.1 bd.2.2)).mono fun v N ⟨h1, O2, h2, _⟩ => ⟨h2.trans (congrArg Value.bool (decide_eq_true rfl)), h1⟩
set_option maxHeartbeats 1000000 in
set_option maxRecDepth 20000 in
theorem onesK (w : World) [Tab Tryd.prog w] : PureT Tryd.prog 34 [] w fun v N => ∃ k' : DK, v = dV conO k' ∧ N = [dI 54 4 3 conO k'] := by
  refine CallT.enter Tryd.func34 rfl Tryd.ntmps34 rfl ?_
  refine T.seq (T.region ?_)
  refine TO.loud rfl (l_alloc inf25 rfl (fun z1 => ?_))
  refine TO.nil (T.seq (T.region ?_))
  refine TO.loud rfl (l_buildSlice (m := 2) (parts := [(0, .const (.int .i64 1)), (1, .const (.int .i64 0))]) (cs := [.int .i64 1, .int .i64 0]) Tryd.underlying54 inf3 (by decide) (by kernel_rfl) rfl (fun z2 => ?_))
  refine TO.loud rfl (l_buildSlice (m := 2) (parts := [(0, .const (.int .i64 1)), (1, .const (.int .i64 1))]) (cs := [.int .i64 1, .int .i64 1]) Tryd.underlying54 inf3 (by decide) (by kernel_rfl) rfl (fun z3 => ?_))
  refine TO.loud rfl (l_buildSlice (m := 2) (parts := [(0, .tmp 1), (1, .tmp 2)]) (cs := [(.slice (some ⟨z2, 0, none⟩) 2 2), (.slice (some ⟨z3, 0, none⟩) 2 2)]) Tryd.underlying22 inf54 (by decide) (by kernel_rfl) rfl (fun z4 => ?_))
  refine TO.loud rfl (l_buildSlice (m := 2) (parts := [(0, .const (.bool true)), (1, .const (.bool false))]) (cs := [.bool true, .bool false]) Tryd.underlying23 inf4 (by decide) (by kernel_rfl) rfl (fun z5 => ?_))
  refine TO.quiet (q_build (cs := [.int .i64 1, (.int .i64 0), (.slice (some ⟨z4, 0, none⟩) 2 2), (.slice (some ⟨z5, 0, none⟩) 2 2)]) plan25 inf25 (by kernel_rfl)) ?_
  refine TO.loud rfl (l_store_box (v := (.agg #[.int .i64 1, (.int .i64 0), (.slice (some ⟨z4, 0, none⟩) 2 2), (.slice (some ⟨z5, 0, none⟩) 2 2)])) (vs := [.int .i64 1, (.int .i64 0), (.slice (some ⟨z4, 0, none⟩) 2 2), (.slice (some ⟨z5, 0, none⟩) 2 2)]) 4 inf25 rfl rfl rfl rfl rfl rfl (by simp [putL]) ?_)
  refine TO.nil ?_
  refine T.sub (O' := [rowI (some ⟨z4, 0, none⟩) 2 54 1 [(.slice (some ⟨z2, 0, none⟩) 2 2), (.slice (some ⟨z3, 0, none⟩) 2 2)], rowI (some ⟨z5, 0, none⟩) 2 4 1 [.bool true, .bool false], rowI (some ⟨z2, 0, none⟩) 2 3 1 [.int .i64 1, .int .i64 0], rowI (some ⟨z3, 0, none⟩) 2 3 1 [.int .i64 1, .int .i64 1], oI z1 25 [.int .i64 1, (.int .i64 0), (.slice (some ⟨z4, 0, none⟩) 2 2), (.slice (some ⟨z5, 0, none⟩) 2 2)]]) (Sub.pick [1, 0, 1, 0, 0] rfl) ?_
  obtain ⟨k0, hk0⟩ : ∃ k : DK, k = ⟨some ⟨z4, 0, none⟩, 2, some ⟨z5, 0, none⟩, 2, [⟨some ⟨z2, 0, none⟩, 2, [1, 0]⟩, ⟨some ⟨z3, 0, none⟩, 2, [1, 1]⟩]⟩ := ⟨_, rfl⟩
  refine T.sub (O' := (([rowI k0.nb k0.nc 54 1 (vals k0.qs), rowI k0.fb k0.fc 4 1 (bools conO.final)] ++ itms 3 k0.qs) ++ [oI z1 25 [.int .i64 1, (.int .i64 0), (.slice (some ⟨z4, 0, none⟩) 2 2), (.slice (some ⟨z5, 0, none⟩) 2 2)]])) (by subst hk0; exact Sub.rf) ?_
  refine T.pack (φ := nums k0.qs = conO.next) (by subst hk0; rfl) ?_
  refine T.sub (O' := [dI 54 4 3 conO k0, oI z1 25 (dC conO k0)]) (by subst hk0; exact Sub.rf) ?_
  refine T.ret (Res.drop ?_)
  refine Res.cell1 (i := 1) Tryd.results34 Tryd.underlying25 rfl inf25 rfl rfl rfl ?_
  exact ⟨[dI 54 4 3 conO k0], (Sub.pick [0] rfl), k0, rfl, rfl⟩
set_option maxHeartbeats 1000000 in
set_option maxRecDepth 20000 in
theorem shortK (w : World) [Tab Tryd.prog w] : PureT Tryd.prog 35 [] w fun v N => ∃ k' : DK, v = dV conS k' ∧ N = [dI 54 4 3 conS k'] := by
  refine CallT.enter Tryd.func35 rfl Tryd.ntmps35 rfl ?_
  refine T.seq (T.region ?_)
  refine TO.loud rfl (l_alloc inf25 rfl (fun z1 => ?_))
  refine TO.nil (T.seq (T.region ?_))
  refine TO.loud rfl (l_buildSlice (m := 2) (parts := [(0, .const (.int .i64 1)), (1, .const (.int .i64 1))]) (cs := [.int .i64 1, .int .i64 1]) Tryd.underlying54 inf3 (by decide) (by kernel_rfl) rfl (fun z2 => ?_))
  refine TO.loud rfl (l_buildSlice (m := 2) (parts := [(0, .const (.int .i64 2)), (1, .const (.int .i64 2))]) (cs := [.int .i64 2, .int .i64 2]) Tryd.underlying54 inf3 (by decide) (by kernel_rfl) rfl (fun z3 => ?_))
  refine TO.loud rfl (l_buildSlice (m := 2) (parts := [(0, .const (.int .i64 2)), (1, .const (.int .i64 2))]) (cs := [.int .i64 2, .int .i64 2]) Tryd.underlying54 inf3 (by decide) (by kernel_rfl) rfl (fun z4 => ?_))
  refine TO.loud rfl (l_buildSlice (m := 3) (parts := [(0, .tmp 1), (1, .tmp 2), (2, .tmp 3)]) (cs := [(.slice (some ⟨z2, 0, none⟩) 2 2), (.slice (some ⟨z3, 0, none⟩) 2 2), (.slice (some ⟨z4, 0, none⟩) 2 2)]) Tryd.underlying22 inf54 (by decide) (by kernel_rfl) rfl (fun z5 => ?_))
  refine TO.loud rfl (l_buildSlice (m := 3) (parts := [(0, .const (.bool true)), (1, .const (.bool true)), (2, .const (.bool false))]) (cs := [.bool true, .bool true, .bool false]) Tryd.underlying23 inf4 (by decide) (by kernel_rfl) rfl (fun z6 => ?_))
  refine TO.quiet (q_build (cs := [.int .i64 1, (.int .i64 0), (.slice (some ⟨z5, 0, none⟩) 3 3), (.slice (some ⟨z6, 0, none⟩) 3 3)]) plan25 inf25 (by kernel_rfl)) ?_
  refine TO.loud rfl (l_store_box (v := (.agg #[.int .i64 1, (.int .i64 0), (.slice (some ⟨z5, 0, none⟩) 3 3), (.slice (some ⟨z6, 0, none⟩) 3 3)])) (vs := [.int .i64 1, (.int .i64 0), (.slice (some ⟨z5, 0, none⟩) 3 3), (.slice (some ⟨z6, 0, none⟩) 3 3)]) 5 inf25 rfl rfl rfl rfl rfl rfl (by simp [putL]) ?_)
  refine TO.nil ?_
  refine T.sub (O' := [rowI (some ⟨z5, 0, none⟩) 3 54 1 [(.slice (some ⟨z2, 0, none⟩) 2 2), (.slice (some ⟨z3, 0, none⟩) 2 2), (.slice (some ⟨z4, 0, none⟩) 2 2)], rowI (some ⟨z6, 0, none⟩) 3 4 1 [.bool true, .bool true, .bool false], rowI (some ⟨z2, 0, none⟩) 2 3 1 [.int .i64 1, .int .i64 1], rowI (some ⟨z3, 0, none⟩) 2 3 1 [.int .i64 2, .int .i64 2], rowI (some ⟨z4, 0, none⟩) 2 3 1 [.int .i64 2, .int .i64 2], oI z1 25 [.int .i64 1, (.int .i64 0), (.slice (some ⟨z5, 0, none⟩) 3 3), (.slice (some ⟨z6, 0, none⟩) 3 3)]]) (Sub.pick [1, 0, 2, 1, 0, 0] rfl) ?_
  obtain ⟨k0, hk0⟩ : ∃ k : DK, k = ⟨some ⟨z5, 0, none⟩, 3, some ⟨z6, 0, none⟩, 3, [⟨some ⟨z2, 0, none⟩, 2, [1, 1]⟩, ⟨some ⟨z3, 0, none⟩, 2, [2, 2]⟩, ⟨some ⟨z4, 0, none⟩, 2, [2, 2]⟩]⟩ := ⟨_, rfl⟩
  refine T.sub (O' := (([rowI k0.nb k0.nc 54 1 (vals k0.qs), rowI k0.fb k0.fc 4 1 (bools conS.final)] ++ itms 3 k0.qs) ++ [oI z1 25 [.int .i64 1, (.int .i64 0), (.slice (some ⟨z5, 0, none⟩) 3 3), (.slice (some ⟨z6, 0, none⟩) 3 3)]])) (by subst hk0; exact Sub.rf) ?_
  refine T.pack (φ := nums k0.qs = conS.next) (by subst hk0; rfl) ?_
  refine T.sub (O' := [dI 54 4 3 conS k0, oI z1 25 (dC conS k0)]) (by subst hk0; exact Sub.rf) ?_
  refine T.ret (Res.drop ?_)
  refine Res.cell1 (i := 1) Tryd.results35 Tryd.underlying25 rfl inf25 rfl rfl rfl ?_
  exact ⟨[dI 54 4 3 conS k0], (Sub.pick [0] rfl), k0, rfl, rfl⟩
set_option maxHeartbeats 1000000 in
set_option maxRecDepth 20000 in
theorem all1K (w : World) [Tab Tryd.prog w] : PureT Tryd.prog 36 [.int .i64 1] w fun v N => ∃ k' : DK, v = dV (stayD 1 true) k' ∧ N = [dI 54 4 3 (stayD 1 true) k'] := by
  refine CallT.enter Tryd.func36 rfl Tryd.ntmps36 rfl ?_
  refine T.seq (T.region ?_)
  refine TO.loud rfl (l_alloc inf25 rfl (fun z1 => ?_))
  refine TO.nil (T.seq (T.region ?_))
  refine TO.quiet (q_move rfl) (TO.quiet (q_move rfl) (TO.quiet (QT.cast (q_shl1 (v := 1) rfl rfl (by omega)) (v' := .int .i64 2) rfl) ?_))
  refine TO.loud rfl (l_makeSlice (m := 2) Tryd.underlying54 inf3 rfl rfl (by omega) (by omega) (fun z2 => ?_))
  refine TO.loud rfl (l_build1 (v := (.slice (some ⟨z2, 0, none⟩) 2 2)) Tryd.underlying22 inf54 rfl rfl rfl (fun z3 => ?_))
  refine TO.loud rfl (l_build1 (v := .bool true) Tryd.underlying23 inf4 rfl rfl rfl (fun z4 => ?_))
  refine TO.quiet (q_build (cs := [.int .i64 1, (.int .i64 0), (.slice (some ⟨z3, 0, none⟩) 1 1), (.slice (some ⟨z4, 0, none⟩) 1 1)]) plan25 inf25 (by kernel_rfl)) ?_
  refine TO.loud rfl (l_store_box (v := (.agg #[.int .i64 1, (.int .i64 0), (.slice (some ⟨z3, 0, none⟩) 1 1), (.slice (some ⟨z4, 0, none⟩) 1 1)])) (vs := [.int .i64 1, (.int .i64 0), (.slice (some ⟨z3, 0, none⟩) 1 1), (.slice (some ⟨z4, 0, none⟩) 1 1)]) 3 inf25 rfl rfl rfl rfl rfl rfl (by simp [putL]) ?_)
  refine TO.nil ?_
  refine T.sub (O' := [rowI (some ⟨z3, 0, none⟩) 1 54 1 [(.slice (some ⟨z2, 0, none⟩) 2 2)], rowI (some ⟨z4, 0, none⟩) 1 4 1 [.bool true], rowI (some ⟨z2, 0, none⟩) 2 3 1 (List.replicate 2 (.int .i64 0)), oI z1 25 [.int .i64 1, (.int .i64 0), (.slice (some ⟨z3, 0, none⟩) 1 1), (.slice (some ⟨z4, 0, none⟩) 1 1)]]) (Sub.pick [1, 0, 0, 0] rfl) ?_
  obtain ⟨k0, hk0⟩ : ∃ k : DK, k = ⟨some ⟨z3, 0, none⟩, 1, some ⟨z4, 0, none⟩, 1, [⟨some ⟨z2, 0, none⟩, 2, [0, 0]⟩]⟩ := ⟨_, rfl⟩
  refine T.sub (O' := (([rowI k0.nb k0.nc 54 1 (vals k0.qs), rowI k0.fb k0.fc 4 1 (bools (stayD 1 true).final)] ++ itms 3 k0.qs) ++ [oI z1 25 [.int .i64 1, (.int .i64 0), (.slice (some ⟨z3, 0, none⟩) 1 1), (.slice (some ⟨z4, 0, none⟩) 1 1)]])) (by subst hk0; exact Sub.rf) ?_
  refine T.pack (φ := nums k0.qs = (stayD 1 true).next) (by subst hk0; rfl) ?_
  refine T.sub (O' := [dI 54 4 3 (stayD 1 true) k0, oI z1 25 (dC (stayD 1 true) k0)]) (by subst hk0; exact Sub.rf) ?_
  refine T.ret (Res.drop ?_)
  refine Res.cell1 (i := 1) Tryd.results36 Tryd.underlying25 rfl inf25 rfl rfl rfl ?_
  exact ⟨[dI 54 4 3 (stayD 1 true) k0], (Sub.pick [0] rfl), k0, rfl, rfl⟩
set_option maxHeartbeats 1000000 in
set_option maxRecDepth 20000 in
theorem all2K (w : World) [Tab Tryd.prog w] : PureT Tryd.prog 36 [.int .i64 2] w fun v N => ∃ k' : DK, v = dV (stayD 2 true) k' ∧ N = [dI 54 4 3 (stayD 2 true) k'] := by
  refine CallT.enter Tryd.func36 rfl Tryd.ntmps36 rfl ?_
  refine T.seq (T.region ?_)
  refine TO.loud rfl (l_alloc inf25 rfl (fun z1 => ?_))
  refine TO.nil (T.seq (T.region ?_))
  refine TO.quiet (q_move rfl) (TO.quiet (q_move rfl) (TO.quiet (QT.cast (q_shl1 (v := 2) rfl rfl (by omega)) (v' := .int .i64 4) rfl) ?_))
  refine TO.loud rfl (l_makeSlice (m := 4) Tryd.underlying54 inf3 rfl rfl (by omega) (by omega) (fun z2 => ?_))
  refine TO.loud rfl (l_build1 (v := (.slice (some ⟨z2, 0, none⟩) 4 4)) Tryd.underlying22 inf54 rfl rfl rfl (fun z3 => ?_))
  refine TO.loud rfl (l_build1 (v := .bool true) Tryd.underlying23 inf4 rfl rfl rfl (fun z4 => ?_))
  refine TO.quiet (q_build (cs := [.int .i64 2, (.int .i64 0), (.slice (some ⟨z3, 0, none⟩) 1 1), (.slice (some ⟨z4, 0, none⟩) 1 1)]) plan25 inf25 (by kernel_rfl)) ?_
  refine TO.loud rfl (l_store_box (v := (.agg #[.int .i64 2, (.int .i64 0), (.slice (some ⟨z3, 0, none⟩) 1 1), (.slice (some ⟨z4, 0, none⟩) 1 1)])) (vs := [.int .i64 2, (.int .i64 0), (.slice (some ⟨z3, 0, none⟩) 1 1), (.slice (some ⟨z4, 0, none⟩) 1 1)]) 3 inf25 rfl rfl rfl rfl rfl rfl (by simp [putL]) ?_)
  refine TO.nil ?_
  refine T.sub (O' := [rowI (some ⟨z3, 0, none⟩) 1 54 1 [(.slice (some ⟨z2, 0, none⟩) 4 4)], rowI (some ⟨z4, 0, none⟩) 1 4 1 [.bool true], rowI (some ⟨z2, 0, none⟩) 4 3 1 (List.replicate 4 (.int .i64 0)), oI z1 25 [.int .i64 2, (.int .i64 0), (.slice (some ⟨z3, 0, none⟩) 1 1), (.slice (some ⟨z4, 0, none⟩) 1 1)]]) (Sub.pick [1, 0, 0, 0] rfl) ?_
  obtain ⟨k0, hk0⟩ : ∃ k : DK, k = ⟨some ⟨z3, 0, none⟩, 1, some ⟨z4, 0, none⟩, 1, [⟨some ⟨z2, 0, none⟩, 4, [0, 0, 0, 0]⟩]⟩ := ⟨_, rfl⟩
  refine T.sub (O' := (([rowI k0.nb k0.nc 54 1 (vals k0.qs), rowI k0.fb k0.fc 4 1 (bools (stayD 2 true).final)] ++ itms 3 k0.qs) ++ [oI z1 25 [.int .i64 2, (.int .i64 0), (.slice (some ⟨z3, 0, none⟩) 1 1), (.slice (some ⟨z4, 0, none⟩) 1 1)]])) (by subst hk0; exact Sub.rf) ?_
  refine T.pack (φ := nums k0.qs = (stayD 2 true).next) (by subst hk0; rfl) ?_
  refine T.sub (O' := [dI 54 4 3 (stayD 2 true) k0, oI z1 25 (dC (stayD 2 true) k0)]) (by subst hk0; exact Sub.rf) ?_
  refine T.ret (Res.drop ?_)
  refine Res.cell1 (i := 1) Tryd.results36 Tryd.underlying25 rfl inf25 rfl rfl rfl ?_
  exact ⟨[dI 54 4 3 (stayD 2 true) k0], (Sub.pick [0] rfl), k0, rfl, rfl⟩
end Go.Proofs.YtnpehjpookcfkaaDoor


namespace Go.Lx
open Go.RowKit
set_option linter.unusedVariables false
structure AwX (z dO dS dA dB mS mT mV : DFA) : Prop where
  hz : Valid z
  v1 : z.vars = 1
  eO : conO = dO
  eS : conS = dS
  eA : stayD 1 true = dA
  eB : stayD 2 true = dB
  o : InL z dO (acc dO)
  s : InL z dS (acc dS)
  a : InL z dA (acc dA)
  vB : Valid dB
  eM : minD dO = dO
  eSat : satD dO dS = mS
  hS : InL z mS (fun w => acc dS w || !acc dO w)
  s1 : accV mS [1, 1] = false
  s2 : accV mS [0, 0] = true
  s3 : accV mS [1] = true
  i1 : ∀ res, LeastA (opD minusB (opD andB dS dO) dS) res → res = none
  i2 : ∀ res, LeastA (opD minusB (opD andB dA dO) dS) res → res = some [1, 1]
  r1 : ∀ res, LeastA (opD orB (opD minusB dO dO) (opD minusB (satD dO dS) (satD dO dA))) res → res = none
  r2 : ∀ res, LeastA (opD orB (opD minusB dO dO) (opD minusB (satD dO dA) (satD dO dS))) res → res = some [1, 1]
  r3 : ∀ res, LeastA (opD orB (opD minusB dA dO) (opD minusB (satD dO dS) (satD dA dS))) res → res = some [0]
  m1 : opD orB dO dA = dA
  m2 : opD andB (satD dO dS) (satD dA dS) = mT
  m3 : accV mT [0, 0] = false
  bT : mT.next.length < 9223372036854775807 ∧ (∀ r ∈ mT.next, r.length < 9223372036854775807) ∧ mT.final.length < 9223372036854775807
  c1 : opD orB (opD andB dO dO) (notD (opD andB (satD dO dS) (satD dO dS))) = dO
  c2 : opD andB (satD dO dS) (satD dO dS) = mV
  e7 : cE dA dB = 7
theorem aw_x : ∃ z dO dS dA dB mS mT mV : DFA, AwX z dO dS dA dB mS mT mV := by
  obtain ⟨z, h⟩ := aw_z
  refine ⟨z, conO, conS, stayD 1 true, stayD 2 true, satD conO conS, opD andB (satD conO conS) (satD allA conS), opD andB (satD conO conS) (satD conO conS), ?_⟩
  exact { hz := h.hz, v1 := h.v1, eO := rfl, eS := rfl, eA := rfl, eB := rfl, o := h.o, s := h.s, a := h.a, vB := conA2_valid, eM := conO_min, eSat := rfl, hS := (InL.sat h.hz h.o h.s).2, s1 := h.satF.1, s2 := h.satF.2.1, s3 := h.satF.2.2,
          i1 := fun res hr => h.imp1 hr, i2 := fun res hr => h.imp2 hr, r1 := fun res hr => h.ref1 hr, r2 := fun res hr => h.ref2 hr, r3 := fun res hr => h.ref3 hr, m1 := h.meet.1, m2 := rfl, m3 := h.meet.2, bT := (InL.meetG h.hz h.o h.s h.a h.s).bds, c1 := h.comp, c2 := rfl,
          e7 := cE_vars (checkD_zero.2 conA_valid) (checkD_zero.2 conA2_valid) (by decide) }
end Go.Lx


namespace Go.Proofs.YtnpehjpookcfkaaDoor
open Go.Lx Go.RowKit
set_option linter.unusedVariables false
set_option linter.unusedSimpArgs false
theorem onesE (w : World) [Tab Tryd.prog w] {d : DFA} (h : conO = d) : PureT Tryd.prog 34 [] w fun v N => ∃ k' : DK, v = dV d k' ∧ N = [dI 54 4 3 d k'] := by
  subst h
  exact onesK w
theorem shortE (w : World) [Tab Tryd.prog w] {d : DFA} (h : conS = d) : PureT Tryd.prog 35 [] w fun v N => ∃ k' : DK, v = dV d k' ∧ N = [dI 54 4 3 d k'] := by
  subst h
  exact shortK w
theorem all1E (w : World) [Tab Tryd.prog w] {d : DFA} (h : stayD 1 true = d) : PureT Tryd.prog 36 [.int .i64 1] w fun v N => ∃ k' : DK, v = dV d k' ∧ N = [dI 54 4 3 d k'] := by
  subst h
  exact all1K w
theorem all2E (w : World) [Tab Tryd.prog w] {d : DFA} (h : stayD 2 true = d) : PureT Tryd.prog 36 [.int .i64 2] w fun v N => ∃ k' : DK, v = dV d k' ∧ N = [dI 54 4 3 d k'] := by
  subst h
  exact all2K w
theorem implL (w : World) [Tab Tryd.prog w] {z x a g : DFA} {px p q : List Nat → Bool} (hz : Valid z) (hx : InL z x px) (ha : InL z a p) (hg : InL z g q) (i j k : DK) (hi : At w x i) (hj : At w a j) (hk : At w g k) {r : Option (List Nat)} (hr : ∀ res, LeastA (opD minusB (opD andB x a) g) res → res = r) :
    PureT Tryd.prog 12 [dV x i, cV a g j k] w fun v N => ∃ wb wc, v = .tuple #[.slice wb (r.getD []).length wc, .bool (!r.isSome), .int .i64 0] ∧ N = [rowI wb wc 5 1 (byts (r.getD []))] := by
  refine (implC w hz hx ha hg i j k hi hj hk).mono ?_
  rintro v N ⟨res, wb, wc, hL, rfl, rfl⟩
  obtain rfl := hr _ hL
  exact ⟨wb, wc, rfl, rfl⟩
theorem refL (w : World) [Tab Tryd.prog w] {z a b0 c d : DFA} {p q p2 q2 : List Nat → Bool} (hz : Valid z) (ha : InL z a p) (hb : InL z b0 q) (hc : InL z c p2) (hd : InL z d q2) (j1 j2 j3 j4 : DK) (hj1 : At w a j1) (hj2 : At w b0 j2) (hj3 : At w c j3) (hj4 : At w d j4) {r : Option (List Nat)} (hr : ∀ res, LeastA (opD orB (opD minusB c a) (opD minusB (satD a b0) (satD c d))) res → res = r) :
    PureT Tryd.prog 13 [cV a b0 j1 j2, cV c d j3 j4] w fun v N => ∃ wb wc, v = .tuple #[.slice wb (r.getD []).length wc, .bool (!r.isSome), .int .i64 0] ∧ N = [rowI wb wc 5 1 (byts (r.getD []))] := by
  refine (refC w hz ha hb hc hd j1 j2 j3 j4 hj1 hj2 hj3 hj4).mono ?_
  rintro v N ⟨res, wb, wc, hL, rfl, rfl⟩
  obtain rfl := hr _ hL
  exact ⟨wb, wc, rfl, rfl⟩
theorem meetX (w : World) [Tab Tryd.prog w] {z a b c d : DFA} {p q p2 q2 : List Nat → Bool} (hz : Valid z) (ha : InL z a p) (hb : InL z b q) (hc : InL z c p2) (hd : InL z d q2) (j1 j2 j3 j4 : DK) (hj1 : At w a j1) (hj2 : At w b j2) (hj3 : At w c j3) (hj4 : At w d j4) {X Y : DFA} (e1 : (opD orB a c) = X) (e2 : (opD andB (satD a b) (satD c d)) = Y) :
    PureT Tryd.prog 20 [cV a b j1 j2, cV c d j3 j4] w fun v N => ∃ k1 k2 : DK, v = .tuple #[cV X Y k1 k2, .int .i64 0] ∧ N = [dI 54 4 3 X k1, dI 54 4 3 Y k2] := by
  subst e1 e2
  exact meetC w hz ha hb hc hd j1 j2 j3 j4 hj1 hj2 hj3 hj4
theorem joinX (w : World) [Tab Tryd.prog w] {z a b c d : DFA} {p q p2 q2 : List Nat → Bool} (hz : Valid z) (ha : InL z a p) (hb : InL z b q) (hc : InL z c p2) (hd : InL z d q2) (j1 j2 j3 j4 : DK) (hj1 : At w a j1) (hj2 : At w b j2) (hj3 : At w c j3) (hj4 : At w d j4) {X Y : DFA} (e1 : (opD andB a c) = X) (e2 : (opD orB (satD a b) (satD c d)) = Y) :
    PureT Tryd.prog 21 [cV a b j1 j2, cV c d j3 j4] w fun v N => ∃ k1 k2 : DK, v = .tuple #[cV X Y k1 k2, .int .i64 0] ∧ N = [dI 54 4 3 X k1, dI 54 4 3 Y k2] := by
  subst e1 e2
  exact joinC w hz ha hb hc hd j1 j2 j3 j4 hj1 hj2 hj3 hj4
theorem compX (w : World) [Tab Tryd.prog w] {z a b c d : DFA} {p q p2 q2 : List Nat → Bool} (hz : Valid z) (ha : InL z a p) (hb : InL z b q) (hc : InL z c p2) (hd : InL z d q2) (j1 j2 j3 j4 : DK) (hj1 : At w a j1) (hj2 : At w b j2) (hj3 : At w c j3) (hj4 : At w d j4) {X Y : DFA} (e1 : (opD orB (opD andB a c) (notD (opD andB (satD a b) (satD c d)))) = X) (e2 : (opD andB (satD a b) (satD c d)) = Y) :
    PureT Tryd.prog 16 [cV a b j1 j2, cV c d j3 j4] w fun v N => ∃ k1 k2 : DK, v = .tuple #[cV X Y k1 k2, .int .i64 0] ∧ N = [dI 54 4 3 X k1, dI 54 4 3 Y k2] := by
  subst e1 e2
  exact compC w hz ha hb hc hd j1 j2 j3 j4 hj1 hj2 hj3 hj4
theorem satX (w : World) [Tab Tryd.prog w] {z a b : DFA} {p q : List Nat → Bool} (hz : Valid z) (ha : InL z a p) (hb : InL z b q) (j1 j2 : DK) (hj1 : At w a j1) (hj2 : At w b j2) {X Y : DFA} (e1 : minD a = X) (e2 : satD a b = Y) :
    PureT Tryd.prog 23 [cV a b j1 j2] w fun v N => ∃ k1 k2 : DK, v = .tuple #[cV X Y k1 k2, .int .i64 0] ∧ N = [dI 54 4 3 X k1, dI 54 4 3 Y k2] := by
  subst e1 e2
  exact satC w hz ha hb j1 j2 hj1 hj2
theorem chk7 (w : World) [Tab Tryd.prog w] (a g : DFA) (j k : DK) (ha : At w a j) (hg : At w g k) (ba : Valid a) (bg : Valid g) (e : cE a g = 7) :
    PureT Tryd.prog 27 [cV a g j k] w fun v N => v = .int .i64 7 ∧ N = [] := by
  have h := conCheck w a g j k ha hg ⟨by have := ba.n4; omega, ba.bound, by have := ba.fin; have := ba.n4; omega⟩ ⟨by have := bg.n4; omega, bg.bound, by have := bg.fin; have := bg.n4; omega⟩
  rw [e] at h
  exact h
set_option maxHeartbeats 8000000 in
set_option maxRecDepth 20000 in
theorem awakeC (w : World) [Tab Tryd.prog w] :
    PureT Tryd.prog 15 [] w fun v N => v = .bool true ∧ N = [] := by
  refine CallT.enter Tryd.func15 rfl Tryd.ntmps15 rfl ?_
  obtain ⟨z, dO, dS, dA, dB, mS, mT, mV, h⟩ := aw_x
  refine T.seq (T.region ?_)
  refine TO.quiet (q_assign rfl) ?_
  refine TO.nil (T.seq (T.region ?_))
  have hk25 := fun (w1 : World) (hI : Inv w [] w1) => (haveI := Inv.tab (P := Tryd.prog) hI; onesE w1 h.eO)
  refine TO.loud rfl (l_call ent34 (CallT.of_pure hk25) rfl ?_)
  clear hk25
  rintro vr O' ⟨N, rfl, k1, rfl, rfl⟩
  have hk26 := fun (w1 : World) (hI : Inv w [dI 54 4 3 dO k1] w1) => (haveI := Inv.tab (P := Tryd.prog) hI; shortE w1 h.eS)
  refine TO.loud rfl (l_call ent35 (CallT.of_pure hk26) rfl ?_)
  clear hk26
  rintro vr O' ⟨N, rfl, k2, rfl, rfl⟩
  refine TO.quiet (q_build (cs := (cC dO dS k1 k2)) plan27 inf27 (by kernel_rfl)) ?_
  refine TO.loud rfl (l_alloc inf27 rfl (fun z1 => ?_))
  refine TO.loud rfl (l_store_box (v := (cV dO dS k1 k2)) (vs := (cC dO dS k1 k2)) 0 inf27 rfl rfl rfl rfl rfl rfl (by simp [putL]) ?_)
  refine TO.nil (T.seq (T.region ?_))
  refine TO.quiet (q_load_boxAgg 0 Tryd.underlying27 rfl inf27 rfl rfl rfl) ?_
  have hk30 := fun (w1 : World) (hI : Inv w [oI z1 27 (cC dO dS k1 k2), dI 54 4 3 dS k2, dI 54 4 3 dO k1] w1) => (haveI := Inv.tab (P := Tryd.prog) hI; satX w1 h.hz h.o h.s k1 k2 (hI.at (k := k1) (List.mem_of_getElem? (i := 2) rfl)) (hI.at (k := k2) (List.mem_of_getElem? (i := 1) rfl)) h.eM h.eSat)
  refine TO.loud rfl (l_call ent23 (CallT.of_pure hk30) rfl ?_)
  clear hk30
  rintro vr O' ⟨N, rfl, k3, k4, rfl, rfl⟩
  refine TO.quiet (q_move rfl) (TO.quiet (q_extract (vs := _) rfl rfl) (TO.quiet (q_extract (vs := _) rfl rfl) ?_))
  refine TO.loud rfl (l_alloc inf27 rfl (fun z2 => ?_))
  refine TO.loud rfl (l_store_box (v := (cV dO mS k3 k4)) (vs := (cC dO mS k3 k4)) 0 inf27 rfl rfl rfl rfl rfl rfl (by simp [putL]) ?_)
  refine TO.quiet (q_assign rfl) ?_
  refine TO.nil (T.seq ?_)
  refine T.draws [oI z1 27 (cC dO dS k1 k2)] [(1, 0), (0, 1), (2, 1), (3, 0), (4, 0), (5, 0), (6, 0), (7, 0), (8, 0), (9, 0)] mixed (by kernel_rfl) (by exact Sub.d (.d (.d (.k .z)))) (fun _ _ _ h => h) ?_
  refine DO.quiet rfl (q_load_boxAgg 0 Tryd.underlying27 rfl inf27 rfl rfl rfl) ?_
  have hk34 := fun (w1 : World) (hI : Inv w [oI z2 27 (cC dO mS k3 k4), dI 54 4 3 dO k3, dI 54 4 3 mS k4, oI z1 27 (cC dO dS k1 k2), dI 54 4 3 dS k2, dI 54 4 3 dO k1] w1) => (haveI := Inv.tab (P := Tryd.prog) hI; shortE w1 h.eS)
  refine DO.loud rfl rfl (l_call ent35 (CallT.of_pure hk34) rfl ?_)
  clear hk34
  rintro vr O' ⟨N, rfl, k5, rfl, rfl⟩
  refine ⟨by exact Sub.d (.d (.d (.d (.k .z)))), ?_⟩
  have hk36 := fun (w1 : World) (hI : Inv w [dI 54 4 3 dS k5, oI z2 27 (cC dO mS k3 k4), dI 54 4 3 dO k3, dI 54 4 3 mS k4, oI z1 27 (cC dO dS k1 k2), dI 54 4 3 dS k2, dI 54 4 3 dO k1] w1) => (haveI := Inv.tab (P := Tryd.prog) hI; implL w1 h.hz h.s h.o h.s k5 k1 k2 (hI.at (k := k5) (List.mem_of_getElem? (i := 0) rfl)) (hI.at (k := k1) (List.mem_of_getElem? (i := 6) rfl)) (hI.at (k := k2) (List.mem_of_getElem? (i := 5) rfl)) h.i1)
  refine DO.loud rfl rfl (l_call ent12 (CallT.of_pure hk36) rfl ?_)
  clear hk36
  rintro vr O' ⟨N, rfl, wb1, wc1, rfl, rfl⟩
  refine ⟨by exact Sub.d (.d (.d (.d (.d (.k .z))))), ?_⟩
  refine DO.quiet rfl (q_move rfl) (DO.quiet rfl (q_extract (vs := _) rfl rfl) (DO.quiet rfl (q_extract (vs := _) rfl rfl) (DO.quiet rfl (q_extract (vs := _) rfl rfl) ?_)))
  refine DO.quiet rfl (q_assign rfl) (DO.quiet rfl (q_assign rfl) (DO.quiet rfl (q_assign rfl) ?_))
  refine DO.done ?_
  refine T.seq ?_
  refine T.draws [oI z1 27 (cC dO dS k1 k2)] [(1, 0), (0, 1), (2, 1), (3, 0), (4, 0), (5, 0), (6, 0), (7, 0), (8, 0), (9, 0)] mixed (by kernel_rfl) (by exact Sub.d (.d (.d (.d (.d (.k .z)))))) (fun _ _ _ h => h) ?_
  refine DO.quiet rfl (q_load_boxAgg 0 Tryd.underlying27 rfl inf27 rfl rfl rfl) ?_
  have hk41 := fun (w1 : World) (hI : Inv w [rowI wb1 wc1 5 1 (byts []), dI 54 4 3 dS k5, oI z2 27 (cC dO mS k3 k4), dI 54 4 3 dO k3, dI 54 4 3 mS k4, oI z1 27 (cC dO dS k1 k2), dI 54 4 3 dS k2, dI 54 4 3 dO k1] w1) => (haveI := Inv.tab (P := Tryd.prog) hI; all1E w1 h.eA)
  refine DO.loud rfl rfl (l_call ent36 (CallT.of_pure hk41) rfl ?_)
  clear hk41
  rintro vr O' ⟨N, rfl, k6, rfl, rfl⟩
  refine ⟨by exact Sub.d (.d (.d (.d (.d (.d (.k .z)))))), ?_⟩
  have hk43 := fun (w1 : World) (hI : Inv w [dI 54 4 3 dA k6, rowI wb1 wc1 5 1 (byts []), dI 54 4 3 dS k5, oI z2 27 (cC dO mS k3 k4), dI 54 4 3 dO k3, dI 54 4 3 mS k4, oI z1 27 (cC dO dS k1 k2), dI 54 4 3 dS k2, dI 54 4 3 dO k1] w1) => (haveI := Inv.tab (P := Tryd.prog) hI; implL w1 h.hz h.a h.o h.s k6 k1 k2 (hI.at (k := k6) (List.mem_of_getElem? (i := 0) rfl)) (hI.at (k := k1) (List.mem_of_getElem? (i := 8) rfl)) (hI.at (k := k2) (List.mem_of_getElem? (i := 7) rfl)) h.i2)
  refine DO.loud rfl rfl (l_call ent12 (CallT.of_pure hk43) rfl ?_)
  clear hk43
  rintro vr O' ⟨N, rfl, wb2, wc2, rfl, rfl⟩
  refine ⟨by exact Sub.d (.d (.d (.d (.d (.d (.d (.k .z))))))), ?_⟩
  refine DO.quiet rfl (q_move rfl) (DO.quiet rfl (q_extract (vs := _) rfl rfl) (DO.quiet rfl (q_extract (vs := _) rfl rfl) (DO.quiet rfl (q_extract (vs := _) rfl rfl) ?_)))
  refine DO.quiet rfl (q_assign rfl) (DO.quiet rfl (q_assign rfl) (DO.quiet rfl (q_assign rfl) ?_))
  refine DO.sub (O' := [rowI wb2 wc2 5 1 (byts [1, 1]), rowI wb1 wc1 5 1 (byts []), oI z2 27 (cC dO mS k3 k4), dI 54 4 3 dO k3, dI 54 4 3 mS k4, oI z1 27 (cC dO dS k1 k2), dI 54 4 3 dS k2, dI 54 4 3 dO k1]) (by exact Sub.k (.d (.k (.d (.k (.k (.k (.k (.k (.k .z)))))))))) ?_
  refine DO.done ?_
  refine T.seq (T.seq ?_)
  refine T.draws [oI z2 27 (cC dO mS k3 k4), oI z1 27 (cC dO dS k1 k2)] [(0, 0), (1, 0), (2, 0), (3, 0), (4, 0), (5, 1), (6, 1), (7, 0), (8, 0), (9, 0), (10, 0), (11, 1), (12, 1), (13, 0), (14, 0), (15, 0), (16, 0), (17, 0), (18, 1), (19, 1), (20, 0), (21, 0), (22, 0), (23, 0), (24, 0), (25, 1), (26, 1), (27, 0), (28, 0), (29, 0), (30, 0), (31, 0), (32, 0), (33, 1), (34, 0), (35, 0), (36, 0), (37, 0), (38, 0), (39, 0), (40, 1), (41, 2), (42, 2), (43, 2)] mixed (drawF_ok (by kernel_rfl)) (by exact Sub.d (.d (.k (.d (.d (.k .z)))))) (fun _ _ _ h => h) ?_
  refine DO.quiet rfl (q_move rfl) (DO.quiet rfl (QT.toB (q_neq rfl rfl) (decide_eq_false (fun h => h rfl))) (DO.quiet rfl (q_move rfl) ?_))
  refine DO.guarded rfl rfl rfl (q_fieldAddr Tryd.underlying27 rfl inf25 rfl rfl) ?_
  refine DO.guarded rfl rfl rfl (q_load_part 0 (vs := (dC mS k4)) Tryd.underlying25 rfl inf25 rfl rfl rfl rfl) ?_
  refine DO.loudG rfl rfl rfl rfl (l_buildSlice (m := 2) (parts := [(0, .const (.int .u8 1)), (1, .const (.int .u8 1))]) (cs := [.int .u8 1, .int .u8 1]) Tryd.underlying29 inf5 (by decide) (by kernel_rfl) rfl (fun z3 => ⟨by exact Sub.d (.d (.d (.k (.d (.d (.k .z)))))), ?_⟩))
  have hk53 := fun (w1 : World) (hI : Inv w [rowI (some ⟨z3, 0, none⟩) 2 5 1 [.int .u8 1, .int .u8 1], rowI wb2 wc2 5 1 (byts [1, 1]), rowI wb1 wc1 5 1 (byts []), oI z2 27 (cC dO mS k3 k4), dI 54 4 3 dO k3, dI 54 4 3 mS k4, oI z1 27 (cC dO dS k1 k2), dI 54 4 3 dS k2, dI 54 4 3 dO k1] w1) => (haveI := Inv.tab (P := Tryd.prog) hI; accF w1 mS k4 (hI.at (k := k4) (List.mem_of_getElem? (i := 5) rfl)) h.hS.bds (some ⟨z3, 0, none⟩) 2 [1, 1] (hI.slOf (List.mem_of_getElem? (i := 0) rfl)) (by decide) (by decide) h.s1)
  refine DO.loudG rfl rfl rfl rfl (l_call ent14 (CallT.of_pure hk53) rfl ?_)
  clear hk53
  rintro vr O' ⟨N, rfl, rfl, rfl⟩
  refine ⟨by exact Sub.d (.d (.d (.k (.d (.d (.k .z)))))), ?_⟩
  refine DO.quiet rfl (q_pick0 rfl rfl) (DO.quiet rfl (q_move rfl) ?_)
  refine DO.guarded rfl rfl rfl (q_fieldAddr Tryd.underlying27 rfl inf25 rfl rfl) ?_
  refine DO.guarded rfl rfl rfl (q_load_part 0 (vs := (dC mS k4)) Tryd.underlying25 rfl inf25 rfl rfl rfl rfl) ?_
  refine DO.loudG rfl rfl rfl rfl (l_buildSlice (m := 2) (parts := [(0, .const (.int .u8 0)), (1, .const (.int .u8 0))]) (cs := [.int .u8 0, .int .u8 0]) Tryd.underlying29 inf5 (by decide) (by kernel_rfl) rfl (fun z4 => ⟨by exact Sub.d (.d (.d (.d (.k (.d (.d (.k .z))))))), ?_⟩))
  have hk59 := fun (w1 : World) (hI : Inv w [rowI (some ⟨z4, 0, none⟩) 2 5 1 [.int .u8 0, .int .u8 0], rowI (some ⟨z3, 0, none⟩) 2 5 1 [.int .u8 1, .int .u8 1], rowI wb2 wc2 5 1 (byts [1, 1]), rowI wb1 wc1 5 1 (byts []), oI z2 27 (cC dO mS k3 k4), dI 54 4 3 dO k3, dI 54 4 3 mS k4, oI z1 27 (cC dO dS k1 k2), dI 54 4 3 dS k2, dI 54 4 3 dO k1] w1) => (haveI := Inv.tab (P := Tryd.prog) hI; accF w1 mS k4 (hI.at (k := k4) (List.mem_of_getElem? (i := 6) rfl)) h.hS.bds (some ⟨z4, 0, none⟩) 2 [0, 0] (hI.slOf (List.mem_of_getElem? (i := 0) rfl)) (by decide) (by decide) h.s2)
  refine DO.loudG rfl rfl rfl rfl (l_call ent14 (CallT.of_pure hk59) rfl ?_)
  clear hk59
  rintro vr O' ⟨N, rfl, rfl, rfl⟩
  refine ⟨by exact Sub.d (.d (.d (.d (.k (.d (.d (.k .z))))))), ?_⟩
  refine DO.guarded rfl rfl rfl (q_not rfl) ?_
  refine DO.quiet rfl (q_pick0 rfl rfl) (DO.quiet rfl (q_move rfl) ?_)
  refine DO.guarded rfl rfl rfl (q_fieldAddr Tryd.underlying27 rfl inf25 rfl rfl) ?_
  refine DO.guarded rfl rfl rfl (q_load_part 0 (vs := (dC mS k4)) Tryd.underlying25 rfl inf25 rfl rfl rfl rfl) ?_
  refine DO.loudG rfl rfl rfl rfl (l_build1 (v := .int .u8 1) Tryd.underlying29 inf5 rfl rfl rfl (fun z5 => ⟨by exact Sub.d (.d (.d (.d (.d (.k (.d (.d (.k .z)))))))), ?_⟩))
  have hk66 := fun (w1 : World) (hI : Inv w [rowI (some ⟨z5, 0, none⟩) 1 5 1 [.int .u8 1], rowI (some ⟨z4, 0, none⟩) 2 5 1 [.int .u8 0, .int .u8 0], rowI (some ⟨z3, 0, none⟩) 2 5 1 [.int .u8 1, .int .u8 1], rowI wb2 wc2 5 1 (byts [1, 1]), rowI wb1 wc1 5 1 (byts []), oI z2 27 (cC dO mS k3 k4), dI 54 4 3 dO k3, dI 54 4 3 mS k4, oI z1 27 (cC dO dS k1 k2), dI 54 4 3 dS k2, dI 54 4 3 dO k1] w1) => (haveI := Inv.tab (P := Tryd.prog) hI; accF w1 mS k4 (hI.at (k := k4) (List.mem_of_getElem? (i := 7) rfl)) h.hS.bds (some ⟨z5, 0, none⟩) 1 [1] (hI.slOf (List.mem_of_getElem? (i := 0) rfl)) (by decide) (by decide) h.s3)
  refine DO.loudG rfl rfl rfl rfl (l_call ent14 (CallT.of_pure hk66) rfl ?_)
  clear hk66
  rintro vr O' ⟨N, rfl, rfl, rfl⟩
  refine ⟨by exact Sub.d (.d (.d (.d (.d (.k (.d (.d (.k .z)))))))), ?_⟩
  refine DO.guarded rfl rfl rfl (q_not rfl) ?_
  refine DO.quiet rfl (q_pick0 rfl rfl) (DO.quiet rfl (q_move rfl) ?_)
  refine DO.guarded rfl rfl rfl (q_fieldAddr Tryd.underlying27 rfl inf25 rfl rfl) ?_
  refine DO.guarded rfl rfl rfl (q_load_part 0 (vs := (dC dO k3)) Tryd.underlying25 rfl inf25 rfl rfl rfl rfl) ?_
  have hk72 := fun (w1 : World) (hI : Inv w [rowI (some ⟨z5, 0, none⟩) 1 5 1 [.int .u8 1], rowI (some ⟨z4, 0, none⟩) 2 5 1 [.int .u8 0, .int .u8 0], rowI (some ⟨z3, 0, none⟩) 2 5 1 [.int .u8 1, .int .u8 1], rowI wb2 wc2 5 1 (byts [1, 1]), rowI wb1 wc1 5 1 (byts []), oI z2 27 (cC dO mS k3 k4), dI 54 4 3 dO k3, dI 54 4 3 mS k4, oI z1 27 (cC dO dS k1 k2), dI 54 4 3 dS k2, dI 54 4 3 dO k1] w1) => (haveI := Inv.tab (P := Tryd.prog) hI; onesE w1 h.eO)
  refine DO.loudG rfl rfl rfl rfl (l_call ent34 (CallT.of_pure hk72) rfl ?_)
  clear hk72
  rintro vr O' ⟨N, rfl, k11, rfl, rfl⟩
  refine ⟨by exact Sub.d (.d (.d (.d (.d (.d (.k (.d (.d (.k .z))))))))), ?_⟩
  have hk73 := fun (w1 : World) (hI : Inv w [dI 54 4 3 dO k11, rowI (some ⟨z5, 0, none⟩) 1 5 1 [.int .u8 1], rowI (some ⟨z4, 0, none⟩) 2 5 1 [.int .u8 0, .int .u8 0], rowI (some ⟨z3, 0, none⟩) 2 5 1 [.int .u8 1, .int .u8 1], rowI wb2 wc2 5 1 (byts [1, 1]), rowI wb1 wc1 5 1 (byts []), oI z2 27 (cC dO mS k3 k4), dI 54 4 3 dO k3, dI 54 4 3 mS k4, oI z1 27 (cC dO dS k1 k2), dI 54 4 3 dS k2, dI 54 4 3 dO k1] w1) => (haveI := Inv.tab (P := Tryd.prog) hI; equalK w1 dO k3 k11 (hI.at (k := k3) (List.mem_of_getElem? (i := 7) rfl)) (hI.at (k := k11) (List.mem_of_getElem? (i := 0) rfl)) h.o.bds)
  refine DO.loudG rfl rfl rfl rfl (l_call ent37 (CallT.of_pure hk73) rfl ?_)
  clear hk73
  rintro vr O' ⟨N, rfl, rfl, rfl⟩
  refine ⟨by exact Sub.d (.d (.d (.d (.d (.d (.k (.d (.d (.k .z))))))))), ?_⟩
  refine DO.guarded rfl rfl rfl (q_not rfl) ?_
  refine DO.quiet rfl (q_pick0 rfl rfl) (DO.quiet rfl (q_move rfl) ?_)
  refine DO.guarded rfl rfl rfl (q_move rfl) ?_
  refine DO.guarded rfl rfl rfl (q_move rfl) ?_
  refine DO.guarded rfl rfl rfl (q_move rfl) ?_
  have hk80 := fun (w1 : World) (hI : Inv w [dI 54 4 3 dO k11, rowI (some ⟨z5, 0, none⟩) 1 5 1 [.int .u8 1], rowI (some ⟨z4, 0, none⟩) 2 5 1 [.int .u8 0, .int .u8 0], rowI (some ⟨z3, 0, none⟩) 2 5 1 [.int .u8 1, .int .u8 1], rowI wb2 wc2 5 1 (byts [1, 1]), rowI wb1 wc1 5 1 (byts []), oI z2 27 (cC dO mS k3 k4), dI 54 4 3 dO k3, dI 54 4 3 mS k4, oI z1 27 (cC dO dS k1 k2), dI 54 4 3 dS k2, dI 54 4 3 dO k1] w1) => (haveI := Inv.tab (P := Tryd.prog) hI; isC w1 wb1 none wc1 0 [] (hI.slOf (List.mem_of_getElem? (i := 5) rfl)) (Sl.nil _ _) (by decide) true)
  refine DO.loudG rfl rfl rfl rfl (l_call ent38 (CallT.of_pure hk80) rfl ?_)
  clear hk80
  rintro vr O' ⟨N, rfl, rfl, rfl⟩
  refine ⟨by exact Sub.d (.d (.d (.d (.d (.d (.k (.d (.d (.k .z))))))))), ?_⟩
  refine DO.guarded rfl rfl rfl (q_not rfl) ?_
  refine DO.quiet rfl (q_pick0 rfl rfl) (DO.quiet rfl (q_move rfl) ?_)
  refine DO.guarded rfl rfl rfl (q_move rfl) ?_
  refine DO.guarded rfl rfl rfl (q_move rfl) ?_
  refine DO.guarded rfl rfl rfl (q_move rfl) ?_
  refine DO.loudG rfl rfl rfl rfl (l_buildSlice (m := 2) (parts := [(0, .const (.int .u8 1)), (1, .const (.int .u8 1))]) (cs := [.int .u8 1, .int .u8 1]) Tryd.underlying29 inf5 (by decide) (by kernel_rfl) rfl (fun z6 => ⟨by exact Sub.d (.d (.d (.d (.d (.d (.d (.k (.d (.d (.k .z)))))))))), ?_⟩))
  have hk88 := fun (w1 : World) (hI : Inv w [rowI (some ⟨z6, 0, none⟩) 2 5 1 [.int .u8 1, .int .u8 1], dI 54 4 3 dO k11, rowI (some ⟨z5, 0, none⟩) 1 5 1 [.int .u8 1], rowI (some ⟨z4, 0, none⟩) 2 5 1 [.int .u8 0, .int .u8 0], rowI (some ⟨z3, 0, none⟩) 2 5 1 [.int .u8 1, .int .u8 1], rowI wb2 wc2 5 1 (byts [1, 1]), rowI wb1 wc1 5 1 (byts []), oI z2 27 (cC dO mS k3 k4), dI 54 4 3 dO k3, dI 54 4 3 mS k4, oI z1 27 (cC dO dS k1 k2), dI 54 4 3 dS k2, dI 54 4 3 dO k1] w1) => (haveI := Inv.tab (P := Tryd.prog) hI; isC w1 wb2 (some ⟨z6, 0, none⟩) wc2 2 [1, 1] (hI.slOf (List.mem_of_getElem? (i := 5) rfl)) (hI.slOf (List.mem_of_getElem? (i := 0) rfl)) (by decide) false)
  refine DO.lastG rfl rfl rfl rfl (l_call ent38 (CallT.of_pure hk88) rfl ?_)
  clear hk88
  rintro vr O' ⟨N, rfl, rfl, rfl⟩
  refine DO.lastG rfl rfl rfl rfl (LT.of_quiet rfl rfl (q_not rfl) ?_)
  refine DO.last rfl rfl (LT.of_quiet rfl rfl (q_pick0 rfl rfl) ?_)
  refine DO.sub (O' := [oI z1 27 (cC dO dS k1 k2), dI 54 4 3 dS k2, dI 54 4 3 dO k1]) (by exact Sub.d (.d (.d (.d (.d (.d (.d (.d (.d (.d (.k (.k (.k .z))))))))))))) ?_
  refine DO.done ?_
  refine T.cond0 rfl ?_
  refine T.skip (T.seq (T.region ?_))
  have hk91 := fun (w1 : World) (hI : Inv w [oI z1 27 (cC dO dS k1 k2), dI 54 4 3 dS k2, dI 54 4 3 dO k1] w1) => (haveI := Inv.tab (P := Tryd.prog) hI; onesE w1 h.eO)
  refine TO.loud rfl (l_call ent34 (CallT.of_pure hk91) rfl ?_)
  clear hk91
  rintro vr O' ⟨N, rfl, k7, rfl, rfl⟩
  have hk92 := fun (w1 : World) (hI : Inv w [dI 54 4 3 dO k7, oI z1 27 (cC dO dS k1 k2), dI 54 4 3 dS k2, dI 54 4 3 dO k1] w1) => (haveI := Inv.tab (P := Tryd.prog) hI; all1E w1 h.eA)
  refine TO.loud rfl (l_call ent36 (CallT.of_pure hk92) rfl ?_)
  clear hk92
  rintro vr O' ⟨N, rfl, k8, rfl, rfl⟩
  refine TO.quiet (q_build (cs := (cC dO dA k7 k8)) plan27 inf27 (by kernel_rfl)) ?_
  refine TO.loud rfl (l_alloc inf27 rfl (fun z7 => ?_))
  refine TO.loud rfl (l_store_box (v := (cV dO dA k7 k8)) (vs := (cC dO dA k7 k8)) 0 inf27 rfl rfl rfl rfl rfl rfl (by simp [putL]) ?_)
  refine TO.nil (T.seq (T.region ?_))
  have hk94 := fun (w1 : World) (hI : Inv w [oI z7 27 (cC dO dA k7 k8), dI 54 4 3 dA k8, dI 54 4 3 dO k7, oI z1 27 (cC dO dS k1 k2), dI 54 4 3 dS k2, dI 54 4 3 dO k1] w1) => (haveI := Inv.tab (P := Tryd.prog) hI; all1E w1 h.eA)
  refine TO.loud rfl (l_call ent36 (CallT.of_pure hk94) rfl ?_)
  clear hk94
  rintro vr O' ⟨N, rfl, k9, rfl, rfl⟩
  have hk95 := fun (w1 : World) (hI : Inv w [dI 54 4 3 dA k9, oI z7 27 (cC dO dA k7 k8), dI 54 4 3 dA k8, dI 54 4 3 dO k7, oI z1 27 (cC dO dS k1 k2), dI 54 4 3 dS k2, dI 54 4 3 dO k1] w1) => (haveI := Inv.tab (P := Tryd.prog) hI; shortE w1 h.eS)
  refine TO.loud rfl (l_call ent35 (CallT.of_pure hk95) rfl ?_)
  clear hk95
  rintro vr O' ⟨N, rfl, k10, rfl, rfl⟩
  refine TO.quiet (q_build (cs := (cC dA dS k9 k10)) plan27 inf27 (by kernel_rfl)) ?_
  refine TO.loud rfl (l_alloc inf27 rfl (fun z8 => ?_))
  refine TO.loud rfl (l_store_box (v := (cV dA dS k9 k10)) (vs := (cC dA dS k9 k10)) 0 inf27 rfl rfl rfl rfl rfl rfl (by simp [putL]) ?_)
  refine TO.nil (T.seq (T.region ?_))
  refine TO.quiet (q_load_boxAgg 6 Tryd.underlying27 rfl inf27 rfl rfl rfl) (TO.quiet (q_load_boxAgg 3 Tryd.underlying27 rfl inf27 rfl rfl rfl) ?_)
  have hk100 := fun (w1 : World) (hI : Inv w [oI z8 27 (cC dA dS k9 k10), dI 54 4 3 dS k10, dI 54 4 3 dA k9, oI z7 27 (cC dO dA k7 k8), dI 54 4 3 dA k8, dI 54 4 3 dO k7, oI z1 27 (cC dO dS k1 k2), dI 54 4 3 dS k2, dI 54 4 3 dO k1] w1) => (haveI := Inv.tab (P := Tryd.prog) hI; refL w1 h.hz h.o h.s h.o h.a k1 k2 k7 k8 (hI.at (k := k1) (List.mem_of_getElem? (i := 8) rfl)) (hI.at (k := k2) (List.mem_of_getElem? (i := 7) rfl)) (hI.at (k := k7) (List.mem_of_getElem? (i := 5) rfl)) (hI.at (k := k8) (List.mem_of_getElem? (i := 4) rfl)) h.r1)
  refine TO.loud rfl (l_call ent13 (CallT.of_pure hk100) rfl ?_)
  clear hk100
  rintro vr O' ⟨N, rfl, wb3, wc3, rfl, rfl⟩
  refine TO.quiet (q_move rfl) (TO.quiet (q_extract (vs := _) rfl rfl) (TO.quiet (q_extract (vs := _) rfl rfl) (TO.quiet (q_extract (vs := _) rfl rfl) ?_)))
  refine TO.quiet (q_assign rfl) (TO.quiet (q_assign rfl) (TO.quiet (q_assign rfl) ?_))
  refine TO.nil (T.seq (T.region ?_))
  refine TO.quiet (q_load_boxAgg 4 Tryd.underlying27 rfl inf27 rfl rfl rfl) (TO.quiet (q_load_boxAgg 7 Tryd.underlying27 rfl inf27 rfl rfl rfl) ?_)
  have hk107 := fun (w1 : World) (hI : Inv w [rowI wb3 wc3 5 1 (byts []), oI z8 27 (cC dA dS k9 k10), dI 54 4 3 dS k10, dI 54 4 3 dA k9, oI z7 27 (cC dO dA k7 k8), dI 54 4 3 dA k8, dI 54 4 3 dO k7, oI z1 27 (cC dO dS k1 k2), dI 54 4 3 dS k2, dI 54 4 3 dO k1] w1) => (haveI := Inv.tab (P := Tryd.prog) hI; refL w1 h.hz h.o h.a h.o h.s k7 k8 k1 k2 (hI.at (k := k7) (List.mem_of_getElem? (i := 6) rfl)) (hI.at (k := k8) (List.mem_of_getElem? (i := 5) rfl)) (hI.at (k := k1) (List.mem_of_getElem? (i := 9) rfl)) (hI.at (k := k2) (List.mem_of_getElem? (i := 8) rfl)) h.r2)
  refine TO.loud rfl (l_call ent13 (CallT.of_pure hk107) rfl ?_)
  clear hk107
  rintro vr O' ⟨N, rfl, wb4, wc4, rfl, rfl⟩
  refine TO.quiet (q_move rfl) (TO.quiet (q_extract (vs := _) rfl rfl) (TO.quiet (q_extract (vs := _) rfl rfl) (TO.quiet (q_extract (vs := _) rfl rfl) ?_)))
  refine TO.quiet (q_assign rfl) (TO.quiet (q_assign rfl) (TO.quiet (q_assign rfl) ?_))
  refine TO.nil (T.seq (T.region ?_))
  refine TO.quiet (q_load_boxAgg 8 Tryd.underlying27 rfl inf27 rfl rfl rfl) (TO.quiet (q_load_boxAgg 2 Tryd.underlying27 rfl inf27 rfl rfl rfl) ?_)
  have hk114 := fun (w1 : World) (hI : Inv w [rowI wb4 wc4 5 1 (byts [1, 1]), rowI wb3 wc3 5 1 (byts []), oI z8 27 (cC dA dS k9 k10), dI 54 4 3 dS k10, dI 54 4 3 dA k9, oI z7 27 (cC dO dA k7 k8), dI 54 4 3 dA k8, dI 54 4 3 dO k7, oI z1 27 (cC dO dS k1 k2), dI 54 4 3 dS k2, dI 54 4 3 dO k1] w1) => (haveI := Inv.tab (P := Tryd.prog) hI; refL w1 h.hz h.o h.s h.a h.s k1 k2 k9 k10 (hI.at (k := k1) (List.mem_of_getElem? (i := 10) rfl)) (hI.at (k := k2) (List.mem_of_getElem? (i := 9) rfl)) (hI.at (k := k9) (List.mem_of_getElem? (i := 4) rfl)) (hI.at (k := k10) (List.mem_of_getElem? (i := 3) rfl)) h.r3)
  refine TO.loud rfl (l_call ent13 (CallT.of_pure hk114) rfl ?_)
  clear hk114
  rintro vr O' ⟨N, rfl, wb5, wc5, rfl, rfl⟩
  refine TO.quiet (q_move rfl) (TO.quiet (q_extract (vs := _) rfl rfl) (TO.quiet (q_extract (vs := _) rfl rfl) (TO.quiet (q_extract (vs := _) rfl rfl) ?_)))
  refine TO.quiet (q_assign rfl) (TO.quiet (q_assign rfl) (TO.quiet (q_assign rfl) ?_))
  refine TO.nil (T.seq (T.seq (T.region ?_)))
  refine TO.quiet (q_move rfl) (TO.quiet (q_move rfl) (TO.quiet (q_move rfl) ?_))
  have hk121 := fun (w1 : World) (hI : Inv w [rowI wb5 wc5 5 1 (byts [0]), rowI wb4 wc4 5 1 (byts [1, 1]), rowI wb3 wc3 5 1 (byts []), oI z8 27 (cC dA dS k9 k10), dI 54 4 3 dS k10, dI 54 4 3 dA k9, oI z7 27 (cC dO dA k7 k8), dI 54 4 3 dA k8, dI 54 4 3 dO k7, oI z1 27 (cC dO dS k1 k2), dI 54 4 3 dS k2, dI 54 4 3 dO k1] w1) => (haveI := Inv.tab (P := Tryd.prog) hI; isC w1 wb3 none wc3 0 [] (hI.slOf (List.mem_of_getElem? (i := 2) rfl)) (Sl.nil _ _) (by decide) true)
  refine TO.loud rfl (l_call ent38 (CallT.of_pure hk121) rfl ?_)
  clear hk121
  rintro vr O' ⟨N, rfl, rfl, rfl⟩
  refine TO.quiet (q_not rfl) (TO.quiet (q_move rfl) ?_)
  refine TO.guarded rfl rfl rfl (LT.of_quiet rfl rfl (q_move rfl) ?_)
  refine TO.guarded rfl rfl rfl (LT.of_quiet rfl rfl (q_move rfl) ?_)
  refine TO.guarded rfl rfl rfl (LT.of_quiet rfl rfl (q_move rfl) ?_)
  refine TO.guarded rfl rfl rfl (l_buildSlice (m := 2) (parts := [(0, .const (.int .u8 1)), (1, .const (.int .u8 1))]) (cs := [.int .u8 1, .int .u8 1]) Tryd.underlying29 inf5 (by decide) (by kernel_rfl) rfl (fun z9 => ?_))
  have hk128 := fun (w1 : World) (hI : Inv w [rowI (some ⟨z9, 0, none⟩) 2 5 1 [.int .u8 1, .int .u8 1], rowI wb5 wc5 5 1 (byts [0]), rowI wb4 wc4 5 1 (byts [1, 1]), rowI wb3 wc3 5 1 (byts []), oI z8 27 (cC dA dS k9 k10), dI 54 4 3 dS k10, dI 54 4 3 dA k9, oI z7 27 (cC dO dA k7 k8), dI 54 4 3 dA k8, dI 54 4 3 dO k7, oI z1 27 (cC dO dS k1 k2), dI 54 4 3 dS k2, dI 54 4 3 dO k1] w1) => (haveI := Inv.tab (P := Tryd.prog) hI; isC w1 wb4 (some ⟨z9, 0, none⟩) wc4 2 [1, 1] (hI.slOf (List.mem_of_getElem? (i := 2) rfl)) (hI.slOf (List.mem_of_getElem? (i := 0) rfl)) (by decide) false)
  refine TO.guarded rfl rfl rfl (l_call ent38 (CallT.of_pure hk128) rfl ?_)
  clear hk128
  rintro vr O' ⟨N, rfl, rfl, rfl⟩
  refine TO.guarded rfl rfl rfl (LT.of_quiet rfl rfl (q_not rfl) ?_)
  refine TO.quiet (q_pick0 rfl rfl) (TO.quiet (q_move rfl) ?_)
  refine TO.guarded rfl rfl rfl (LT.of_quiet rfl rfl (q_move rfl) ?_)
  refine TO.guarded rfl rfl rfl (LT.of_quiet rfl rfl (q_move rfl) ?_)
  refine TO.guarded rfl rfl rfl (LT.of_quiet rfl rfl (q_move rfl) ?_)
  refine TO.guarded rfl rfl rfl (l_build1 (v := .int .u8 0) Tryd.underlying29 inf5 rfl rfl rfl (fun z10 => ?_))
  have hk136 := fun (w1 : World) (hI : Inv w [rowI (some ⟨z10, 0, none⟩) 1 5 1 [.int .u8 0], rowI (some ⟨z9, 0, none⟩) 2 5 1 [.int .u8 1, .int .u8 1], rowI wb5 wc5 5 1 (byts [0]), rowI wb4 wc4 5 1 (byts [1, 1]), rowI wb3 wc3 5 1 (byts []), oI z8 27 (cC dA dS k9 k10), dI 54 4 3 dS k10, dI 54 4 3 dA k9, oI z7 27 (cC dO dA k7 k8), dI 54 4 3 dA k8, dI 54 4 3 dO k7, oI z1 27 (cC dO dS k1 k2), dI 54 4 3 dS k2, dI 54 4 3 dO k1] w1) => (haveI := Inv.tab (P := Tryd.prog) hI; isC w1 wb5 (some ⟨z10, 0, none⟩) wc5 1 [0] (hI.slOf (List.mem_of_getElem? (i := 2) rfl)) (hI.slOf (List.mem_of_getElem? (i := 0) rfl)) (by decide) false)
  refine TO.guarded rfl rfl rfl (l_call ent38 (CallT.of_pure hk136) rfl ?_)
  clear hk136
  rintro vr O' ⟨N, rfl, rfl, rfl⟩
  refine TO.guarded rfl rfl rfl (LT.of_quiet rfl rfl (q_not rfl) ?_)
  refine TO.quiet (q_pick0 rfl rfl) ?_
  refine TO.sub (O' := [oI z8 27 (cC dA dS k9 k10), dI 54 4 3 dS k10, dI 54 4 3 dA k9, oI z1 27 (cC dO dS k1 k2), dI 54 4 3 dS k2, dI 54 4 3 dO k1]) (by exact Sub.d (.d (.d (.d (.d (.k (.k (.k (.d (.d (.d (.k (.k (.k .z)))))))))))))) ?_
  refine TO.nil ?_
  refine T.cond0 rfl ?_
  refine T.skip (T.seq (T.region ?_))
  refine TO.quiet (q_load_boxAgg 3 Tryd.underlying27 rfl inf27 rfl rfl rfl) (TO.quiet (q_load_boxAgg 0 Tryd.underlying27 rfl inf27 rfl rfl rfl) ?_)
  have hk142 := fun (w1 : World) (hI : Inv w [oI z8 27 (cC dA dS k9 k10), dI 54 4 3 dS k10, dI 54 4 3 dA k9, oI z1 27 (cC dO dS k1 k2), dI 54 4 3 dS k2, dI 54 4 3 dO k1] w1) => (haveI := Inv.tab (P := Tryd.prog) hI; meetX w1 h.hz h.o h.s h.a h.s k1 k2 k9 k10 (hI.at (k := k1) (List.mem_of_getElem? (i := 5) rfl)) (hI.at (k := k2) (List.mem_of_getElem? (i := 4) rfl)) (hI.at (k := k9) (List.mem_of_getElem? (i := 2) rfl)) (hI.at (k := k10) (List.mem_of_getElem? (i := 1) rfl)) h.m1 h.m2)
  refine TO.loud rfl (l_call ent20 (CallT.of_pure hk142) rfl ?_)
  clear hk142
  rintro vr O' ⟨N, rfl, k12, k13, rfl, rfl⟩
  refine TO.quiet (q_move rfl) (TO.quiet (q_extract (vs := _) rfl rfl) (TO.quiet (q_extract (vs := _) rfl rfl) ?_))
  refine TO.loud rfl (l_alloc inf27 rfl (fun z11 => ?_))
  refine TO.loud rfl (l_store_box (v := (cV dA mT k12 k13)) (vs := (cC dA mT k12 k13)) 0 inf27 rfl rfl rfl rfl rfl rfl (by simp [putL]) ?_)
  refine TO.quiet (q_assign rfl) ?_
  refine TO.nil (T.seq (T.region ?_))
  refine TO.quiet (q_load_boxAgg 6 Tryd.underlying27 rfl inf27 rfl rfl rfl) (TO.quiet (q_load_boxAgg 6 Tryd.underlying27 rfl inf27 rfl rfl rfl) ?_)
  have hk148 := fun (w1 : World) (hI : Inv w [oI z11 27 (cC dA mT k12 k13), dI 54 4 3 dA k12, dI 54 4 3 mT k13, oI z8 27 (cC dA dS k9 k10), dI 54 4 3 dS k10, dI 54 4 3 dA k9, oI z1 27 (cC dO dS k1 k2), dI 54 4 3 dS k2, dI 54 4 3 dO k1] w1) => (haveI := Inv.tab (P := Tryd.prog) hI; compX w1 h.hz h.o h.s h.o h.s k1 k2 k1 k2 (hI.at (k := k1) (List.mem_of_getElem? (i := 8) rfl)) (hI.at (k := k2) (List.mem_of_getElem? (i := 7) rfl)) (hI.at (k := k1) (List.mem_of_getElem? (i := 8) rfl)) (hI.at (k := k2) (List.mem_of_getElem? (i := 7) rfl)) h.c1 h.c2)
  refine TO.loud rfl (l_call ent16 (CallT.of_pure hk148) rfl ?_)
  clear hk148
  rintro vr O' ⟨N, rfl, k14, k15, rfl, rfl⟩
  refine TO.quiet (q_move rfl) (TO.quiet (q_extract (vs := _) rfl rfl) (TO.quiet (q_extract (vs := _) rfl rfl) ?_))
  refine TO.loud rfl (l_alloc inf27 rfl (fun z12 => ?_))
  refine TO.loud rfl (l_store_box (v := (cV dO mV k14 k15)) (vs := (cC dO mV k14 k15)) 0 inf27 rfl rfl rfl rfl rfl rfl (by simp [putL]) ?_)
  refine TO.quiet (q_assign rfl) ?_
  refine TO.sub (O' := [oI z12 27 (cC dO mV k14 k15), dI 54 4 3 dO k14, dI 54 4 3 mV k15, oI z11 27 (cC dA mT k12 k13), dI 54 4 3 dA k12, dI 54 4 3 mT k13]) (by exact Sub.k (.k (.k (.k (.k (.k .z)))))) ?_
  refine TO.nil (T.seq ?_)
  refine T.draws [oI z12 27 (cC dO mV k14 k15), oI z11 27 (cC dA mT k12 k13)] [(0, 0), (1, 0), (2, 0), (3, 0), (4, 0), (5, 1), (6, 1), (7, 0), (8, 0), (9, 0), (10, 0), (11, 1), (12, 1), (13, 0), (14, 0), (15, 0), (16, 0), (17, 0), (18, 0), (19, 0), (20, 0), (21, 0), (22, 1), (23, 2), (24, 2), (25, 2), (26, 2), (27, 2), (28, 2), (29, 2), (30, 2), (31, 2), (32, 2)] mixed (drawF_ok (by kernel_rfl)) (by exact Sub.k (.d (.d (.k .z)))) (fun _ _ _ h => h) ?_
  refine DO.quiet rfl (q_move rfl) (DO.quiet rfl (QT.toB (q_eql rfl rfl) (decide_eq_true rfl)) (DO.quiet rfl (q_move rfl) ?_))
  refine DO.guarded rfl rfl rfl (q_fieldAddr Tryd.underlying27 rfl inf25 rfl rfl) ?_
  refine DO.guarded rfl rfl rfl (q_load_part 1 (vs := (dC dA k12)) Tryd.underlying25 rfl inf25 rfl rfl rfl rfl) ?_
  have hk156 := fun (w1 : World) (hI : Inv w [oI z12 27 (cC dO mV k14 k15), dI 54 4 3 dO k14, dI 54 4 3 mV k15, oI z11 27 (cC dA mT k12 k13), dI 54 4 3 dA k12, dI 54 4 3 mT k13] w1) => (haveI := Inv.tab (P := Tryd.prog) hI; all1E w1 h.eA)
  refine DO.loudG rfl rfl rfl rfl (l_call ent36 (CallT.of_pure hk156) rfl ?_)
  clear hk156
  rintro vr O' ⟨N, rfl, k16, rfl, rfl⟩
  refine ⟨by exact Sub.d (.k (.d (.d (.k .z)))), ?_⟩
  have hk157 := fun (w1 : World) (hI : Inv w [dI 54 4 3 dA k16, oI z12 27 (cC dO mV k14 k15), dI 54 4 3 dO k14, dI 54 4 3 mV k15, oI z11 27 (cC dA mT k12 k13), dI 54 4 3 dA k12, dI 54 4 3 mT k13] w1) => (haveI := Inv.tab (P := Tryd.prog) hI; equalK w1 dA k12 k16 (hI.at (k := k12) (List.mem_of_getElem? (i := 5) rfl)) (hI.at (k := k16) (List.mem_of_getElem? (i := 0) rfl)) h.a.bds)
  refine DO.loudG rfl rfl rfl rfl (l_call ent37 (CallT.of_pure hk157) rfl ?_)
  clear hk157
  rintro vr O' ⟨N, rfl, rfl, rfl⟩
  refine ⟨by exact Sub.d (.k (.d (.d (.k .z)))), ?_⟩
  refine DO.quiet rfl (q_pick1 rfl rfl) (DO.quiet rfl (q_move rfl) ?_)
  refine DO.guarded rfl rfl rfl (q_fieldAddr Tryd.underlying27 rfl inf25 rfl rfl) ?_
  refine DO.guarded rfl rfl rfl (q_load_part 1 (vs := (dC mT k13)) Tryd.underlying25 rfl inf25 rfl rfl rfl rfl) ?_
  refine DO.loudG rfl rfl rfl rfl (l_buildSlice (m := 2) (parts := [(0, .const (.int .u8 0)), (1, .const (.int .u8 0))]) (cs := [.int .u8 0, .int .u8 0]) Tryd.underlying29 inf5 (by decide) (by kernel_rfl) rfl (fun z13 => ⟨by exact Sub.d (.d (.k (.d (.d (.k .z))))), ?_⟩))
  have hk163 := fun (w1 : World) (hI : Inv w [rowI (some ⟨z13, 0, none⟩) 2 5 1 [.int .u8 0, .int .u8 0], dI 54 4 3 dA k16, oI z12 27 (cC dO mV k14 k15), dI 54 4 3 dO k14, dI 54 4 3 mV k15, oI z11 27 (cC dA mT k12 k13), dI 54 4 3 dA k12, dI 54 4 3 mT k13] w1) => (haveI := Inv.tab (P := Tryd.prog) hI; accF w1 mT k13 (hI.at (k := k13) (List.mem_of_getElem? (i := 7) rfl)) h.bT (some ⟨z13, 0, none⟩) 2 [0, 0] (hI.slOf (List.mem_of_getElem? (i := 0) rfl)) (by decide) (by decide) h.m3)
  refine DO.loudG rfl rfl rfl rfl (l_call ent14 (CallT.of_pure hk163) rfl ?_)
  clear hk163
  rintro vr O' ⟨N, rfl, rfl, rfl⟩
  refine ⟨by exact Sub.d (.d (.k (.d (.d (.k .z))))), ?_⟩
  refine DO.guarded rfl rfl rfl (q_not rfl) ?_
  refine DO.quiet rfl (q_pick1 rfl rfl) (DO.quiet rfl (q_move rfl) ?_)
  refine DO.guarded rfl rfl rfl (q_move rfl) ?_
  refine DO.guarded rfl rfl rfl (QT.toB (q_eql rfl rfl) (decide_eq_true rfl)) ?_
  refine DO.quiet rfl (q_pick1 rfl rfl) (DO.quiet rfl (q_move rfl) ?_)
  refine DO.guarded rfl rfl rfl (q_fieldAddr Tryd.underlying27 rfl inf25 rfl rfl) ?_
  refine DO.guarded rfl rfl rfl (q_load_part 0 (vs := (dC dO k14)) Tryd.underlying25 rfl inf25 rfl rfl rfl rfl) ?_
  have hk173 := fun (w1 : World) (hI : Inv w [rowI (some ⟨z13, 0, none⟩) 2 5 1 [.int .u8 0, .int .u8 0], dI 54 4 3 dA k16, oI z12 27 (cC dO mV k14 k15), dI 54 4 3 dO k14, dI 54 4 3 mV k15, oI z11 27 (cC dA mT k12 k13), dI 54 4 3 dA k12, dI 54 4 3 mT k13] w1) => (haveI := Inv.tab (P := Tryd.prog) hI; onesE w1 h.eO)
  refine DO.loudG rfl rfl rfl rfl (l_call ent34 (CallT.of_pure hk173) rfl ?_)
  clear hk173
  rintro vr O' ⟨N, rfl, k17, rfl, rfl⟩
  refine ⟨by exact Sub.d (.d (.d (.k (.d (.d (.k .z)))))), ?_⟩
  have hk174 := fun (w1 : World) (hI : Inv w [dI 54 4 3 dO k17, rowI (some ⟨z13, 0, none⟩) 2 5 1 [.int .u8 0, .int .u8 0], dI 54 4 3 dA k16, oI z12 27 (cC dO mV k14 k15), dI 54 4 3 dO k14, dI 54 4 3 mV k15, oI z11 27 (cC dA mT k12 k13), dI 54 4 3 dA k12, dI 54 4 3 mT k13] w1) => (haveI := Inv.tab (P := Tryd.prog) hI; equalK w1 dO k14 k17 (hI.at (k := k14) (List.mem_of_getElem? (i := 4) rfl)) (hI.at (k := k17) (List.mem_of_getElem? (i := 0) rfl)) h.o.bds)
  refine DO.lastG rfl rfl rfl rfl (l_call ent37 (CallT.of_pure hk174) rfl ?_)
  clear hk174
  rintro vr O' ⟨N, rfl, rfl, rfl⟩
  refine DO.last rfl rfl (LT.of_quiet rfl rfl (q_pick1 rfl rfl) ?_)
  refine DO.last rfl rfl (LT.of_quiet rfl rfl (q_move rfl) ?_)
  have hk177 := fun (w1 : World) (hI : Inv w [dI 54 4 3 dO k17, rowI (some ⟨z13, 0, none⟩) 2 5 1 [.int .u8 0, .int .u8 0], dI 54 4 3 dA k16, oI z12 27 (cC dO mV k14 k15), dI 54 4 3 dO k14, dI 54 4 3 mV k15, oI z11 27 (cC dA mT k12 k13), dI 54 4 3 dA k12, dI 54 4 3 mT k13] w1) => (haveI := Inv.tab (P := Tryd.prog) hI; all1E w1 h.eA)
  refine DO.lastG rfl rfl rfl rfl (l_call ent36 (CallT.of_pure hk177) rfl ?_)
  clear hk177
  rintro vr O' ⟨N, rfl, k18, rfl, rfl⟩
  have hk178 := fun (w1 : World) (hI : Inv w [dI 54 4 3 dA k18, dI 54 4 3 dO k17, rowI (some ⟨z13, 0, none⟩) 2 5 1 [.int .u8 0, .int .u8 0], dI 54 4 3 dA k16, oI z12 27 (cC dO mV k14 k15), dI 54 4 3 dO k14, dI 54 4 3 mV k15, oI z11 27 (cC dA mT k12 k13), dI 54 4 3 dA k12, dI 54 4 3 mT k13] w1) => (haveI := Inv.tab (P := Tryd.prog) hI; all2E w1 h.eB)
  refine DO.lastG rfl rfl rfl rfl (l_call ent36 (CallT.of_pure hk178) rfl ?_)
  clear hk178
  rintro vr O' ⟨N, rfl, k19, rfl, rfl⟩
  refine DO.lastG rfl rfl rfl rfl (LT.of_quiet rfl rfl (q_build (cs := (cC dA dB k18 k19)) plan27 inf27 (by kernel_rfl)) ?_)
  have hk180 := fun (w1 : World) (hI : Inv w [dI 54 4 3 dB k19, dI 54 4 3 dA k18, dI 54 4 3 dO k17, rowI (some ⟨z13, 0, none⟩) 2 5 1 [.int .u8 0, .int .u8 0], dI 54 4 3 dA k16, oI z12 27 (cC dO mV k14 k15), dI 54 4 3 dO k14, dI 54 4 3 mV k15, oI z11 27 (cC dA mT k12 k13), dI 54 4 3 dA k12, dI 54 4 3 mT k13] w1) => (haveI := Inv.tab (P := Tryd.prog) hI; chk7 w1 dA dB k18 k19 (hI.at (k := k18) (List.mem_of_getElem? (i := 1) rfl)) (hI.at (k := k19) (List.mem_of_getElem? (i := 0) rfl)) h.a.has.valid h.vB h.e7)
  refine DO.lastG rfl rfl rfl rfl (l_call ent27 (CallT.of_pure hk180) rfl ?_)
  clear hk180
  rintro vr O' ⟨N, rfl, rfl, rfl⟩
  refine DO.lastG rfl rfl rfl rfl (LT.of_quiet rfl rfl (QT.toB (q_eql rfl rfl) (decide_eq_true rfl)) ?_)
  refine DO.last rfl rfl (LT.of_quiet rfl rfl (q_pick1 rfl rfl) ?_)
  refine DO.last rfl rfl (LT.of_quiet rfl rfl (q_assign rfl) ?_)
  refine DO.done ?_
  refine T.ret (Res.drop ?_)
  refine Res.one (.bool true) Tryd.results15 rfl ?_
  exact ⟨[], Sub.z, rfl, rfl⟩
end Go.Proofs.YtnpehjpookcfkaaDoor


namespace Go.Lx
open Go.RowKit
set_option linter.unusedVariables false
theorem exists_zn {l : List (DFA × Nat)} (h : ∀ q ∈ l, 1 ≤ q.2 ∧ q.2 ≤ 4096) (hN : (l.map (·.2)).foldr (· * ·) 1 ≤ 4095) : ∃ z, Valid z ∧ z.vars = 1 ∧ z.next.length ≤ 4095 ∧ ∀ q ∈ l, InL z (subD q.1 q.2) (acc (subD q.1 q.2)) := by
  have hv : ∀ d ∈ l.map (fun q => subD q.1 q.2), Valid d ∧ d.vars = 1 := fun d hd => by
    obtain ⟨q, hq, rfl⟩ := List.mem_map.1 hd
    exact ⟨subD_valid q.1 (h q hq).1 (h q hq).2, rfl⟩
  obtain ⟨h1, h2, h3, h4⟩ := zP_ok (v := 1) (by decide) (by decide) (l := l.map fun q => subD q.1 q.2) fun d hd => ⟨(hv d hd).1.toVal, (hv d hd).2⟩
  have hz : (zP 1 (l.map fun q => subD q.1 q.2)).next.length ≤ 4095 := by
    rw [h3]
    refine Nat.le_trans (zN_le (ns := l.map (·.2)) (by simp) fun i hi h2 => ?_) hN
    simp only [List.getElem_map]
    rw [(subD_len _ _).1]
    exact (subM_bd _ (h _ (List.getElem_mem _)).1).2
  refine ⟨_, ⟨h1, Nat.le_trans hz (by decide)⟩, h2, hz, fun q hq => ?_⟩
  have hm : subD q.1 q.2 ∈ l.map fun q => subD q.1 q.2 := List.mem_map.2 ⟨q, hq, rfl⟩
  exact InL.of ⟨h1, Nat.le_trans hz (by decide)⟩ (hv _ hm).1 (by rw [h2, (hv _ hm).2]) (by rw [h3]; exact (h4 _ hm).2) (h4 _ hm).1
abbrev BdA (a : DFA) : Prop := a.next.length < 9223372036854775807 ∧ (∀ r ∈ a.next, r.length < 9223372036854775807) ∧ a.final.length < 9223372036854775807
structure BndX (d a1 g1 a2 g2 a3 g3 z X A G B H C K M N J L : DFA) (px p1 q1 p2 q2 p3 q3 pm qm pj qj : List Nat → Bool) (xm x1 x2 c1 c2 cm j1 j2 jc : Bool) : Prop where
  hz : Valid z
  eX : subD d 4 = X
  eA : subD a1 3 = A
  eG : subD g1 3 = G
  eB : subD a2 3 = B
  eH : subD g2 3 = H
  eC : subD a3 3 = C
  eK : subD g3 3 = K
  x : InL z X px
  a : InL z A p1
  g : InL z G q1
  b : InL z B p2
  h : InL z H q2
  c : InL z C p3
  k : InL z K q3
  eM : opD orB A B = M
  eN : opD andB (satD A G) (satD B H) = N
  eJ : opD andB A B = J
  eL : opD orB (satD A G) (satD B H) = L
  m : InL z M pm
  n : InL z N qm
  j : InL z J pj
  l : InL z L qj
  rm1 : refB z.vars pm qm p1 q1 = true
  rm2 : refB z.vars pm qm p2 q2 = true
  rj1 : refB z.vars p1 q1 pj qj = true
  rj2 : refB z.vars p2 q2 pj qj = true
  exm : impB z.vars px pm qm = xm
  ex1 : impB z.vars px p1 q1 = x1
  ex2 : impB z.vars px p2 q2 = x2
  ecm : refB z.vars p3 q3 pm qm = cm
  ec1 : refB z.vars p3 q3 p1 q1 = c1
  ec2 : refB z.vars p3 q3 p2 q2 = c2
  ejc : refB z.vars pj qj p3 q3 = jc
  ej1 : refB z.vars p1 q1 p3 q3 = j1
  ej2 : refB z.vars p2 q2 p3 q3 = j2
  f1 : xm = (x1 && x2)
  f2 : cm = (c1 && c2)
  f3 : jc = (j1 && j2)
theorem bnd_x (d a1 g1 a2 g2 a3 g3 : DFA) : ∃ (z X A G B H C K M N J L : DFA) (px p1 q1 p2 q2 p3 q3 pm qm pj qj : List Nat → Bool) (xm x1 x2 c1 c2 cm j1 j2 jc : Bool), BndX d a1 g1 a2 g2 a3 g3 z X A G B H C K M N J L px p1 q1 p2 q2 p3 q3 pm qm pj qj xm x1 x2 c1 c2 cm j1 j2 jc := by
  obtain ⟨z, hz, _, zl, h⟩ := exists_zn (l := [(d, 4), (a1, 3), (g1, 3), (a2, 3), (g2, 3), (a3, 3), (g3, 3)]) (by simp) (by simp)
  have hA := h (a1, 3) (by simp)
  have hG := h (g1, 3) (by simp)
  have hB := h (a2, 3) (by simp)
  have hH := h (g2, 3) (by simp)
  exact ⟨z, _, _, _, _, _, _, _, _, _, _, _, _, _, _, _, _, _, _, _, _, _, _, _, _, _, _, _, _, _, _, _, { hz := hz, eX := rfl, eA := rfl, eG := rfl, eB := rfl, eH := rfl, eC := rfl, eK := rfl, x := h (d, 4) (by simp), a := hA, g := hG, b := hB, h := hH, c := h (a3, 3) (by simp), k := h (g3, 3) (by simp), eM := rfl, eN := rfl, eJ := rfl, eL := rfl, m := InL.orI hz hA hB, n := InL.meetG hz hA hG hB hH, j := InL.andI hz hA hB, l := InL.joinG hz hA hG hB hH, rm1 := meet_ref1, rm2 := meet_ref2, rj1 := join_ref1, rj2 := join_ref2, exm := rfl, ex1 := rfl, ex2 := rfl, ecm := rfl, ec1 := rfl, ec2 := rfl, ejc := rfl, ej1 := rfl, ej2 := rfl, f1 := meet_imp, f2 := meet_max, f3 := join_min }⟩
end Go.Lx


namespace Go.Lx
theorem T.reset {P : Program} {r : Option Nat} {base : World} {n : Nat} {c : Code} {Q : Post} {ρ : Env} {O : List Item} (O' : List Item) (L : List (Nat × Value)) (e : O = O') (h : Heads L ρ) (k : ∀ ρ0, T P r base n c Q (heads L ρ0) O') : T P r base n c Q ρ O := by
  obtain ⟨ρ0, rfl⟩ := h.elim
  subst e
  exact k ρ0
theorem Rnd.reset {P : Program} {r : Option Nat} {base : World} {n m : Nat} {c : Code} {Q : Post} {ρ : Env} {O : List Item} (O' : List Item) (L : List (Nat × Value)) (e : O = O') (h : Heads L ρ) (k : ∀ ρ0, Rnd P r base n c Q m (heads L ρ0) O') : Rnd P r base n c Q m ρ O := by
  obtain ⟨ρ0, rfl⟩ := h.elim
  subst e
  exact k ρ0
end Go.Lx


namespace Go.Lx
open Go.RowKit Go.ChangeShapes Go.WideShapes Go.Deep
set_option linter.unusedVariables false
section
variable {H : Type} {enc : TypeId × Value → H} {P : Program}
theorem TrodAll_stays (hl : laidOutB P = true) {W W' : World} {sp' : Nat → Bool} : ∀ {ts : List TypeId} {vs : List Value} {ds : List (DataW H)} {ps : List MemPlace},
    (∀ t ∈ ts, P.readableRec t = true ∧ t < P.types.size) → DataW.TrodAll enc P W 0 (fun _ => true) true ts vs ds ps → (∀ p ∈ ps, W.sameAt W' p) → (∀ p ∈ ps, sp' p.block = true) → DataW.TrodAll enc P W' 0 sp' true ts vs ds ps
  | [], _, _, _, _, h, _, _ => by
    obtain ⟨rfl, rfl, rfl⟩ := trodAll_nil h
    rfl
  | t :: ts, _, _, _, hr, h, hs, hsp => by
    obtain ⟨v, vs1, d, ds1, p, q, rfl, rfl, rfl, h1, h2⟩ := trodAll_cons h
    have ht := hr t (by simp)
    exact ⟨p, q, WideElems.Trod_stays hl ht.1 ht.2 h1 (fun x hx => hs x (List.mem_append_left _ hx)) (fun x hx => hsp x (List.mem_append_left _ hx)),
      TrodAll_stays hl (fun t ht => hr t (by simp [ht])) h2 (fun x hx => hs x (List.mem_append_right _ hx)) (fun x hx => hsp x (List.mem_append_right _ hx)), rfl⟩
theorem post_law {f : Func} {s : ChangeSpec} {W W' : World} {args : Array Value} {ds gs : List (DataW H)} {before : List MemPlace} {tb : TypeId}
    (hl : laidOutB P = true) (hr : ∀ t ∈ f.params.toList, P.readableRec t = true ∧ t < P.types.size) (hres : f.resultTypes = #[tb]) (hb : P.underlying tb = some .bool) (hv : s.vars = [])
    (hW : DataW.Whole enc P f.params.toList s.vars false W args.toList ds gs before)
    (h1 : (s.fn H ds).results = [.lit (.bool true)]) (h2 : (s.fn H ds).args = ds) (h3 : (s.fn H ds).vars = [])
    (hB : Below W.heap.size W W') : s.post enc P f false true false false W args (.bool true) W' := by
  have hW0 := hW
  obtain ⟨p, q, hA, hV, rfl, hz, hn⟩ := hW
  rw [hv] at hV
  obtain ⟨rfl, rfl⟩ := trodVars_none hV
  simp only [List.append_nil] at hW0 hz hn
  have hlt := hW0.lt
  have hsame : ∀ x ∈ p, W.sameAt W' x := fun x hx => hB.same (hlt x hx)
  have hargs : ∀ sp : Nat → Bool, (∀ x ∈ p, sp x.block = true) → DataW.TrodAll enc P W' 0 sp true f.params.toList args.toList (s.fn H (ds ++ [])).args p := fun sp hsp => by
    rw [List.append_nil, h2]
    exact TrodAll_stays hl hr hA hsame hsp
  have hvars : ∀ sp : Nat → Bool, DataW.TrodVars enc P W' sp s.vars (s.fn H (ds ++ [])).vars [] := fun sp => by
    rw [List.append_nil, hv, h3]; rfl
  have hresult : ∀ (b : Nat) (sp : Nat → Bool) (hd : Bool), DataW.TrodAll enc P W' b sp hd f.resultTypes.toList ((Value.bool true).resultList f.resultTypes.size) (s.fn H (ds ++ [])).results [] := fun b sp hd => by
    rw [List.append_nil, h1, hres]
    exact trodAll_cons_mk (shut_bool hb _) trodAll_mk0
  have hold : ∀ x ∈ p, (fun b => decide (b < W.heap.size)) x.block = true := fun x hx => by simpa using hlt x hx
  refine ⟨ds, [], p, [], p, [], hW0, hresult _ _ _, hargs _ hold, hvars _, World.keptBut_mono (fun x hx => ⟨hx, ?_⟩) (hB.frame _), fun _ => ?_⟩
  · exact Or.inr (by simpa using hx)
  · refine ⟨ok_one hres rfl (okWide_bool_mk hb _), _, _, ([] ++ p) ++ [], ⟨[] ++ p, [], trodAll_append (hargs _ (fun _ _ => rfl)) (hresult _ _ _), hvars _, rfl, ?_, ?_⟩, ?_⟩
    · intro b off hx
      have hx' : MemPlace.cell b off ∈ p := by simpa using hx
      rw [hB.frozen (p := ⟨b, off, none⟩) (hlt _ hx')]
      exact hz b off hx'
    · intro ha; cases ha
    · intro x hx _
      simpa using hx
theorem spotNone {w : World} {a : Addr} {v : Value} (h : w.cell? a = some v) : a.spot = none := by
  unfold World.cell? at h
  cases e : a.spot with
  | none => rfl
  | some x => rw [e] at h; split at h <;> simp at h
theorem Sl.ofCells {w : World} {a : Addr} {cs : List Value} (h : ∀ i (hi : i < cs.length), w.cell? (a.add i) = some cs[i]) : Sl w (some a) cs := fun i hi => by
  have h0 := h 0 (by omega)
  have h1 := h i hi
  have h2 : a.spot = none := spotNone (a := a) (by simpa [Addr.add] using h0)
  refine ⟨a, rfl, h2, ?_⟩
  have e : a.add i = ⟨a.block, a.off + i, none⟩ := by
    unfold Addr.add
    split
    · rename_i h; subst h
      cases a with
      | mk b o s => simp at h2; subst h2; rfl
    · rfl
  rw [← e]; exact h1
structure DfaIn (P : Program) (W : World) (v : Value) (d : DFA) (nb fb : Option Addr) (nc fc : Nat) (vs : List Value) : Prop where
  val : v = .agg (dfaCells d nb nc fb fc).toArray
  at_ : DfaAt W d nb vs fb
  n : d.next.length ≤ reachBytes
  r : ∀ r ∈ d.next, r.length ≤ reachBytes
  f : d.final.length ≤ reachBytes
theorem weights_all (e : TypeId) : ∀ {l : List (DataW H)} {d : DataW H}, d ∈ l → ∀ m ∈ d.weights P e, m ∈ DataW.weightsAll P e l
  | [], _, h, _, _ => by cases h
  | x :: l, d, h, m, hm => by
    rw [DataW.weightsAll, List.mem_append]
    rcases List.mem_cons.1 h with rfl | h
    · exact .inl hm
    · exact .inr (weights_all e h m hm)
theorem slice_bound {t e : TypeId} {elems spare : List (DataW H)} (ht : P.underlying t = some (.slice e)) (he : 0 < P.bytesOf e) (h : ∀ m ∈ (DataW.slice elems spare).weights P t, m ≤ reachBytes) :
    elems.length ≤ reachBytes ∧ ∀ d ∈ elems, ∀ m ∈ d.weights P e, m ≤ reachBytes := by
  have hw : (DataW.slice elems spare).weights P t = (elems.length + spare.length) * P.bytesOf e :: (DataW.weightsAll P e elems ++ DataW.weightsAll P e spare) := by
    rw [DataW.weights, ht]
  rw [hw] at h
  refine ⟨?_, fun d hd m hm => h m (List.mem_cons_of_mem _ (List.mem_append_left _ (weights_all e hd m hm)))⟩
  have h1 := h _ List.mem_cons_self
  have h2 := Nat.mul_le_mul_left (elems.length + spare.length) (show 1 ≤ P.bytesOf e from he)
  omega
theorem intsOf {w : World} {A : Option Addr} {L C : Nat} {Z : List Int} (hL : L ≤ C) (hZ : Z.length = C) (h0 : A = none → C = 0) (h : ∀ a', A = some a' → 0 ≤ a'.block ∧ ∀ c, c < C → w.cell? (a'.add c) = some (.int .i64 (Z.getD c 0))) :
    (Z.take L).length = L ∧ Sl w A (ints (Z.take L)) := by
  have hl : (Z.take L).length = L := by rw [List.length_take]; omega
  refine ⟨hl, ?_⟩
  cases A with
  | none =>
    have := h0 rfl
    have : Z.take L = [] := List.eq_nil_of_length_eq_zero (by omega)
    rw [this]; exact Sl.nil _ _
  | some a =>
    refine Sl.ofCells fun i hi => ?_
    have hi' : i < L := by rw [List.length_map, hl] at hi; exact hi
    have hiz : i < Z.length := by omega
    rw [(h a rfl).2 i (by omega), List.getElem_map, List.getElem_take]
    simp [hiz]
theorem open_dfa {t ti tn tr tf tb : TypeId} {f0 f1 f2 f3 : Field} {W : World} {v : Value} {d : DataW H} {p : List MemPlace}
    (ht : P.underlying t = some (.struct #[f0, f1, f2, f3])) (hc : P.cellsOf t = 4) (h0 : f0.type = ti) (h1 : f1.type = ti) (h2 : f2.type = tn) (h3 : f3.type = tf) (o0 : f0.offset = 0) (o1 : f1.offset = 1) (o2 : f2.offset = 2) (o3 : f3.offset = 3)
    (hi : P.underlying ti = some (.int .i64)) (hn : P.underlying tn = some (.slice tr)) (hrow : P.underlying tr = some (.slice ti)) (hf : P.underlying tf = some (.slice tb)) (hb : P.underlying tb = some .bool)
    (ci : P.cellsOf ti = 1) (cn : P.cellsOf tn = 1) (cr : P.cellsOf tr = 1) (cf : P.cellsOf tf = 1) (cb : P.cellsOf tb = 1) (br : 0 < P.bytesOf tr) (bi : 0 < P.bytesOf ti) (bb : 0 < P.bytesOf tb) (hw : ∀ m ∈ d.weights P t, m ≤ reachBytes)
    (h : DataW.Trod enc P W 0 (fun _ => true) true t v d p) : ∃ D nb fb nc fc vs, DfaIn P W v D nb fb nc fc vs := by
  obtain ⟨fuel, hT⟩ := h
  obtain ⟨xs, n, rfl, hx, hlen, hxl, hfs⟩ := DataW.trod_struct ht hT
  rw [hc] at hlen
  obtain ⟨c0, c1, c2, c3, hcs⟩ : ∃ c0 c1 c2 c3, v.cells.toList = [c0, c1, c2, c3] := by
    match hh : v.cells.toList, hlen with
    | [a, b, c, e], _ => exact ⟨a, b, c, e, rfl⟩
  have hv : v = .agg #[c0, c1, c2, c3] := by
    have hsz : v.cells.size = 4 := by rw [← Array.length_toList, hcs]; rfl
    cases v with
    | agg cs =>
      have : cs.toList = [c0, c1, c2, c3] := hcs
      rw [← Array.toArray_toList (xs := cs), this]
    | _ => simp [Value.cells] at hsz
  rw [hcs] at hfs
  obtain ⟨x0, x1, x2, x3, rfl⟩ : ∃ a b c e, xs = [a, b, c, e] := by
    match xs, hxl with
    | [a, b, c, e], _ => exact ⟨a, b, c, e, rfl⟩
  have g0 := hfs 0 f0 rfl
  have g1 := hfs 1 f1 rfl
  have g2 := hfs 2 f2 rfl
  have g3 := hfs 3 f3 rfl
  rw [h0, o0, ci] at g0
  rw [h1, o1, ci] at g1
  rw [h2, o2, cn] at g2
  rw [h3, o3, cf] at g3
  have hd : d = .agg [x0.1, x1.1, x2.1, x3.1] := congrArg Prod.fst hx
  have hwe : d.weights P t = DataW.weightsEach P [ti, ti, tn, tf] [x0.1, x1.1, x2.1, x3.1] := by
    rw [hd, DataW.weights, ht]
    simp [h0, h1, h2, h3]
  rw [hwe] at hw
  have hw2 : ∀ m ∈ x2.1.weights P tn, m ≤ reachBytes := fun m hm => hw m (DataW.weights_mem_each (j := 2) rfl rfl m hm)
  have hw3 : ∀ m ∈ x3.1.weights P tf, m ≤ reachBytes := fun m hm => hw m (DataW.weights_mem_each (j := 3) rfl rfl m hm)
  obtain ⟨n0, e0, _, _⟩ := DataW.trod_int hi g0
  obtain ⟨n1, e1, _, _⟩ := DataW.trod_int hi g1
  have e0' : c0 = .int .i64 n0 := by simpa using e0
  have e1' : c1 = .int .i64 n1 := by simpa using e1
  subst e0' e1'
  obtain ⟨nb, nc, rows, vs, e2, hnl, hvl, hout, hrows⟩ : ∃ (nb : Option Addr) (nc : Nat) (rows : List (List Int)) (vs : List Value), c2 = .slice nb rows.length nc ∧ rows.length ≤ reachBytes ∧ (∀ r ∈ rows, r.length ≤ reachBytes) ∧ Sl W nb vs ∧ RowsR W vs rows := by
    rcases open_int_rows hn hrow hi cr ci g2 with ⟨hcs2, _⟩ | ⟨a, len, cap, A, L, C, Z, hcs2, _, hlc, hcm, hx2, hall⟩
    · exact ⟨none, 0, [], [], by simpa using hcs2, Nat.zero_le _, fun r hr => (List.not_mem_nil hr).elim, Sl.nil _ _, rfl, fun i r hr => by simp at hr⟩
    · rw [congrArg Prod.fst hx2] at hw2
      obtain ⟨hwl, hwr⟩ := slice_bound hn br hw2
      have hwl' : len ≤ reachBytes := by simpa using hwl
      have hwrow : ∀ r, r < len → L r ≤ reachBytes := fun r hr => by
        obtain ⟨_, a2, _, a4, _, a6, _⟩ := hall r (by omega)
        have hm := hwr _ (List.mem_map.2 ⟨r, List.mem_range.2 hr, rfl⟩)
        cases hA : A r with
        | none => have := a6 hA; omega
        | some b =>
          rw [hA] at hm
          have := (slice_bound hrow bi hm).1
          simp [lits] at this
          omega
      have hrl : ∀ r, r < len → ((Z r).take (L r)).length = L r ∧ Sl W (A r) (ints ((Z r).take (L r))) := fun r hr => by
        obtain ⟨_, a2, a3, a4, _, a6, a7⟩ := hall r (by omega)
        exact intsOf a2 a4 a6 a7
      refine ⟨some a, cap, (List.range len).map fun r => (Z r).take (L r), (List.range len).map fun r => .slice (A r) (L r) (C r), by simpa using hcs2, by simp; omega, ?_, ?_, by simp, ?_⟩
      · intro r hr
        obtain ⟨j, hj, rfl⟩ := List.mem_map.1 hr
        have hj' := List.mem_range.1 hj
        rw [(hrl j hj').1]; exact hwrow j hj'
      · refine Sl.ofCells fun i hi9 => ?_
        have hi' : i < len := by simpa using hi9
        rw [(hall i (by omega)).1]; simp
      · intro i r hr
        have hi' : i < len := by
          have := (List.getElem?_eq_some_iff.1 hr).1
          simpa using this
        have er : r = (Z i).take (L i) := by
          rw [List.getElem?_map, List.getElem?_range hi'] at hr
          exact (Option.some.inj hr).symm
        subst er
        refine ⟨A i, C i, ?_, (hrl i hi').2⟩
        rw [List.getElem?_map, List.getElem?_range hi', (hrl i hi').1]; rfl
  obtain ⟨fb, fc, fin, e3, hfl, hfin⟩ : ∃ (fb : Option Addr) (fc : Nat) (fin : List Bool), c3 = .slice fb fin.length fc ∧ fin.length ≤ reachBytes ∧ Sl W fb (bools fin) := by
    rcases open_bools hf hb cb g3 with ⟨hcs3, _⟩ | ⟨a, len, cap, B, hcs3, _, hlc, hcm, hx3, hall⟩
    · exact ⟨none, 0, [], by simpa using hcs3, Nat.zero_le _, Sl.nil _ _⟩
    · rw [congrArg Prod.fst hx3] at hw3
      have hwl := (slice_bound hf bb hw3).1
      have hwl' : len ≤ reachBytes := by simpa using hwl
      refine ⟨some a, cap, (List.range len).map B, by simpa using hcs3, by simp; omega, Sl.ofCells fun i hi9 => ?_⟩
      have hi' : i < len := by simpa using hi9
      rw [hall i (by omega)]; simp
  exact ⟨⟨n0, n1, rows, fin⟩, nb, fb, nc, fc, vs, by rw [hv, e2, e3], ⟨hout, hrows, hfin⟩, hnl, hvl, hfl⟩
theorem lt63 {n : Nat} (h : n ≤ reachBytes) : n < 9223372036854775807 := Nat.lt_of_le_of_lt h (by decide)
end
end Go.Lx


namespace Go.Proofs.YtnpehjpookcfkaaDoor
open Go.ChangeShapes Go.WideShapes Go.ChangeAt Go.RowKit Go.Lx
set_option maxRecDepth 100000
theorem own : ownKnob Tryd.prog.godebug = none := by kernel_rfl
theorem laidOut : laidOutB Tryd.prog = true := by kernel_rfl
theorem reads25 : Tryd.prog.readableRec 25 = true := by kernel_rfl
theorem lt25 : 25 < Tryd.prog.types.size := of_decide_eq_true (by kernel_rfl)
theorem cells_a : Tryd.prog.cellsOf 25 = 4 := by kernel_rfl
theorem cells_b : Tryd.prog.cellsOf 3 = 1 := by kernel_rfl
theorem cells_c : Tryd.prog.cellsOf 22 = 1 := by kernel_rfl
theorem cells_d : Tryd.prog.cellsOf 54 = 1 := by kernel_rfl
theorem cells_e : Tryd.prog.cellsOf 23 = 1 := by kernel_rfl
theorem cells_f : Tryd.prog.cellsOf 4 = 1 := by kernel_rfl
theorem bytes_a : 0 < Tryd.prog.bytesOf 54 := of_decide_eq_true (by kernel_rfl)
theorem bytes_b : 0 < Tryd.prog.bytesOf 3 := of_decide_eq_true (by kernel_rfl)
theorem bytes_c : 0 < Tryd.prog.bytesOf 4 := of_decide_eq_true (by kernel_rfl)
theorem openD {H : Type} {enc : TypeId × Value → H} {W : World} {v : Value} {d : DataW H} {p : List MemPlace} (hw : ∀ m ∈ d.weights Tryd.prog 25, m ≤ reachBytes) (h : DataW.Trod enc Tryd.prog W 0 (fun _ => true) true 25 v d p) : ∃ D nb fb nc fc vs, DfaIn Tryd.prog W v D nb fb nc fc vs :=
  open_dfa Tryd.underlying25 cells_a rfl rfl rfl rfl rfl rfl rfl rfl Tryd.underlying3 Tryd.underlying22 Tryd.underlying54 Tryd.underlying23 Tryd.underlying4 cells_b cells_c cells_d cells_e cells_f bytes_a bytes_b bytes_c hw h
def fillO (cs : Array Value) : Obj → Obj
  | .cells _ t frozen => .cells cs t frozen
  | o => o
noncomputable def laidWorld (os : Os) : World :=
  { World.holding Tryd.prog os ⟨#[], #[], []⟩ with heap := ((((World.holding Tryd.prog os ⟨#[], #[], []⟩).heap.modify 0 (fillO #[.int .u64 1, .int .u64 10, .int .u64 100, .int .u64 1000, .int .u64 10000, .int .u64 100000, .int .u64 1000000, .int .u64 10000000, .int .u64 100000000, .int .u64 1000000000, .int .u64 10000000000, .int .u64 100000000000, .int .u64 1000000000000, .int .u64 10000000000000, .int .u64 100000000000000, .int .u64 1000000000000000, .int .u64 10000000000000000, .int .u64 100000000000000000, .int .u64 1000000000000000000, .int .u64 10000000000000000000])).modify 1 (fillO #[.int .u8 0, .int .u8 1, .int .u8 28, .int .u8 2, .int .u8 29, .int .u8 14, .int .u8 24, .int .u8 3, .int .u8 30, .int .u8 22, .int .u8 20, .int .u8 15, .int .u8 25, .int .u8 17, .int .u8 4, .int .u8 8, .int .u8 31, .int .u8 27, .int .u8 13, .int .u8 23, .int .u8 21, .int .u8 19, .int .u8 16, .int .u8 7, .int .u8 26, .int .u8 12, .int .u8 18, .int .u8 6, .int .u8 11, .int .u8 5, .int .u8 10, .int .u8 9])).modify 2 (fillO #[.int .u8 0, .int .u8 1, .int .u8 56, .int .u8 2, .int .u8 57, .int .u8 49, .int .u8 28, .int .u8 3, .int .u8 61, .int .u8 58, .int .u8 42, .int .u8 50, .int .u8 38, .int .u8 29, .int .u8 17, .int .u8 4, .int .u8 62, .int .u8 47, .int .u8 59, .int .u8 36, .int .u8 45, .int .u8 43, .int .u8 51, .int .u8 22, .int .u8 53, .int .u8 39, .int .u8 33, .int .u8 30, .int .u8 24, .int .u8 18, .int .u8 12, .int .u8 5, .int .u8 63, .int .u8 55, .int .u8 48, .int .u8 27, .int .u8 60, .int .u8 41, .int .u8 37, .int .u8 16, .int .u8 46, .int .u8 35, .int .u8 44, .int .u8 21, .int .u8 52, .int .u8 32, .int .u8 23, .int .u8 11, .int .u8 54, .int .u8 26, .int .u8 40, .int .u8 15, .int .u8 34, .int .u8 20, .int .u8 31, .int .u8 10, .int .u8 25, .int .u8 14, .int .u8 19, .int .u8 9, .int .u8 13, .int .u8 8, .int .u8 7, .int .u8 6])) }
theorem tabOf {W : World} (hL : laidMetH Tryd.prog [("math/bits.deBruijn32tab", Rows.laid_math_bits_deBruijn32tab), ("math/bits.deBruijn64tab", Rows.laid_math_bits_deBruijn64tab), ("internal/strconv.uint64pow10", Rows.laid_internal_strconv_uint64pow10)] W) : Tab Tryd.prog W := by
  have h : laidMet Tryd.prog [("math/bits.deBruijn32tab", Rows.laid_math_bits_deBruijn32tab), ("math/bits.deBruijn64tab", Rows.laid_math_bits_deBruijn64tab), ("internal/strconv.uint64pow10", Rows.laid_internal_strconv_uint64pow10)] W := hL
  obtain ⟨ps, h, _⟩ := h
  obtain ⟨_, h⟩ := laidVars_tail h
  obtain ⟨_, h⟩ := laidVars_tail h
  exact Tab.of (tabIs_of_vars (g := 0) (t := 145) (e := 137) (n := 20) (by kernel_rfl) (by kernel_rfl) (by kernel_rfl) Tryd.underlying145 Tryd.underlying137 (by kernel_rfl) (by kernel_rfl) h)
end Go.Proofs.YtnpehjpookcfkaaDoor


namespace Go.Lx
open Go.RowKit Go.ChangeShapes Go.WideShapes Go.Deep
set_option linter.unusedVariables false
section
variable {H : Type} {enc : TypeId × Value → H} {P : Program}
theorem open_two {t tD : TypeId} {f0 f1 : Field} {W : World} {cs : List Value} {fuel : Nat} {x : DataW H × List MemPlace} {k : Nat}
    (ht : P.underlying t = some (.struct #[f0, f1])) (hc : P.cellsOf t = k + k) (hk : P.cellsOf tD = k) (h0 : f0.type = tD) (h1 : f1.type = tD) (o0 : f0.offset = 0) (o1 : f1.offset = k) (hw : ∀ m ∈ x.1.weights P t, m ≤ reachBytes)
    (h : DataW.trod enc P W 0 (fun _ => true) true fuel t cs = some x) :
    ∃ (l0 l1 : List Value) (d0 d1 : DataW H) (p0 p1 : List MemPlace), cs = l0 ++ l1 ∧ DataW.Trod enc P W 0 (fun _ => true) true tD (.agg l0.toArray) d0 p0 ∧ DataW.Trod enc P W 0 (fun _ => true) true tD (.agg l1.toArray) d1 p1 ∧ (∀ m ∈ d0.weights P tD, m ≤ reachBytes) ∧ (∀ m ∈ d1.weights P tD, m ≤ reachBytes) := by
  obtain ⟨xs, n, rfl, hx, hlen, hxl, hfs⟩ := DataW.trod_struct ht h
  rw [hc] at hlen
  obtain ⟨x0, x1, rfl⟩ : ∃ a b, xs = [a, b] := by
    match xs, hxl with
    | [a, b], _ => exact ⟨a, b, rfl⟩
  have g0 := hfs 0 f0 rfl
  have g1 := hfs 1 f1 rfl
  rw [h0, o0, hk] at g0
  rw [h1, o1, hk] at g1
  subst hx
  have hwe : (DataW.agg ([x0, x1].map (·.1))).weights P t = DataW.weightsEach P [tD, tD] [x0.1, x1.1] := by
    rw [DataW.weights, ht]
    simp [h0, h1]
  rw [hwe] at hw
  have e0 : (cs.drop 0).take k = cs.take k := rfl
  have e1 : (cs.drop k).take k = cs.drop k := List.take_of_length_le (by rw [List.length_drop]; omega)
  refine ⟨cs.take k, cs.drop k, x0.1, x1.1, x0.2, x1.2, (List.take_append_drop k cs).symm, ⟨n, ?_⟩, ⟨n, ?_⟩, fun m hm => hw m (DataW.weights_mem_each (j := 0) rfl rfl m hm), fun m hm => hw m (DataW.weights_mem_each (j := 1) rfl rfl m hm)⟩
  · show DataW.trod enc P W 0 (fun _ => true) true n tD (cs.take k) = some (x0.1, x0.2)
    rw [← e0]; exact g0
  · show DataW.trod enc P W 0 (fun _ => true) true n tD (cs.drop k) = some (x1.1, x1.2)
    rw [← e1]; exact g1
theorem open_arr {t e : TypeId} {n k : Nat} {W : World} {v : Value} {d : DataW H} {p : List MemPlace}
    (ht : P.underlying t = some (.array n e)) (hc : P.cellsOf t = n * k) (hk : P.cellsOf e = k) (hw : ∀ m ∈ d.weights P t, m ≤ reachBytes)
    (h : DataW.Trod enc P W 0 (fun _ => true) true t v d p) :
    v.cells.toList.length = n * k ∧ ∀ i, i < n → ∃ (fuel : Nat) (x : DataW H × List MemPlace), DataW.trod enc P W 0 (fun _ => true) true fuel e ((v.cells.toList.drop (i * k)).take k) = some x ∧ ∀ m ∈ x.1.weights P e, m ≤ reachBytes := by
  obtain ⟨fuel, hT⟩ := h
  obtain ⟨xs, m, rfl, hx, hlen, hxl, hfs⟩ := DataW.trod_array ht hT
  refine ⟨by rw [hlen, hc], fun i hi => ?_⟩
  have g := hfs i hi
  rw [hk, List.getElem?_eq_getElem (by omega)] at g
  refine ⟨m, xs[i]'(by omega), g, ?_⟩
  have hd : d = .agg (xs.map (·.1)) := congrArg Prod.fst hx
  intro y hy
  refine hw y ?_
  rw [hd, DataW.weights, ht]
  exact weights_all e (List.mem_map_of_mem (List.getElem_mem _)) y hy
end
end Go.Lx
namespace Go.Lx
theorem agg_of {v : Value} {l : List Value} (h : v.cells.toList = l) (h2 : l.length ≠ 1) : v = .agg l.toArray := by
  have hsz : v.cells.size = l.length := by rw [← Array.length_toList, h]
  cases v with
  | agg cs =>
    have : cs.toList = l := h
    rw [← Array.toArray_toList (xs := cs), this]
  | _ => simp [Value.cells] at hsz; omega
theorem split3 {cs : List Value} {k : Nat} (h : cs.length = 3 * k) : cs = (cs.drop (0 * k)).take k ++ ((cs.drop (1 * k)).take k ++ (cs.drop (2 * k)).take k) := by
  have e1 : (cs.drop (2 * k)).take k = (cs.drop k).drop k := by rw [List.drop_drop, Nat.two_mul]; exact List.take_of_length_le (by rw [List.length_drop]; omega)
  rw [e1, Nat.zero_mul, List.drop_zero, Nat.one_mul, List.take_append_drop, List.take_append_drop]
end Go.Lx


namespace Go.Proofs.YtnpehjpookcfkaaDoor
open Go.ChangeShapes Go.WideShapes Go.ChangeAt Go.RowKit Go.Lx
set_option maxRecDepth 100000
theorem cells_C : Tryd.prog.cellsOf 27 = 4 + 4 := by kernel_rfl
abbrev Bnd (a : DFA) : Prop := a.next.length < 9223372036854775807 ∧ (∀ r ∈ a.next, r.length < 9223372036854775807) ∧ a.final.length < 9223372036854775807
structure ConIn (W : World) (a g : DFA) (j k : DK) : Prop where
  at1 : At W a j
  at2 : At W g k
  b1 : Bnd a
  b2 : Bnd g
theorem DfaIn.dk {W : World} {v : Value} {d : DFA} {nb fb : Option Addr} {nc fc : Nat} {vs : List Value} (h : DfaIn Tryd.prog W v d nb fb nc fc vs) : ∃ j : DK, v = .agg (dC d j).toArray ∧ At W d j ∧ Bnd d := by
  obtain ⟨j, g, e⟩ := h.at_.dk nc fc
  exact ⟨j, by rw [h.val, e], g, lt63 h.n, fun r hr => lt63 (h.r r hr), lt63 h.f⟩
section
variable {H : Type} {enc : TypeId × Value → H} {W : World}
theorem openCC {cs : List Value} {fuel : Nat} {x : DataW H × List MemPlace} (hw : ∀ m ∈ x.1.weights Tryd.prog 27, m ≤ reachBytes) (h : DataW.trod enc Tryd.prog W 0 (fun _ => true) true fuel 27 cs = some x) : ∃ (a g : DFA) (j k : DK), cs = cC a g j k ∧ ConIn W a g j k := by
  obtain ⟨l0, l1, d0, d1, p0, p1, rfl, t0, t1, w0, w1⟩ := open_two Tryd.underlying27 cells_C cells_a rfl rfl rfl rfl hw h
  obtain ⟨D0, nb0, fb0, nc0, fc0, vs0, h0⟩ := openD w0 t0
  obtain ⟨D1, nb1, fb1, nc1, fc1, vs1, h1⟩ := openD w1 t1
  obtain ⟨j0, e0, a0, b0⟩ := DfaIn.dk h0
  obtain ⟨j1, e1, a1, b1⟩ := DfaIn.dk h1
  have f0 : l0 = dC D0 j0 := by simpa using e0
  have f1 : l1 = dC D1 j1 := by simpa using e1
  subst f0 f1
  exact ⟨D0, D1, j0, j1, rfl, a0, a1, b0, b1⟩
theorem openA3C {v : Value} {d : DataW H} {p : List MemPlace} (hw : ∀ m ∈ d.weights Tryd.prog 40, m ≤ reachBytes) (h : DataW.Trod enc Tryd.prog W 0 (fun _ => true) true 40 v d p) : ∃ (a g : DFA) (j k : DK) (a2 g2 : DFA) (j2 k2 : DK) (a3 g3 : DFA) (j3 k3 : DK), v = .agg (cC a g j k ++ (cC a2 g2 j2 k2 ++ cC a3 g3 j3 k3)).toArray ∧ ConIn W a g j k ∧ ConIn W a2 g2 j2 k2 ∧ ConIn W a3 g3 j3 k3 := by
  obtain ⟨hl, hh⟩ := open_arr Tryd.underlying40 (show Tryd.prog.cellsOf 40 = 3 * 8 by kernel_rfl) cells_C hw h
  obtain ⟨f0, x0, t0, w0⟩ := hh 0 (by decide)
  obtain ⟨f1, x1, t1, w1⟩ := hh 1 (by decide)
  obtain ⟨f2, x2, t2, w2⟩ := hh 2 (by decide)
  obtain ⟨a, g, j, k, e, hc⟩ := openCC w0 t0
  obtain ⟨a2, g2, j2, k2, e2, hc2⟩ := openCC w1 t1
  obtain ⟨a3, g3, j3, k3, e3, hc3⟩ := openCC w2 t2
  exact ⟨a, g, j, k, a2, g2, j2, k2, a3, g3, j3, k3, agg_of ((split3 hl).trans (by rw [e, e2, e3])) (show (24 : Nat) ≠ 1 by decide), hc, hc2, hc3⟩
theorem reads_A3C : Tryd.prog.readableRec 40 = true := by kernel_rfl
theorem lt_A3C : 40 < Tryd.prog.types.size := of_decide_eq_true (by kernel_rfl)
end
end Go.Proofs.YtnpehjpookcfkaaDoor

