/- Contracts of functions of the program (LawC): what each call answers and that it leaves memory as it was. Conditions: those each theorem names. -/
import Derived.Test.YthfemndklplpbaaDoorAwk
import Derived.Test.YthfemndklplpbaaDoorRun
import Derived.Test.YthfemndklplpbaaDoorCan
set_option linter.unusedSectionVars false
set_option linter.unusedSimpArgs false
set_option linter.unusedVariables false
set_option linter.unnecessarySimpa false
namespace Go.Proofs.YthfemndklplpbaaDoor
open Go.Lx Go.RowKit
set_option linter.unusedVariables false
set_option linter.unusedSimpArgs false

theorem long2 (w : World) (sb : Option Addr) (sc : Nat) (a b : DFA) (nb fb mb gb : Option Addr) (nc fc mc gc : Nat) (vs us : List Value) (hS : Sl w sb (dfaCells a nb nc fb fc ++ dfaCells b mb mc gb gc)) (ha : DfaAt w a nb vs fb) (h2 : DfaAt w b mb us gb) (hB : a.next.length < 9223372036854775807) (hB2 : b.next.length < 9223372036854775807) :
    PureT Tryd.prog 10 [.slice sb 2 sc] w fun v N => v = .bool (decide (longD a = true ∨ longD b = true)) ∧ N = [] :=
  (longC w sb sc [⟨a, nb, fb, nc, fc, vs⟩, ⟨b, mb, gb, mc, gc, us⟩] (by simpa [dcells, DRec.cells] using hS) (allC ha (allC h2 allN)) (show 2 < 9223372036854775807 by decide) (allC hB (allC hB2 allN))).mono fun v N ⟨h1, h2⟩ => ⟨by rw [h1]; simp, h2⟩
theorem distB (w : World) (d : DFA) (nb fb : Option Addr) (nc fc : Nat) (vs : List Value) (n m : Nat) (hn9 : n = d.next.length) (hm9 : m = d.final.length) (h : DfaAt w d nb vs fb) (hb : d.next.length < 9223372036854775807) (hbr : ∀ r ∈ d.next, r.length < 9223372036854775807) (hbf : d.final.length < 9223372036854775807) (hn : Valid d → d.next.length < 100) (s t : Int) :
    PureT Tryd.prog 25 [.agg #[.int .i64 d.vars, .int .i64 d.start, .slice nb n nc, .slice fb m fc], .int .i64 s, .int .i64 t] w fun v N => DistV 5 d s t v N := by
  subst hn9; subst hm9
  exact distA w d nb fb nc fc vs h hb hbr hbf hn s t

set_option maxHeartbeats 4000000 in
set_option maxRecDepth 20000 in
theorem canonLaw (w : World) (a : DFA) (nb fb : Option Addr) (nc fc : Nat) (vs : List Value) (ha : DfaAt w a nb vs fb) (hb : a.next.length < 9223372036854775807) (hbr : ∀ r ∈ a.next, r.length < 9223372036854775807) (hbf : a.final.length < 9223372036854775807)
    (b : DFA) (mb gb : Option Addr) (mc gc : Nat) (us : List Value) (h2 : DfaAt w b mb us gb) (hb2 : b.next.length < 9223372036854775807) (hbr2 : ∀ r ∈ b.next, r.length < 9223372036854775807) (hbf2 : b.final.length < 9223372036854775807) (wb : Option Addr) (wc : Nat) (l : List Nat) (hW : Sl w wb (byts l)) (hwb : l.length < 9223372036854775807) (hw8 : ∀ x ∈ l, x < 256) :
    PureT Tryd.prog 8 [.agg (dfaCells a nb nc fb fc).toArray, .agg (dfaCells b mb mc gb gc).toArray, .slice wb l.length wc] w fun v N => v = .bool true ∧ N = [] := by
  refine CallT.enter Tryd.func8 rfl Tryd.ntmps8 rfl ?_
  refine T.seq ?_
  refine T.region ?_
  refine TO.loud rfl (l_box (v := (.agg #[(.int .i64 a.vars), (.int .i64 a.start), (.slice nb a.next.length nc), (.slice fb a.final.length fc)])) (cs := [(.int .i64 a.vars), (.int .i64 a.start), (.slice nb a.next.length nc), (.slice fb a.final.length fc)]) rfl rfl (fun z1 => ?_))
  refine TO.loud rfl (l_box (v := (.agg #[(.int .i64 b.vars), (.int .i64 b.start), (.slice mb b.next.length mc), (.slice gb b.final.length gc)])) (cs := [(.int .i64 b.vars), (.int .i64 b.start), (.slice mb b.next.length mc), (.slice gb b.final.length gc)]) rfl rfl (fun z2 => ?_))
  refine TO.quiet (q_assign rfl) ?_
  refine TO.nil ?_
  refine T.seq ?_
  refine T.seq ?_
  refine T.region ?_
  refine TO.quiet (q_load_boxAgg 1 Tryd.underlying25 rfl inf25 rfl rfl rfl) ?_
  refine TO.quiet (q_load_boxAgg 0 Tryd.underlying25 rfl inf25 rfl rfl rfl) ?_
  refine TO.loud rfl (l_buildSlice (m := 2) (parts := [(0, _), (1, _)]) (cs := [(.int .i64 a.vars), (.int .i64 a.start), (.slice nb a.next.length nc), (.slice fb a.final.length fc), (.int .i64 b.vars), (.int .i64 b.start), (.slice mb b.next.length mc), (.slice gb b.final.length gc)]) Tryd.underlying58 inf25 (by decide) (by kernel_rfl) rfl (fun z3 => ?_))
  by_cases hlong : longD a = true ∨ longD b = true
  · have hk29 := fun (w1 : World) (hI : Inv w [rowI (some ⟨z3, 0, none⟩) 2 25 4 [(.int .i64 a.vars), (.int .i64 a.start), (.slice nb a.next.length nc), (.slice fb a.final.length fc), (.int .i64 b.vars), (.int .i64 b.start), (.slice mb b.next.length mc), (.slice gb b.final.length gc)], objI z2 (.cells (List.toArray [(.int .i64 b.vars), (.int .i64 b.start), (.slice mb b.next.length mc), (.slice gb b.final.length gc)]) 25 (0, 0)), objI z1 (.cells (List.toArray [(.int .i64 a.vars), (.int .i64 a.start), (.slice nb a.next.length nc), (.slice fb a.final.length fc)]) 25 (0, 0))] w1) => long2 w1 (some ⟨z3, 0, none⟩) 2 a b nb fb mb gb nc fc mc gc vs us (hI.slOf (List.mem_of_getElem? (i := 0) rfl)) (hI.dfa ha) (hI.dfa h2) hb hb2
    refine TO.loud rfl (l_call ent10 (CallT.of_pure hk29) rfl ?_)
    clear hk29
    rintro v O' ⟨N, rfl, rfl, rfl⟩
    rw [decide_eq_true hlong]
    refine TO.quiet (q_move rfl) ?_
    refine TO.passed rfl rfl ?_
    refine TO.passed rfl rfl ?_
    refine TO.passed rfl rfl ?_
    refine TO.quiet (q_pick1 rfl rfl) ?_
    refine TO.quiet (q_move rfl) ?_
    refine TO.passed rfl rfl ?_
    refine TO.passed rfl rfl ?_
    refine TO.quiet (q_pick1 rfl rfl) ?_
    refine TO.quiet (q_move rfl) ?_
    refine TO.passed rfl rfl ?_
    refine TO.passed rfl rfl ?_
    refine TO.passed rfl rfl ?_
    refine TO.quiet (q_pick1 rfl rfl) ?_
    refine TO.quiet (q_move rfl) ?_
    refine TO.passed rfl rfl ?_
    refine TO.passed rfl rfl ?_
    refine TO.passed rfl rfl ?_
    refine TO.quiet (q_pick1 rfl rfl) ?_
    refine TO.quiet (q_move rfl) ?_
    refine TO.passed rfl rfl ?_
    refine TO.passed rfl rfl ?_
    refine TO.passed rfl rfl ?_
    refine TO.passed rfl rfl ?_
    refine TO.passed rfl rfl ?_
    refine TO.quiet (q_pick1 rfl rfl) ?_
    refine TO.sub (O' := [objI z2 (.cells (List.toArray [(.int .i64 b.vars), (.int .i64 b.start), (.slice mb b.next.length mc), (.slice gb b.final.length gc)]) 25 (0, 0)), objI z1 (.cells (List.toArray [(.int .i64 a.vars), (.int .i64 a.start), (.slice nb a.next.length nc), (.slice fb a.final.length fc)]) 25 (0, 0))]) (Sub.pick [1, 1] rfl) ?_
    refine TO.nil ?_
    refine T.cond1 rfl ?_
    refine T.seq ?_
    refine T.region ?_
    have hk56 := fun (w1 : World) (hI : Inv w [objI z2 (.cells (List.toArray [(.int .i64 b.vars), (.int .i64 b.start), (.slice mb b.next.length mc), (.slice gb b.final.length gc)]) 25 (0, 0)), objI z1 (.cells (List.toArray [(.int .i64 a.vars), (.int .i64 a.start), (.slice nb a.next.length nc), (.slice fb a.final.length fc)]) 25 (0, 0))] w1) => awakeC w1
    refine TO.loud rfl (l_call ent12 (CallT.of_pure hk56) rfl ?_)
    clear hk56
    rintro v O' ⟨N, rfl, rfl, rfl⟩
    refine TO.quiet (q_assign rfl) ?_
    refine TO.nil ?_
    refine T.ret ?_
    refine Res.drop ?_
    refine Res.one (.bool true) Tryd.results8 rfl ?_
    exact ⟨[], Sub.of (List.nil_sublist _), rfl, rfl⟩
  · have hk29 := fun (w1 : World) (hI : Inv w [rowI (some ⟨z3, 0, none⟩) 2 25 4 [(.int .i64 a.vars), (.int .i64 a.start), (.slice nb a.next.length nc), (.slice fb a.final.length fc), (.int .i64 b.vars), (.int .i64 b.start), (.slice mb b.next.length mc), (.slice gb b.final.length gc)], objI z2 (.cells (List.toArray [(.int .i64 b.vars), (.int .i64 b.start), (.slice mb b.next.length mc), (.slice gb b.final.length gc)]) 25 (0, 0)), objI z1 (.cells (List.toArray [(.int .i64 a.vars), (.int .i64 a.start), (.slice nb a.next.length nc), (.slice fb a.final.length fc)]) 25 (0, 0))] w1) => long2 w1 (some ⟨z3, 0, none⟩) 2 a b nb fb mb gb nc fc mc gc vs us (hI.slOf (List.mem_of_getElem? (i := 0) rfl)) (hI.dfa ha) (hI.dfa h2) hb hb2
    refine TO.loud rfl (l_call ent10 (CallT.of_pure hk29) rfl ?_)
    clear hk29
    rintro v O' ⟨N, rfl, rfl, rfl⟩
    rw [decide_eq_false hlong]
    refine TO.quiet (q_move rfl) ?_
    refine TO.guarded rfl rfl rfl (LT.of_quiet rfl rfl (q_move rfl) ?_)
    refine TO.guarded rfl rfl rfl (LT.of_quiet rfl rfl (q_len Tryd.underlying42 rfl) ?_)
    by_cases h60 : (l.length : Int) > 60
    · refine TO.guarded rfl rfl rfl (LT.of_quiet rfl rfl (QT.toB (q_gtr rfl rfl) (decide_eq_true h60)) ?_)
      refine TO.quiet (q_pick0 rfl rfl) ?_
      refine TO.quiet (q_move rfl) ?_
      refine TO.passed rfl rfl ?_
      refine TO.passed rfl rfl ?_
      refine TO.quiet (q_pick1 rfl rfl) ?_
      refine TO.quiet (q_move rfl) ?_
      refine TO.passed rfl rfl ?_
      refine TO.passed rfl rfl ?_
      refine TO.passed rfl rfl ?_
      refine TO.quiet (q_pick1 rfl rfl) ?_
      refine TO.quiet (q_move rfl) ?_
      refine TO.passed rfl rfl ?_
      refine TO.passed rfl rfl ?_
      refine TO.passed rfl rfl ?_
      refine TO.quiet (q_pick1 rfl rfl) ?_
      refine TO.quiet (q_move rfl) ?_
      refine TO.passed rfl rfl ?_
      refine TO.passed rfl rfl ?_
      refine TO.passed rfl rfl ?_
      refine TO.passed rfl rfl ?_
      refine TO.passed rfl rfl ?_
      refine TO.quiet (q_pick1 rfl rfl) ?_
      refine TO.sub (O' := [objI z2 (.cells (List.toArray [(.int .i64 b.vars), (.int .i64 b.start), (.slice mb b.next.length mc), (.slice gb b.final.length gc)]) 25 (0, 0)), objI z1 (.cells (List.toArray [(.int .i64 a.vars), (.int .i64 a.start), (.slice nb a.next.length nc), (.slice fb a.final.length fc)]) 25 (0, 0))]) (Sub.pick [1, 1] rfl) ?_
      refine TO.nil ?_
      refine T.cond1 rfl ?_
      refine T.seq ?_
      refine T.region ?_
      have hk56 := fun (w1 : World) (hI : Inv w [objI z2 (.cells (List.toArray [(.int .i64 b.vars), (.int .i64 b.start), (.slice mb b.next.length mc), (.slice gb b.final.length gc)]) 25 (0, 0)), objI z1 (.cells (List.toArray [(.int .i64 a.vars), (.int .i64 a.start), (.slice nb a.next.length nc), (.slice fb a.final.length fc)]) 25 (0, 0))] w1) => awakeC w1
      refine TO.loud rfl (l_call ent12 (CallT.of_pure hk56) rfl ?_)
      clear hk56
      rintro v O' ⟨N, rfl, rfl, rfl⟩
      refine TO.quiet (q_assign rfl) ?_
      refine TO.nil ?_
      refine T.ret ?_
      refine Res.drop ?_
      refine Res.one (.bool true) Tryd.results8 rfl ?_
      exact ⟨[], Sub.of (List.nil_sublist _), rfl, rfl⟩
    · refine TO.guarded rfl rfl rfl (LT.of_quiet rfl rfl (QT.toB (q_gtr rfl rfl) (decide_eq_false h60)) ?_)
      refine TO.quiet (q_pick0 rfl rfl) ?_
      refine TO.quiet (q_move rfl) ?_
      have hk36 := fun (w1 : World) (hI : Inv w [rowI (some ⟨z3, 0, none⟩) 2 25 4 [(.int .i64 a.vars), (.int .i64 a.start), (.slice nb a.next.length nc), (.slice fb a.final.length fc), (.int .i64 b.vars), (.int .i64 b.start), (.slice mb b.next.length mc), (.slice gb b.final.length gc)], objI z2 (.cells (List.toArray [(.int .i64 b.vars), (.int .i64 b.start), (.slice mb b.next.length mc), (.slice gb b.final.length gc)]) 25 (0, 0)), objI z1 (.cells (List.toArray [(.int .i64 a.vars), (.int .i64 a.start), (.slice nb a.next.length nc), (.slice fb a.final.length fc)]) 25 (0, 0))] w1) => awakeC w1
      refine TO.guarded rfl rfl rfl (l_call ent12 (CallT.of_pure hk36) rfl ?_)
      clear hk36
      rintro v O' ⟨N, rfl, rfl, rfl⟩
      refine TO.guarded rfl rfl rfl (LT.of_quiet rfl rfl (q_not rfl) ?_)
      refine TO.quiet (q_pick0 rfl rfl) ?_
      refine TO.quiet (q_move rfl) ?_
      refine TO.guarded rfl rfl rfl (LT.of_quiet rfl rfl (q_load_boxAgg 2 Tryd.underlying25 rfl inf25 rfl rfl rfl) ?_)
      have hk41 := fun (w1 : World) (hI : Inv w [rowI (some ⟨z3, 0, none⟩) 2 25 4 [(.int .i64 a.vars), (.int .i64 a.start), (.slice nb a.next.length nc), (.slice fb a.final.length fc), (.int .i64 b.vars), (.int .i64 b.start), (.slice mb b.next.length mc), (.slice gb b.final.length gc)], objI z2 (.cells (List.toArray [(.int .i64 b.vars), (.int .i64 b.start), (.slice mb b.next.length mc), (.slice gb b.final.length gc)]) 25 (0, 0)), objI z1 (.cells (List.toArray [(.int .i64 a.vars), (.int .i64 a.start), (.slice nb a.next.length nc), (.slice fb a.final.length fc)]) 25 (0, 0))] w1) => subsetCheck w1 a nb fb nc fc vs (hI.dfa ha) hb hbr hbf
      refine TO.guarded rfl rfl rfl (l_call ent24 (CallT.of_pure hk41) rfl ?_)
      clear hk41
      rintro v O' ⟨N, rfl, rfl, rfl⟩
      by_cases hEa : (checkD a : Int) ≠ 0
      · refine TO.guarded rfl rfl rfl (LT.of_quiet rfl rfl (QT.toB (q_neq rfl rfl) (decide_eq_true hEa)) ?_)
        refine TO.quiet (q_pick0 rfl rfl) ?_
        refine TO.quiet (q_move rfl) ?_
        refine TO.passed rfl rfl ?_
        refine TO.passed rfl rfl ?_
        refine TO.passed rfl rfl ?_
        refine TO.quiet (q_pick1 rfl rfl) ?_
        refine TO.quiet (q_move rfl) ?_
        refine TO.passed rfl rfl ?_
        refine TO.passed rfl rfl ?_
        refine TO.passed rfl rfl ?_
        refine TO.passed rfl rfl ?_
        refine TO.passed rfl rfl ?_
        refine TO.quiet (q_pick1 rfl rfl) ?_
        refine TO.sub (O' := [objI z2 (.cells (List.toArray [(.int .i64 b.vars), (.int .i64 b.start), (.slice mb b.next.length mc), (.slice gb b.final.length gc)]) 25 (0, 0)), objI z1 (.cells (List.toArray [(.int .i64 a.vars), (.int .i64 a.start), (.slice nb a.next.length nc), (.slice fb a.final.length fc)]) 25 (0, 0))]) (Sub.pick [1, 1] rfl) ?_
        refine TO.nil ?_
        refine T.cond1 rfl ?_
        refine T.seq ?_
        refine T.region ?_
        have hk56 := fun (w1 : World) (hI : Inv w [objI z2 (.cells (List.toArray [(.int .i64 b.vars), (.int .i64 b.start), (.slice mb b.next.length mc), (.slice gb b.final.length gc)]) 25 (0, 0)), objI z1 (.cells (List.toArray [(.int .i64 a.vars), (.int .i64 a.start), (.slice nb a.next.length nc), (.slice fb a.final.length fc)]) 25 (0, 0))] w1) => awakeC w1
        refine TO.loud rfl (l_call ent12 (CallT.of_pure hk56) rfl ?_)
        clear hk56
        rintro v O' ⟨N, rfl, rfl, rfl⟩
        refine TO.quiet (q_assign rfl) ?_
        refine TO.nil ?_
        refine T.ret ?_
        refine Res.drop ?_
        refine Res.one (.bool true) Tryd.results8 rfl ?_
        exact ⟨[], Sub.of (List.nil_sublist _), rfl, rfl⟩
      · refine TO.guarded rfl rfl rfl (LT.of_quiet rfl rfl (QT.toB (q_neq rfl rfl) (decide_eq_false hEa)) ?_)
        refine TO.quiet (q_pick0 rfl rfl) ?_
        refine TO.quiet (q_move rfl) ?_
        refine TO.guarded rfl rfl rfl (LT.of_quiet rfl rfl (q_load_boxAgg 1 Tryd.underlying25 rfl inf25 rfl rfl rfl) ?_)
        have hk46 := fun (w1 : World) (hI : Inv w [rowI (some ⟨z3, 0, none⟩) 2 25 4 [(.int .i64 a.vars), (.int .i64 a.start), (.slice nb a.next.length nc), (.slice fb a.final.length fc), (.int .i64 b.vars), (.int .i64 b.start), (.slice mb b.next.length mc), (.slice gb b.final.length gc)], objI z2 (.cells (List.toArray [(.int .i64 b.vars), (.int .i64 b.start), (.slice mb b.next.length mc), (.slice gb b.final.length gc)]) 25 (0, 0)), objI z1 (.cells (List.toArray [(.int .i64 a.vars), (.int .i64 a.start), (.slice nb a.next.length nc), (.slice fb a.final.length fc)]) 25 (0, 0))] w1) => subsetCheck w1 b mb gb mc gc us (hI.dfa h2) hb2 hbr2 hbf2
        refine TO.guarded rfl rfl rfl (l_call ent24 (CallT.of_pure hk46) rfl ?_)
        clear hk46
        rintro v O' ⟨N, rfl, rfl, rfl⟩
        by_cases hEb : (checkD b : Int) ≠ 0
        · refine TO.guarded rfl rfl rfl (LT.of_quiet rfl rfl (QT.toB (q_neq rfl rfl) (decide_eq_true hEb)) ?_)
          refine TO.quiet (q_pick0 rfl rfl) ?_
          refine TO.quiet (q_move rfl) ?_
          refine TO.passed rfl rfl ?_
          refine TO.passed rfl rfl ?_
          refine TO.passed rfl rfl ?_
          refine TO.passed rfl rfl ?_
          refine TO.passed rfl rfl ?_
          refine TO.quiet (q_pick1 rfl rfl) ?_
          refine TO.sub (O' := [objI z2 (.cells (List.toArray [(.int .i64 b.vars), (.int .i64 b.start), (.slice mb b.next.length mc), (.slice gb b.final.length gc)]) 25 (0, 0)), objI z1 (.cells (List.toArray [(.int .i64 a.vars), (.int .i64 a.start), (.slice nb a.next.length nc), (.slice fb a.final.length fc)]) 25 (0, 0))]) (Sub.pick [1, 1] rfl) ?_
          refine TO.nil ?_
          refine T.cond1 rfl ?_
          refine T.seq ?_
          refine T.region ?_
          have hk56 := fun (w1 : World) (hI : Inv w [objI z2 (.cells (List.toArray [(.int .i64 b.vars), (.int .i64 b.start), (.slice mb b.next.length mc), (.slice gb b.final.length gc)]) 25 (0, 0)), objI z1 (.cells (List.toArray [(.int .i64 a.vars), (.int .i64 a.start), (.slice nb a.next.length nc), (.slice fb a.final.length fc)]) 25 (0, 0))] w1) => awakeC w1
          refine TO.loud rfl (l_call ent12 (CallT.of_pure hk56) rfl ?_)
          clear hk56
          rintro v O' ⟨N, rfl, rfl, rfl⟩
          refine TO.quiet (q_assign rfl) ?_
          refine TO.nil ?_
          refine T.ret ?_
          refine Res.drop ?_
          refine Res.one (.bool true) Tryd.results8 rfl ?_
          exact ⟨[], Sub.of (List.nil_sublist _), rfl, rfl⟩
        · refine TO.guarded rfl rfl rfl (LT.of_quiet rfl rfl (QT.toB (q_neq rfl rfl) (decide_eq_false hEb)) ?_)
          refine TO.quiet (q_pick0 rfl rfl) ?_
          refine TO.quiet (q_move rfl) ?_
          refine TO.guarded rfl rfl rfl (LT.of_quiet rfl rfl (q_fieldAddr Tryd.underlying25 rfl inf3 rfl rfl) ?_)
          refine TO.guarded rfl rfl rfl (LT.of_quiet rfl rfl (q_load_box 2 Tryd.underlying3 rfl rfl rfl rfl) ?_)
          refine TO.guarded rfl rfl rfl (LT.of_quiet rfl rfl (q_fieldAddr Tryd.underlying25 rfl inf3 rfl rfl) ?_)
          refine TO.guarded rfl rfl rfl (LT.of_quiet rfl rfl (q_load_box 1 Tryd.underlying3 rfl rfl rfl rfl) ?_)
          by_cases hvv : a.vars ≠ b.vars
          · refine TO.guarded rfl rfl rfl (LT.of_quiet rfl rfl (QT.toB (q_neq rfl rfl) (decide_eq_true hvv)) ?_)
            refine TO.quiet (q_pick0 rfl rfl) ?_
            refine TO.sub (O' := [objI z2 (.cells (List.toArray [(.int .i64 b.vars), (.int .i64 b.start), (.slice mb b.next.length mc), (.slice gb b.final.length gc)]) 25 (0, 0)), objI z1 (.cells (List.toArray [(.int .i64 a.vars), (.int .i64 a.start), (.slice nb a.next.length nc), (.slice fb a.final.length fc)]) 25 (0, 0))]) (Sub.pick [1, 1] rfl) ?_
            refine TO.nil ?_
            refine T.cond1 rfl ?_
            refine T.seq ?_
            refine T.region ?_
            have hk56 := fun (w1 : World) (hI : Inv w [objI z2 (.cells (List.toArray [(.int .i64 b.vars), (.int .i64 b.start), (.slice mb b.next.length mc), (.slice gb b.final.length gc)]) 25 (0, 0)), objI z1 (.cells (List.toArray [(.int .i64 a.vars), (.int .i64 a.start), (.slice nb a.next.length nc), (.slice fb a.final.length fc)]) 25 (0, 0))] w1) => awakeC w1
            refine TO.loud rfl (l_call ent12 (CallT.of_pure hk56) rfl ?_)
            clear hk56
            rintro v O' ⟨N, rfl, rfl, rfl⟩
            refine TO.quiet (q_assign rfl) ?_
            refine TO.nil ?_
            refine T.ret ?_
            refine Res.drop ?_
            refine Res.one (.bool true) Tryd.results8 rfl ?_
            exact ⟨[], Sub.of (List.nil_sublist _), rfl, rfl⟩
          · refine TO.guarded rfl rfl rfl (LT.of_quiet rfl rfl (QT.toB (q_neq rfl rfl) (decide_eq_false hvv)) ?_)
            refine TO.quiet (q_pick0 rfl rfl) ?_
            refine TO.sub (O' := [objI z2 (.cells (List.toArray [(.int .i64 b.vars), (.int .i64 b.start), (.slice mb b.next.length mc), (.slice gb b.final.length gc)]) 25 (0, 0)), objI z1 (.cells (List.toArray [(.int .i64 a.vars), (.int .i64 a.start), (.slice nb a.next.length nc), (.slice fb a.final.length fc)]) 25 (0, 0))]) (Sub.pick [1, 1] rfl) ?_
            refine TO.nil ?_
            refine T.cond0 rfl ?_
            refine T.skip ?_
            refine T.seq ?_
            have hva : Valid a := checkD_zero.1 (by omega)
            have hvb : Valid b := checkD_zero.1 (by omega)
            have hvars : a.vars = b.vars := by omega
            have hwa := hva.width
            obtain ⟨hB1, hB2, hB3⟩ := longD_false (fun h => hlong (.inl h))
            obtain ⟨hC1, hC2, hC3⟩ := longD_false (fun h => hlong (.inr h))
            have hul2 := h2.rows.1
            have hma := minV_bound a
            have hmb := minV_bound b
            have hfa := hva.fin
            have hfb := hvb.fin
            have hs0 := hva.s0
            have hs1 := hva.s1
            have ht0 := hvb.s0
            have ht1 := hvb.s1
            refine T.region ?_
            refine TO.quiet (q_load_boxAgg 1 Tryd.underlying25 rfl inf25 rfl rfl rfl) ?_
            have hk58 := fun (w1 : World) (hI : Inv w [objI z2 (.cells (List.toArray [(.int .i64 b.vars), (.int .i64 b.start), (.slice mb b.next.length mc), (.slice gb b.final.length gc)]) 25 (0, 0)), objI z1 (.cells (List.toArray [(.int .i64 a.vars), (.int .i64 a.start), (.slice nb a.next.length nc), (.slice fb a.final.length fc)]) 25 (0, 0))] w1) => copyDFA w1 a nb fb nc fc vs (hI.dfa ha) (by omega) (fun r hr => by have := hB3 r hr; omega) (by omega)
            refine TO.loud rfl (l_call ent13 (CallT.of_pure hk58) rfl ?_)
            clear hk58
            rintro v O' ⟨N, rfl, nb0, nc0, fb0, fc0, qs0, rfl, rfl, hq0⟩
            refine TO.sub (O' := ([rowI nb0 nc0 33 1 (vals qs0), rowI fb0 fc0 4 1 (bools a.final), objI z2 (.cells (List.toArray [(.int .i64 b.vars), (.int .i64 b.start), (.slice mb b.next.length mc), (.slice gb b.final.length gc)]) 25 (0, 0)), objI z1 (.cells (List.toArray [(.int .i64 a.vars), (.int .i64 a.start), (.slice nb a.next.length nc), (.slice fb a.final.length fc)]) 25 (0, 0))] ++ (itms 3 qs0))) (Sub.cnt [] (by intro a; simp only [itms, List.set_cons_zero, List.set_cons_succ, putL, List.cons_append, List.nil_append, List.append_nil, List.append_assoc, List.map_append, List.map_cons, List.map_nil, cnt_append, cnt_cons, cnt_nil] <;> omega)) ?_
            refine TO.loud rfl (l_alloc inf25 rfl (fun z4 => ?_))
            refine TO.loud rfl (l_store_box (v := (.agg #[(.int .i64 a.vars), (.int .i64 a.start), (.slice nb0 a.next.length nc0), (.slice fb0 a.final.length fc0)])) (vs := [(.int .i64 a.vars), (.int .i64 a.start), (.slice nb0 a.next.length nc0), (.slice fb0 a.final.length fc0)]) 0 inf25 rfl rfl rfl rfl rfl rfl (by simp [putL]) ?_)
            refine TO.nil ?_
            refine T.seq ?_
            refine T.seq ?_
            refine T.region ?_
            refine TO.quiet (q_assign rfl) ?_
            refine TO.nil ?_
            refine T.block ?_
            refine T.loop (fun (k : Nat) ρ O => ∃ (ob fb9 : Option Addr) (oc fc9 : Nat) (qs : List Rec) (fs : List Bool), O = ([objI z4 (.cells (List.toArray [(.int .i64 a.vars), (.int .i64 a.start), (.slice ob (a.next.length + k) oc), (.slice fb9 (a.final.length + k) fc9)]) 25 (0, 0)), rowI ob oc 33 1 (vals qs), rowI fb9 fc9 4 1 (bools fs), objI z2 (.cells (List.toArray [(.int .i64 b.vars), (.int .i64 b.start), (.slice mb b.next.length mc), (.slice gb b.final.length gc)]) 25 (0, 0)), objI z1 (.cells (List.toArray [(.int .i64 a.vars), (.int .i64 a.start), (.slice nb a.next.length nc), (.slice fb a.final.length fc)]) 25 (0, 0))] ++ (itms 3 qs)) ∧ k ≤ b.next.length ∧ nums qs = (bothN a b k).next ∧ fs = (bothN a b k).final ∧ Heads [(0, (.agg #[(.int .i64 a.vars), (.int .i64 a.start), (.slice nb a.next.length nc), (.slice fb a.final.length fc)])), (1, (.agg #[(.int .i64 b.vars), (.int .i64 b.start), (.slice mb b.next.length mc), (.slice gb b.final.length gc)])), (2, (.slice wb l.length wc)), (3, (.pointer (some ⟨z1, 0, none⟩))), (4, (.pointer (some ⟨z2, 0, none⟩))), (6, .bool false), (7, (.pointer (some ⟨z4, 0, none⟩))), (8, .int .i64 (k : Int))] ρ) (fun k => b.next.length - k) 0 ?_ ?_
            · exact ⟨nb0, fb0, nc0, fc0, qs0, a.final, rfl, Nat.zero_le _, by rw [hq0]; simp [bothN], by simp [bothN], ⟨rfl, rfl, rfl, rfl, rfl, rfl, rfl, rfl, trivial⟩⟩
            · rintro k ρ O ⟨ob, fb9, oc, fc9, qs, fs, rfl, hk, hqs, hfs, hH⟩
              obtain ⟨ρ0, rfl⟩ := hH.elim
              clear hH
              have hqk : (bothN a b k).next.length = a.next.length + k := by simp [bothN]; omega
              have hfk : (bothN a b k).final.length = a.final.length + k := by simp [bothN]; omega
              have hql : qs.length = a.next.length + k := by rw [← hqk, ← hqs]; simp
              have hfl : fs.length = a.final.length + k := by rw [hfs, hfk]
              refine T.seq ?_
              refine T.seq ?_
              refine T.region ?_
              refine TO.quiet (q_move rfl) ?_
              refine TO.quiet (q_fieldAddr Tryd.underlying25 rfl inf22 rfl rfl) ?_
              refine TO.quiet (q_load_box 3 Tryd.underlying22 rfl rfl rfl rfl) ?_
              refine TO.quiet (q_len Tryd.underlying22 rfl) ?_
              refine TO.quiet (q_lss rfl rfl) ?_
              refine TO.nil ?_
              refine T.condP rfl (fun hc => ?_) (fun hc => ?_)
              · have hlt63 : k < b.next.length := by omega
                obtain ⟨vb, vc, g1, s1⟩ := h2.rows.get hlt63
                have hkf : k < b.final.length := by omega
                have hku : k < us.length := by omega
                have hrl : b.next[k].length ≤ 100 := hC3 _ (List.getElem_mem hlt63)
                refine T.skip ?_
                refine T.seq ?_
                refine T.block ?_
                refine T.seq ?_
                refine T.region ?_
                refine TO.quiet (q_assign rfl) ?_
                refine TO.nil ?_
                refine T.seq ?_
                refine T.seq ?_
                refine T.region ?_
                refine TO.quiet (q_assign rfl) ?_
                refine TO.nil ?_
                refine T.block ?_
                refine T.nilRow 3 1 ?_
                refine T.loop (fun (j : Nat) ρ O => ∃ (kb : Option Addr) (kc : Nat), O = ([rowI kb kc 3 1 (ints ((b.next[k].map fun x : Int => (a.next.length : Int) + x).take j)), objI z4 (.cells (List.toArray [(.int .i64 a.vars), (.int .i64 a.start), (.slice ob (a.next.length + k) oc), (.slice fb9 (a.final.length + k) fc9)]) 25 (0, 0)), rowI ob oc 33 1 (vals qs), rowI fb9 fc9 4 1 (bools fs), objI z2 (.cells (List.toArray [(.int .i64 b.vars), (.int .i64 b.start), (.slice mb b.next.length mc), (.slice gb b.final.length gc)]) 25 (0, 0)), objI z1 (.cells (List.toArray [(.int .i64 a.vars), (.int .i64 a.start), (.slice nb a.next.length nc), (.slice fb a.final.length fc)]) 25 (0, 0))] ++ (itms 3 qs)) ∧ j ≤ b.next[k].length ∧ Heads [(0, (.agg #[(.int .i64 a.vars), (.int .i64 a.start), (.slice nb a.next.length nc), (.slice fb a.final.length fc)])), (1, (.agg #[(.int .i64 b.vars), (.int .i64 b.start), (.slice mb b.next.length mc), (.slice gb b.final.length gc)])), (2, (.slice wb l.length wc)), (3, (.pointer (some ⟨z1, 0, none⟩))), (4, (.pointer (some ⟨z2, 0, none⟩))), (6, .bool false), (7, (.pointer (some ⟨z4, 0, none⟩))), (8, .int .i64 (k : Int)), (9, (.slice kb j kc)), (10, .int .i64 (j : Int))] ρ) (fun j => b.next[k].length - j) 0 ?_ ?_
                · exact ⟨none, 0, rfl, Nat.zero_le _, ⟨rfl, rfl, rfl, rfl, rfl, rfl, rfl, rfl, rfl, rfl, trivial⟩⟩
                · rintro j ρ O ⟨kb, kc, rfl, hj, hH⟩
                  obtain ⟨ρ0, rfl⟩ := hH.elim
                  clear hH
                  refine T.seq ?_
                  refine T.seq ?_
                  refine T.region ?_
                  refine TO.quiet (q_move rfl) ?_
                  refine TO.quiet (q_fieldAddr Tryd.underlying25 rfl inf22 rfl rfl) ?_
                  refine TO.quiet (q_load_box 4 Tryd.underlying22 rfl rfl rfl rfl) ?_
                  refine TO.quiet (q_move rfl) ?_
                  refine TO.quiet (q_ix (i := k) Tryd.underlying22 inf33 rfl rfl (Sl.o h2.outer) hlt63 hku) ?_
                  refine TO.quiet (q_ld Tryd.underlying33 rfl rfl (Sl.o h2.outer) g1) ?_
                  refine TO.quiet (q_len Tryd.underlying33 rfl) ?_
                  refine TO.quiet (q_lss rfl rfl) ?_
                  refine TO.nil ?_
                  refine T.condP rfl (fun hc => ?_) (fun hc => ?_)
                  · have hlt73 : j < b.next[k].length := by omega
                    refine T.skip ?_
                    refine T.seq ?_
                    refine T.block ?_
                    refine T.draws _ [(0, 0), (1, 0), (2, 0), (3, 0), (4, 0), (5, 0), (6, 0), (7, 0), (8, 0), (9, 0), (10, 0), (11, 0), (12, 0), (13, 1), (14, 2), (15, 2)] mixed (by kernel_rfl) (Sub.of (List.Sublist.refl _)) (fun _ _ _ h => h) ?_
                    refine DO.quiet rfl (q_move rfl) ?_
                    refine DO.quiet rfl (q_fieldAddr Tryd.underlying25 rfl inf22 rfl rfl) ?_
                    refine DO.quiet rfl (q_load_box 5 Tryd.underlying22 rfl rfl rfl rfl) ?_
                    refine DO.quiet rfl (q_len Tryd.underlying22 rfl) ?_
                    refine DO.quiet rfl (q_fieldAddr Tryd.underlying25 rfl inf22 rfl rfl) ?_
                    refine DO.quiet rfl (q_load_box 4 Tryd.underlying22 rfl rfl rfl rfl) ?_
                    refine DO.quiet rfl (q_move rfl) ?_
                    refine DO.quiet rfl (q_ix (i := k) Tryd.underlying22 inf33 rfl rfl (Sl.o h2.outer) hlt63 hku) ?_
                    refine DO.quiet rfl (q_ld Tryd.underlying33 rfl rfl (Sl.o h2.outer) g1) ?_
                    refine DO.quiet rfl (q_move rfl) ?_
                    refine DO.quiet rfl (q_ix (i := j) Tryd.underlying33 inf3 rfl rfl (Sl.o s1) hlt73 (by rw [List.length_map]; exact hlt73)) ?_
                    refine DO.quiet rfl (q_ld Tryd.underlying3 rfl rfl (Sl.o s1) (ints_get hlt73)) ?_
                    refine DO.quiet rfl (q_add64 rfl rfl (by have hok := hvb.ok _ (List.getElem_mem hlt63) _ (List.getElem_mem hlt73); omega)) ?_
                    refine DO.loud rfl rfl (l_build1 (v := .int .i64 ((a.next.length : Int) + b.next[k][j])) Tryd.underlying33 inf3 rfl rfl rfl (fun z5 => ⟨Sub.pickR [1, 1, 1, 1, 1, 1] [rowI (some ⟨z5, 0, none⟩) 1 3 1 [.int .i64 ((a.next.length : Int) + b.next[k][j])], rowI kb kc 3 1 (ints ((b.next[k].map fun x : Int => (a.next.length : Int) + x).take j)), objI z4 (.cells (List.toArray [(.int .i64 a.vars), (.int .i64 a.start), (.slice ob (a.next.length + k) oc), (.slice fb9 (a.final.length + k) fc9)]) 25 (0, 0)), rowI ob oc 33 1 (vals qs), rowI fb9 fc9 4 1 (bools fs), objI z2 (.cells (List.toArray [(.int .i64 b.vars), (.int .i64 b.start), (.slice mb b.next.length mc), (.slice gb b.final.length gc)]) 25 (0, 0)), objI z1 (.cells (List.toArray [(.int .i64 a.vars), (.int .i64 a.start), (.slice nb a.next.length nc), (.slice fb a.final.length fc)]) 25 (0, 0))] (itms 3 qs) rfl rfl, ?_⟩))
                    refine DO.last rfl rfl (l_append 1 Tryd.underlying33 Tryd.underlying33 inf3 rfl rfl rfl rfl (by rw [List.length_map, List.length_take, List.length_map]; omega) (by decide) (Src.row (j := 0) rfl (by simp)) (by simp [oneB]) (by omega) (by decide) (by decide) (fun z6 zc7 => ?_))
                    refine DO.last rfl rfl (LT.of_quiet rfl rfl (q_assign rfl) ?_)
                    refine DO.sub (O' := ([rowI z6 zc7 3 1 ((ints ((b.next[k].map fun x : Int => (a.next.length : Int) + x).take j)) ++ [.int .i64 ((a.next.length : Int) + b.next[k][j])]), objI z4 (.cells (List.toArray [(.int .i64 a.vars), (.int .i64 a.start), (.slice ob (a.next.length + k) oc), (.slice fb9 (a.final.length + k) fc9)]) 25 (0, 0)), rowI ob oc 33 1 (vals qs), rowI fb9 fc9 4 1 (bools fs), objI z2 (.cells (List.toArray [(.int .i64 b.vars), (.int .i64 b.start), (.slice mb b.next.length mc), (.slice gb b.final.length gc)]) 25 (0, 0)), objI z1 (.cells (List.toArray [(.int .i64 a.vars), (.int .i64 a.start), (.slice nb a.next.length nc), (.slice fb a.final.length fc)]) 25 (0, 0))] ++ (itms 3 qs))) (Sub.pickR [1, 1, 1, 1, 1, 1] [rowI (some ⟨z5, 0, none⟩) 1 3 1 [.int .i64 ((a.next.length : Int) + b.next[k][j])], rowI z6 zc7 3 1 ((ints ((b.next[k].map fun x : Int => (a.next.length : Int) + x).take j)) ++ [.int .i64 ((a.next.length : Int) + b.next[k][j])]), objI z4 (.cells (List.toArray [(.int .i64 a.vars), (.int .i64 a.start), (.slice ob (a.next.length + k) oc), (.slice fb9 (a.final.length + k) fc9)]) 25 (0, 0)), rowI ob oc 33 1 (vals qs), rowI fb9 fc9 4 1 (bools fs), objI z2 (.cells (List.toArray [(.int .i64 b.vars), (.int .i64 b.start), (.slice mb b.next.length mc), (.slice gb b.final.length gc)]) 25 (0, 0)), objI z1 (.cells (List.toArray [(.int .i64 a.vars), (.int .i64 a.start), (.slice nb a.next.length nc), (.slice fb a.final.length fc)]) 25 (0, 0))] (itms 3 qs) rfl rfl) ?_
                    refine DO.done ?_
                    refine T.region ?_
                    refine TO.quiet (q_move rfl) ?_
                    refine TO.quiet (q_inc rfl rfl (by omega)) ?_
                    refine TO.quiet (q_assign rfl) ?_
                    refine TO.nil ?_
                    have hst : (b.next[k].map fun x : Int => (a.next.length : Int) + x).take (j + 1) = (b.next[k].map fun x : Int => (a.next.length : Int) + x).take j ++ [(a.next.length : Int) + b.next[k][j]] := by rw [List.take_succ_eq_append_getElem (by rw [List.length_map]; exact hlt73)]; simp
                    exact ⟨j + 1, by omega, z6, zc7, by rw [hst, show ints ((b.next[k].map fun x : Int => (a.next.length : Int) + x).take j ++ [(a.next.length : Int) + b.next[k][j]]) = ints ((b.next[k].map fun x : Int => (a.next.length : Int) + x).take j) ++ [.int .i64 ((a.next.length : Int) + b.next[k][j])] from List.map_append], by omega, ⟨rfl, rfl, rfl, rfl, rfl, rfl, rfl, rfl, rfl, rfl, trivial⟩⟩
                  · have hge73 : ¬ j < b.next[k].length := by omega
                    refine T.exit ?_
                    have hjf : j = b.next[k].length := by omega
                    have hR : rowI kb kc 3 1 (ints ((b.next[k].map fun x : Int => (a.next.length : Int) + x).take j)) = Rec.itm 3 ⟨kb, kc, b.next[k].map fun x : Int => (a.next.length : Int) + x⟩ := by
                      rw [List.take_of_length_le (by rw [List.length_map]; omega)]; rfl
                    refine T.cut1 (fun ρ O => ∃ (ob2 : Option Addr) (oc2 : Nat) (fb2 : Option Addr) (fc2 : Nat), O = ([objI z4 (.cells (List.toArray [(.int .i64 a.vars), (.int .i64 a.start), (.slice ob2 (a.next.length + k + 1) oc2), (.slice fb2 (a.final.length + k + 1) fc2)]) 25 (0, 0)), rowI ob2 oc2 33 1 ((vals qs) ++ [(.slice kb j kc)]), rowI fb2 fc2 4 1 ((bools fs) ++ [(.bool b.final[k])]), objI z2 (.cells (List.toArray [(.int .i64 b.vars), (.int .i64 b.start), (.slice mb b.next.length mc), (.slice gb b.final.length gc)]) 25 (0, 0)), objI z1 (.cells (List.toArray [(.int .i64 a.vars), (.int .i64 a.start), (.slice nb a.next.length nc), (.slice fb a.final.length fc)]) 25 (0, 0))] ++ (itms 3 (qs ++ [⟨kb, kc, b.next[k].map fun x : Int => (a.next.length : Int) + x⟩]))) ∧ Heads [(0, (.agg #[(.int .i64 a.vars), (.int .i64 a.start), (.slice nb a.next.length nc), (.slice fb a.final.length fc)])), (1, (.agg #[(.int .i64 b.vars), (.int .i64 b.start), (.slice mb b.next.length mc), (.slice gb b.final.length gc)])), (2, (.slice wb l.length wc)), (3, (.pointer (some ⟨z1, 0, none⟩))), (4, (.pointer (some ⟨z2, 0, none⟩))), (6, .bool false), (7, (.pointer (some ⟨z4, 0, none⟩))), (8, .int .i64 (k : Int)), (9, (.slice kb j kc)), (10, .int .i64 (j : Int))] ρ) ?_ ?_
                    · refine T.treeT [objI z4 (.cells (List.toArray [(.int .i64 a.vars), (.int .i64 a.start), (.slice ob (a.next.length + k) oc), (.slice fb9 (a.final.length + k) fc9)]) 25 (0, 0)), objI z2 (.cells (List.toArray [(.int .i64 b.vars), (.int .i64 b.start), (.slice mb b.next.length mc), (.slice gb b.final.length gc)]) 25 (0, 0))] [15, 17] 18 mixed rfl (Sub.pick0 [1, 3] [rowI kb kc 3 1 (ints ((b.next[k].map fun x : Int => (a.next.length : Int) + x).take j)), objI z4 (.cells (List.toArray [(.int .i64 a.vars), (.int .i64 a.start), (.slice ob (a.next.length + k) oc), (.slice fb9 (a.final.length + k) fc9)]) 25 (0, 0)), rowI ob oc 33 1 (vals qs), rowI fb9 fc9 4 1 (bools fs), objI z2 (.cells (List.toArray [(.int .i64 b.vars), (.int .i64 b.start), (.slice mb b.next.length mc), (.slice gb b.final.length gc)]) 25 (0, 0)), objI z1 (.cells (List.toArray [(.int .i64 a.vars), (.int .i64 a.start), (.slice nb a.next.length nc), (.slice fb a.final.length fc)]) 25 (0, 0))] (itms 3 qs) rfl rfl) (fun _ _ _ h => h) ?_
                      refine RO.quietTT 0 rfl (by kernel_rfl) (q_fieldAddr Tryd.underlying25 rfl inf22 rfl rfl) ?_
                      refine RO.quietTT 1 rfl (by kernel_rfl) (q_load_box 0 Tryd.underlying22 rfl rfl rfl rfl) ?_
                      refine RO.quietTT 2 rfl (by kernel_rfl) (q_move rfl) ?_
                      refine RO.quietTT 5 rfl (by kernel_rfl) (q_fieldAddr Tryd.underlying25 rfl inf23 rfl rfl) ?_
                      refine RO.quietTT 6 rfl (by kernel_rfl) (q_load_box 0 Tryd.underlying23 rfl rfl rfl rfl) ?_
                      refine RO.quietTT 7 rfl (by kernel_rfl) (q_fieldAddr Tryd.underlying25 rfl inf23 rfl rfl) ?_
                      refine RO.quietTT 8 rfl (by kernel_rfl) (q_load_box 1 Tryd.underlying23 rfl rfl rfl rfl) ?_
                      refine RO.quietTT 9 rfl (by kernel_rfl) (q_move rfl) ?_
                      refine RO.quietTT 10 rfl (by kernel_rfl) (q_ix (i := k) Tryd.underlying23 inf4 rfl rfl (Sl.o h2.final) hkf (by rw [List.length_map]; exact hkf)) ?_
                      refine RO.quietTT 11 rfl (by kernel_rfl) (q_ld Tryd.underlying4 rfl rfl (Sl.o h2.final) (bools_get hkf)) ?_
                      refine RO.forkT [3, 12] (by kernel_rfl) rfl ⟨⟨_, rfl, rfl, l_build1 (v := (.slice kb j kc)) Tryd.underlying22 inf33 rfl rfl rfl (fun zA => ⟨.inr (Sub.pick0 [2, 4] [rowI (some ⟨zA, 0, none⟩) 1 33 1 [(.slice kb j kc)], rowI kb kc 3 1 (ints ((b.next[k].map fun x : Int => (a.next.length : Int) + x).take j)), objI z4 (.cells (List.toArray [(.int .i64 a.vars), (.int .i64 a.start), (.slice ob (a.next.length + k) oc), (.slice fb9 (a.final.length + k) fc9)]) 25 (0, 0)), rowI ob oc 33 1 (vals qs), rowI fb9 fc9 4 1 (bools fs), objI z2 (.cells (List.toArray [(.int .i64 b.vars), (.int .i64 b.start), (.slice mb b.next.length mc), (.slice gb b.final.length gc)]) 25 (0, 0)), objI z1 (.cells (List.toArray [(.int .i64 a.vars), (.int .i64 a.start), (.slice nb a.next.length nc), (.slice fb a.final.length fc)]) 25 (0, 0))] (itms 3 qs) rfl rfl), ?_⟩)⟩, ⟨_, rfl, rfl, l_build1 (v := (.bool b.final[k])) Tryd.underlying23 inf4 rfl rfl rfl (fun zB => ⟨.inr (Sub.pick0 [2, 4] [rowI (some ⟨zB, 0, none⟩) 1 4 1 [(.bool b.final[k])], rowI kb kc 3 1 (ints ((b.next[k].map fun x : Int => (a.next.length : Int) + x).take j)), objI z4 (.cells (List.toArray [(.int .i64 a.vars), (.int .i64 a.start), (.slice ob (a.next.length + k) oc), (.slice fb9 (a.final.length + k) fc9)]) 25 (0, 0)), rowI ob oc 33 1 (vals qs), rowI fb9 fc9 4 1 (bools fs), objI z2 (.cells (List.toArray [(.int .i64 b.vars), (.int .i64 b.start), (.slice mb b.next.length mc), (.slice gb b.final.length gc)]) 25 (0, 0)), objI z1 (.cells (List.toArray [(.int .i64 a.vars), (.int .i64 a.start), (.slice nb a.next.length nc), (.slice fb a.final.length fc)]) 25 (0, 0))] (itms 3 qs) rfl rfl), ?_⟩)⟩, trivial⟩ (by kernel_rfl)
                      · refine RO.forkT [4, 12] (by kernel_rfl) rfl ⟨⟨_, rfl, rfl, l_append 3 Tryd.underlying22 Tryd.underlying22 inf33 rfl rfl rfl rfl (by rw [List.length_map]; omega) (by decide) (Src.row (j := 0) rfl (by simp)) (by simp [oneB]) (by omega) (by decide) (by decide) (fun ob2 oc2 => ⟨.inr (Sub.pick0 [2, 4] [rowI (some ⟨zA, 0, none⟩) 1 33 1 [(.slice kb j kc)], rowI kb kc 3 1 (ints ((b.next[k].map fun x : Int => (a.next.length : Int) + x).take j)), objI z4 (.cells (List.toArray [(.int .i64 a.vars), (.int .i64 a.start), (.slice ob (a.next.length + k) oc), (.slice fb9 (a.final.length + k) fc9)]) 25 (0, 0)), rowI ob2 oc2 33 1 ((vals qs) ++ [(.slice kb j kc)]), rowI fb9 fc9 4 1 (bools fs), objI z2 (.cells (List.toArray [(.int .i64 b.vars), (.int .i64 b.start), (.slice mb b.next.length mc), (.slice gb b.final.length gc)]) 25 (0, 0)), objI z1 (.cells (List.toArray [(.int .i64 a.vars), (.int .i64 a.start), (.slice nb a.next.length nc), (.slice fb a.final.length fc)]) 25 (0, 0))] (itms 3 qs) rfl rfl), ?_⟩)⟩, ⟨_, rfl, rfl, l_build1 (v := (.bool b.final[k])) Tryd.underlying23 inf4 rfl rfl rfl (fun zB => ⟨.inr (Sub.pick0 [3, 5] [rowI (some ⟨zB, 0, none⟩) 1 4 1 [(.bool b.final[k])], rowI (some ⟨zA, 0, none⟩) 1 33 1 [(.slice kb j kc)], rowI kb kc 3 1 (ints ((b.next[k].map fun x : Int => (a.next.length : Int) + x).take j)), objI z4 (.cells (List.toArray [(.int .i64 a.vars), (.int .i64 a.start), (.slice ob (a.next.length + k) oc), (.slice fb9 (a.final.length + k) fc9)]) 25 (0, 0)), rowI ob oc 33 1 (vals qs), rowI fb9 fc9 4 1 (bools fs), objI z2 (.cells (List.toArray [(.int .i64 b.vars), (.int .i64 b.start), (.slice mb b.next.length mc), (.slice gb b.final.length gc)]) 25 (0, 0)), objI z1 (.cells (List.toArray [(.int .i64 a.vars), (.int .i64 a.start), (.slice nb a.next.length nc), (.slice fb a.final.length fc)]) 25 (0, 0))] (itms 3 qs) rfl rfl), ?_⟩)⟩, trivial⟩ (by kernel_rfl)
                        · refine RO.quietE 14 rfl (by kernel_rfl) (q_fieldAddr Tryd.underlying25 rfl inf22 rfl rfl) ?_
                          refine RO.forkT [12] (by kernel_rfl) rfl ⟨⟨_, rfl, rfl, l_build1 (v := (.bool b.final[k])) Tryd.underlying23 inf4 rfl rfl rfl (fun zB => ⟨.inr (Sub.pick0 [3, 5] [rowI (some ⟨zB, 0, none⟩) 1 4 1 [(.bool b.final[k])], rowI (some ⟨zA, 0, none⟩) 1 33 1 [(.slice kb j kc)], rowI kb kc 3 1 (ints ((b.next[k].map fun x : Int => (a.next.length : Int) + x).take j)), objI z4 (.cells (List.toArray [(.int .i64 a.vars), (.int .i64 a.start), (.slice ob (a.next.length + k) oc), (.slice fb9 (a.final.length + k) fc9)]) 25 (0, 0)), rowI ob2 oc2 33 1 ((vals qs) ++ [(.slice kb j kc)]), rowI fb9 fc9 4 1 (bools fs), objI z2 (.cells (List.toArray [(.int .i64 b.vars), (.int .i64 b.start), (.slice mb b.next.length mc), (.slice gb b.final.length gc)]) 25 (0, 0)), objI z1 (.cells (List.toArray [(.int .i64 a.vars), (.int .i64 a.start), (.slice nb a.next.length nc), (.slice fb a.final.length fc)]) 25 (0, 0))] (itms 3 qs) rfl rfl), ?_⟩)⟩, trivial⟩ (by kernel_rfl)
                          refine RO.forkT [13] (by kernel_rfl) rfl ⟨⟨_, rfl, rfl, l_append 5 Tryd.underlying23 Tryd.underlying23 inf4 rfl rfl rfl rfl (by rw [List.length_map]; omega) (by decide) (Src.row (j := 0) rfl (by simp)) (by simp [oneB]) (by omega) (by decide) (by decide) (fun fb2 fc2 => ⟨.inr (Sub.pick0 [3, 5] [rowI (some ⟨zB, 0, none⟩) 1 4 1 [(.bool b.final[k])], rowI (some ⟨zA, 0, none⟩) 1 33 1 [(.slice kb j kc)], rowI kb kc 3 1 (ints ((b.next[k].map fun x : Int => (a.next.length : Int) + x).take j)), objI z4 (.cells (List.toArray [(.int .i64 a.vars), (.int .i64 a.start), (.slice ob (a.next.length + k) oc), (.slice fb9 (a.final.length + k) fc9)]) 25 (0, 0)), rowI ob2 oc2 33 1 ((vals qs) ++ [(.slice kb j kc)]), rowI fb2 fc2 4 1 ((bools fs) ++ [(.bool b.final[k])]), objI z2 (.cells (List.toArray [(.int .i64 b.vars), (.int .i64 b.start), (.slice mb b.next.length mc), (.slice gb b.final.length gc)]) 25 (0, 0)), objI z1 (.cells (List.toArray [(.int .i64 a.vars), (.int .i64 a.start), (.slice nb a.next.length nc), (.slice fb a.final.length fc)]) 25 (0, 0))] (itms 3 qs) rfl rfl), ?_⟩)⟩, trivial⟩ (by kernel_rfl)
                          refine RO.forkT [15] (by kernel_rfl) rfl ⟨⟨_, rfl, rfl, l_store_box (v := (.slice ob2 ((a.next.length + k) + 1) oc2)) (vs := [(.slice ob2 ((a.next.length + k) + 1) oc2)]) 3 inf22 rfl rfl rfl rfl rfl rfl (by simp [putL]) ⟨.inl (by decide), ?_⟩⟩, trivial⟩ (by kernel_rfl)
                          refine RO.quietE 16 rfl (by kernel_rfl) (q_fieldAddr Tryd.underlying25 rfl inf23 rfl rfl) ?_
                          refine RO.forkT [17] (by kernel_rfl) rfl ⟨⟨_, rfl, rfl, l_store_box (v := (.slice fb2 ((a.final.length + k) + 1) fc2)) (vs := [(.slice fb2 ((a.final.length + k) + 1) fc2)]) 3 inf23 rfl rfl rfl rfl rfl rfl (by simp [putL]) ⟨.inl (by decide), ?_⟩⟩, trivial⟩ (by kernel_rfl)
                          exact RO.sub (O' := ([objI z4 (.cells (List.toArray [(.int .i64 a.vars), (.int .i64 a.start), (.slice ob2 (a.next.length + k + 1) oc2), (.slice fb2 (a.final.length + k + 1) fc2)]) 25 (0, 0)), rowI ob2 oc2 33 1 ((vals qs) ++ [(.slice kb j kc)]), rowI fb2 fc2 4 1 ((bools fs) ++ [(.bool b.final[k])]), objI z2 (.cells (List.toArray [(.int .i64 b.vars), (.int .i64 b.start), (.slice mb b.next.length mc), (.slice gb b.final.length gc)]) 25 (0, 0)), objI z1 (.cells (List.toArray [(.int .i64 a.vars), (.int .i64 a.start), (.slice nb a.next.length nc), (.slice fb a.final.length fc)]) 25 (0, 0))] ++ (itms 3 (qs ++ [⟨kb, kc, b.next[k].map fun x : Int => (a.next.length : Int) + x⟩])))) (by show Sub _ ([rowI (some ⟨zB, 0, none⟩) 1 4 1 [(.bool b.final[k])], rowI (some ⟨zA, 0, none⟩) 1 33 1 [(.slice kb j kc)], rowI kb kc 3 1 (ints ((b.next[k].map fun x : Int => (a.next.length : Int) + x).take j)), objI z4 (.cells (List.toArray [(.int .i64 a.vars), (.int .i64 a.start), (.slice ob2 ((a.next.length + k) + 1) oc2), (.slice fb2 ((a.final.length + k) + 1) fc2)]) 25 (0, 0)), rowI ob2 oc2 33 1 ((vals qs) ++ [(.slice kb j kc)]), rowI fb2 fc2 4 1 ((bools fs) ++ [(.bool b.final[k])]), objI z2 (.cells (List.toArray [(.int .i64 b.vars), (.int .i64 b.start), (.slice mb b.next.length mc), (.slice gb b.final.length gc)]) 25 (0, 0)), objI z1 (.cells (List.toArray [(.int .i64 a.vars), (.int .i64 a.start), (.slice nb a.next.length nc), (.slice fb a.final.length fc)]) 25 (0, 0))] ++ itms 3 qs); rw [hR]; exact Sub.cnt [rowI (some ⟨zB, 0, none⟩) 1 4 1 [(.bool b.final[k])], rowI (some ⟨zA, 0, none⟩) 1 33 1 [(.slice kb j kc)]] (by intro a; simp only [itms, List.set_cons_zero, List.set_cons_succ, putL, List.cons_append, List.nil_append, List.append_nil, List.append_assoc, List.map_append, List.map_cons, List.map_nil, cnt_append, cnt_cons, cnt_nil] <;> omega)) (RO.done (by kernel_rfl) ⟨ob2, oc2, fb2, fc2, rfl, ⟨rfl, rfl, rfl, rfl, rfl, rfl, rfl, rfl, rfl, rfl, trivial⟩⟩)
                        · refine RO.forkT [4] (by kernel_rfl) rfl ⟨⟨_, rfl, rfl, l_append 4 Tryd.underlying22 Tryd.underlying22 inf33 rfl rfl rfl rfl (by rw [List.length_map]; omega) (by decide) (Src.row (j := 1) rfl (by simp)) (by simp [oneB]) (by omega) (by decide) (by decide) (fun ob2 oc2 => ⟨.inr (Sub.pick0 [3, 5] [rowI (some ⟨zB, 0, none⟩) 1 4 1 [(.bool b.final[k])], rowI (some ⟨zA, 0, none⟩) 1 33 1 [(.slice kb j kc)], rowI kb kc 3 1 (ints ((b.next[k].map fun x : Int => (a.next.length : Int) + x).take j)), objI z4 (.cells (List.toArray [(.int .i64 a.vars), (.int .i64 a.start), (.slice ob (a.next.length + k) oc), (.slice fb9 (a.final.length + k) fc9)]) 25 (0, 0)), rowI ob2 oc2 33 1 ((vals qs) ++ [(.slice kb j kc)]), rowI fb9 fc9 4 1 (bools fs), objI z2 (.cells (List.toArray [(.int .i64 b.vars), (.int .i64 b.start), (.slice mb b.next.length mc), (.slice gb b.final.length gc)]) 25 (0, 0)), objI z1 (.cells (List.toArray [(.int .i64 a.vars), (.int .i64 a.start), (.slice nb a.next.length nc), (.slice fb a.final.length fc)]) 25 (0, 0))] (itms 3 qs) rfl rfl), ?_⟩)⟩, trivial⟩ (by kernel_rfl)
                          refine RO.quietE 14 rfl (by kernel_rfl) (q_fieldAddr Tryd.underlying25 rfl inf22 rfl rfl) ?_
                          refine RO.forkT [13] (by kernel_rfl) rfl ⟨⟨_, rfl, rfl, l_append 5 Tryd.underlying23 Tryd.underlying23 inf4 rfl rfl rfl rfl (by rw [List.length_map]; omega) (by decide) (Src.row (j := 0) rfl (by simp)) (by simp [oneB]) (by omega) (by decide) (by decide) (fun fb2 fc2 => ⟨.inr (Sub.pick0 [3, 5] [rowI (some ⟨zB, 0, none⟩) 1 4 1 [(.bool b.final[k])], rowI (some ⟨zA, 0, none⟩) 1 33 1 [(.slice kb j kc)], rowI kb kc 3 1 (ints ((b.next[k].map fun x : Int => (a.next.length : Int) + x).take j)), objI z4 (.cells (List.toArray [(.int .i64 a.vars), (.int .i64 a.start), (.slice ob (a.next.length + k) oc), (.slice fb9 (a.final.length + k) fc9)]) 25 (0, 0)), rowI ob2 oc2 33 1 ((vals qs) ++ [(.slice kb j kc)]), rowI fb2 fc2 4 1 ((bools fs) ++ [(.bool b.final[k])]), objI z2 (.cells (List.toArray [(.int .i64 b.vars), (.int .i64 b.start), (.slice mb b.next.length mc), (.slice gb b.final.length gc)]) 25 (0, 0)), objI z1 (.cells (List.toArray [(.int .i64 a.vars), (.int .i64 a.start), (.slice nb a.next.length nc), (.slice fb a.final.length fc)]) 25 (0, 0))] (itms 3 qs) rfl rfl), ?_⟩)⟩, trivial⟩ (by kernel_rfl)
                          refine RO.forkT [15] (by kernel_rfl) rfl ⟨⟨_, rfl, rfl, l_store_box (v := (.slice ob2 ((a.next.length + k) + 1) oc2)) (vs := [(.slice ob2 ((a.next.length + k) + 1) oc2)]) 3 inf22 rfl rfl rfl rfl rfl rfl (by simp [putL]) ⟨.inl (by decide), ?_⟩⟩, trivial⟩ (by kernel_rfl)
                          refine RO.quietE 16 rfl (by kernel_rfl) (q_fieldAddr Tryd.underlying25 rfl inf23 rfl rfl) ?_
                          refine RO.forkT [17] (by kernel_rfl) rfl ⟨⟨_, rfl, rfl, l_store_box (v := (.slice fb2 ((a.final.length + k) + 1) fc2)) (vs := [(.slice fb2 ((a.final.length + k) + 1) fc2)]) 3 inf23 rfl rfl rfl rfl rfl rfl (by simp [putL]) ⟨.inl (by decide), ?_⟩⟩, trivial⟩ (by kernel_rfl)
                          exact RO.sub (O' := ([objI z4 (.cells (List.toArray [(.int .i64 a.vars), (.int .i64 a.start), (.slice ob2 (a.next.length + k + 1) oc2), (.slice fb2 (a.final.length + k + 1) fc2)]) 25 (0, 0)), rowI ob2 oc2 33 1 ((vals qs) ++ [(.slice kb j kc)]), rowI fb2 fc2 4 1 ((bools fs) ++ [(.bool b.final[k])]), objI z2 (.cells (List.toArray [(.int .i64 b.vars), (.int .i64 b.start), (.slice mb b.next.length mc), (.slice gb b.final.length gc)]) 25 (0, 0)), objI z1 (.cells (List.toArray [(.int .i64 a.vars), (.int .i64 a.start), (.slice nb a.next.length nc), (.slice fb a.final.length fc)]) 25 (0, 0))] ++ (itms 3 (qs ++ [⟨kb, kc, b.next[k].map fun x : Int => (a.next.length : Int) + x⟩])))) (by show Sub _ ([rowI (some ⟨zB, 0, none⟩) 1 4 1 [(.bool b.final[k])], rowI (some ⟨zA, 0, none⟩) 1 33 1 [(.slice kb j kc)], rowI kb kc 3 1 (ints ((b.next[k].map fun x : Int => (a.next.length : Int) + x).take j)), objI z4 (.cells (List.toArray [(.int .i64 a.vars), (.int .i64 a.start), (.slice ob2 ((a.next.length + k) + 1) oc2), (.slice fb2 ((a.final.length + k) + 1) fc2)]) 25 (0, 0)), rowI ob2 oc2 33 1 ((vals qs) ++ [(.slice kb j kc)]), rowI fb2 fc2 4 1 ((bools fs) ++ [(.bool b.final[k])]), objI z2 (.cells (List.toArray [(.int .i64 b.vars), (.int .i64 b.start), (.slice mb b.next.length mc), (.slice gb b.final.length gc)]) 25 (0, 0)), objI z1 (.cells (List.toArray [(.int .i64 a.vars), (.int .i64 a.start), (.slice nb a.next.length nc), (.slice fb a.final.length fc)]) 25 (0, 0))] ++ itms 3 qs); rw [hR]; exact Sub.cnt [rowI (some ⟨zB, 0, none⟩) 1 4 1 [(.bool b.final[k])], rowI (some ⟨zA, 0, none⟩) 1 33 1 [(.slice kb j kc)]] (by intro a; simp only [itms, List.set_cons_zero, List.set_cons_succ, putL, List.cons_append, List.nil_append, List.append_nil, List.append_assoc, List.map_append, List.map_cons, List.map_nil, cnt_append, cnt_cons, cnt_nil] <;> omega)) (RO.done (by kernel_rfl) ⟨ob2, oc2, fb2, fc2, rfl, ⟨rfl, rfl, rfl, rfl, rfl, rfl, rfl, rfl, rfl, rfl, trivial⟩⟩)
                      · refine RO.forkT [3] (by kernel_rfl) rfl ⟨⟨_, rfl, rfl, l_build1 (v := (.slice kb j kc)) Tryd.underlying22 inf33 rfl rfl rfl (fun zA => ⟨.inr (Sub.pick0 [3, 5] [rowI (some ⟨zA, 0, none⟩) 1 33 1 [(.slice kb j kc)], rowI (some ⟨zB, 0, none⟩) 1 4 1 [(.bool b.final[k])], rowI kb kc 3 1 (ints ((b.next[k].map fun x : Int => (a.next.length : Int) + x).take j)), objI z4 (.cells (List.toArray [(.int .i64 a.vars), (.int .i64 a.start), (.slice ob (a.next.length + k) oc), (.slice fb9 (a.final.length + k) fc9)]) 25 (0, 0)), rowI ob oc 33 1 (vals qs), rowI fb9 fc9 4 1 (bools fs), objI z2 (.cells (List.toArray [(.int .i64 b.vars), (.int .i64 b.start), (.slice mb b.next.length mc), (.slice gb b.final.length gc)]) 25 (0, 0)), objI z1 (.cells (List.toArray [(.int .i64 a.vars), (.int .i64 a.start), (.slice nb a.next.length nc), (.slice fb a.final.length fc)]) 25 (0, 0))] (itms 3 qs) rfl rfl), ?_⟩)⟩, trivial⟩ (by kernel_rfl)
                        refine RO.forkT [4] (by kernel_rfl) rfl ⟨⟨_, rfl, rfl, l_append 4 Tryd.underlying22 Tryd.underlying22 inf33 rfl rfl rfl rfl (by rw [List.length_map]; omega) (by decide) (Src.row (j := 0) rfl (by simp)) (by simp [oneB]) (by omega) (by decide) (by decide) (fun ob2 oc2 => ⟨.inr (Sub.pick0 [3, 5] [rowI (some ⟨zA, 0, none⟩) 1 33 1 [(.slice kb j kc)], rowI (some ⟨zB, 0, none⟩) 1 4 1 [(.bool b.final[k])], rowI kb kc 3 1 (ints ((b.next[k].map fun x : Int => (a.next.length : Int) + x).take j)), objI z4 (.cells (List.toArray [(.int .i64 a.vars), (.int .i64 a.start), (.slice ob (a.next.length + k) oc), (.slice fb9 (a.final.length + k) fc9)]) 25 (0, 0)), rowI ob2 oc2 33 1 ((vals qs) ++ [(.slice kb j kc)]), rowI fb9 fc9 4 1 (bools fs), objI z2 (.cells (List.toArray [(.int .i64 b.vars), (.int .i64 b.start), (.slice mb b.next.length mc), (.slice gb b.final.length gc)]) 25 (0, 0)), objI z1 (.cells (List.toArray [(.int .i64 a.vars), (.int .i64 a.start), (.slice nb a.next.length nc), (.slice fb a.final.length fc)]) 25 (0, 0))] (itms 3 qs) rfl rfl), ?_⟩)⟩, trivial⟩ (by kernel_rfl)
                        refine RO.quietE 14 rfl (by kernel_rfl) (q_fieldAddr Tryd.underlying25 rfl inf22 rfl rfl) ?_
                        refine RO.forkT [13] (by kernel_rfl) rfl ⟨⟨_, rfl, rfl, l_append 5 Tryd.underlying23 Tryd.underlying23 inf4 rfl rfl rfl rfl (by rw [List.length_map]; omega) (by decide) (Src.row (j := 1) rfl (by simp)) (by simp [oneB]) (by omega) (by decide) (by decide) (fun fb2 fc2 => ⟨.inr (Sub.pick0 [3, 5] [rowI (some ⟨zA, 0, none⟩) 1 33 1 [(.slice kb j kc)], rowI (some ⟨zB, 0, none⟩) 1 4 1 [(.bool b.final[k])], rowI kb kc 3 1 (ints ((b.next[k].map fun x : Int => (a.next.length : Int) + x).take j)), objI z4 (.cells (List.toArray [(.int .i64 a.vars), (.int .i64 a.start), (.slice ob (a.next.length + k) oc), (.slice fb9 (a.final.length + k) fc9)]) 25 (0, 0)), rowI ob2 oc2 33 1 ((vals qs) ++ [(.slice kb j kc)]), rowI fb2 fc2 4 1 ((bools fs) ++ [(.bool b.final[k])]), objI z2 (.cells (List.toArray [(.int .i64 b.vars), (.int .i64 b.start), (.slice mb b.next.length mc), (.slice gb b.final.length gc)]) 25 (0, 0)), objI z1 (.cells (List.toArray [(.int .i64 a.vars), (.int .i64 a.start), (.slice nb a.next.length nc), (.slice fb a.final.length fc)]) 25 (0, 0))] (itms 3 qs) rfl rfl), ?_⟩)⟩, trivial⟩ (by kernel_rfl)
                        refine RO.forkT [15] (by kernel_rfl) rfl ⟨⟨_, rfl, rfl, l_store_box (v := (.slice ob2 ((a.next.length + k) + 1) oc2)) (vs := [(.slice ob2 ((a.next.length + k) + 1) oc2)]) 3 inf22 rfl rfl rfl rfl rfl rfl (by simp [putL]) ⟨.inl (by decide), ?_⟩⟩, trivial⟩ (by kernel_rfl)
                        refine RO.quietE 16 rfl (by kernel_rfl) (q_fieldAddr Tryd.underlying25 rfl inf23 rfl rfl) ?_
                        refine RO.forkT [17] (by kernel_rfl) rfl ⟨⟨_, rfl, rfl, l_store_box (v := (.slice fb2 ((a.final.length + k) + 1) fc2)) (vs := [(.slice fb2 ((a.final.length + k) + 1) fc2)]) 3 inf23 rfl rfl rfl rfl rfl rfl (by simp [putL]) ⟨.inl (by decide), ?_⟩⟩, trivial⟩ (by kernel_rfl)
                        exact RO.sub (O' := ([objI z4 (.cells (List.toArray [(.int .i64 a.vars), (.int .i64 a.start), (.slice ob2 (a.next.length + k + 1) oc2), (.slice fb2 (a.final.length + k + 1) fc2)]) 25 (0, 0)), rowI ob2 oc2 33 1 ((vals qs) ++ [(.slice kb j kc)]), rowI fb2 fc2 4 1 ((bools fs) ++ [(.bool b.final[k])]), objI z2 (.cells (List.toArray [(.int .i64 b.vars), (.int .i64 b.start), (.slice mb b.next.length mc), (.slice gb b.final.length gc)]) 25 (0, 0)), objI z1 (.cells (List.toArray [(.int .i64 a.vars), (.int .i64 a.start), (.slice nb a.next.length nc), (.slice fb a.final.length fc)]) 25 (0, 0))] ++ (itms 3 (qs ++ [⟨kb, kc, b.next[k].map fun x : Int => (a.next.length : Int) + x⟩])))) (by show Sub _ ([rowI (some ⟨zA, 0, none⟩) 1 33 1 [(.slice kb j kc)], rowI (some ⟨zB, 0, none⟩) 1 4 1 [(.bool b.final[k])], rowI kb kc 3 1 (ints ((b.next[k].map fun x : Int => (a.next.length : Int) + x).take j)), objI z4 (.cells (List.toArray [(.int .i64 a.vars), (.int .i64 a.start), (.slice ob2 ((a.next.length + k) + 1) oc2), (.slice fb2 ((a.final.length + k) + 1) fc2)]) 25 (0, 0)), rowI ob2 oc2 33 1 ((vals qs) ++ [(.slice kb j kc)]), rowI fb2 fc2 4 1 ((bools fs) ++ [(.bool b.final[k])]), objI z2 (.cells (List.toArray [(.int .i64 b.vars), (.int .i64 b.start), (.slice mb b.next.length mc), (.slice gb b.final.length gc)]) 25 (0, 0)), objI z1 (.cells (List.toArray [(.int .i64 a.vars), (.int .i64 a.start), (.slice nb a.next.length nc), (.slice fb a.final.length fc)]) 25 (0, 0))] ++ itms 3 qs); rw [hR]; exact Sub.cnt [rowI (some ⟨zA, 0, none⟩) 1 33 1 [(.slice kb j kc)], rowI (some ⟨zB, 0, none⟩) 1 4 1 [(.bool b.final[k])]] (by intro a; simp only [itms, List.set_cons_zero, List.set_cons_succ, putL, List.cons_append, List.nil_append, List.append_nil, List.append_assoc, List.map_append, List.map_cons, List.map_nil, cnt_append, cnt_cons, cnt_nil] <;> omega)) (RO.done (by kernel_rfl) ⟨ob2, oc2, fb2, fc2, rfl, ⟨rfl, rfl, rfl, rfl, rfl, rfl, rfl, rfl, rfl, rfl, trivial⟩⟩)
                    · rintro ρ O ⟨ob2, oc2, fb2, fc2, rfl, hH⟩
                      obtain ⟨ρ0, rfl⟩ := hH.elim
                      clear hH
                      refine T.region ?_
                      refine TO.quiet (q_move rfl) ?_
                      refine TO.quiet (q_inc rfl rfl (by omega)) ?_
                      refine TO.quiet (q_assign rfl) ?_
                      refine TO.nil ?_
                      refine ⟨k + 1, by omega, ob2, fb2, oc2, fc2, qs ++ [⟨kb, kc, b.next[k].map fun x : Int => (a.next.length : Int) + x⟩], fs ++ [b.final[k]], ?_, by omega, ?_, ?_, ⟨rfl, rfl, rfl, rfl, rfl, rfl, rfl, rfl, trivial⟩⟩
                      · simp [Rec.val, hjf, Nat.add_assoc]
                      · rw [bothN_next hlt63, ← hqs]; simp
                      · rw [bothN_final hkf, hfs]
              · have hge63 : ¬ k < b.next.length := by omega
                refine T.exit ?_
                refine T.seq ?_
                obtain rfl : k = b.next.length := by omega
                rw [bothN_full hvb] at hqs hfs
                obtain rfl : fs = (both a b).final := hfs
                have hvB : Valid (both a b) := both_valid hva hvb hvars (by omega)
                have hbn : a.next.length + b.next.length = (both a b).next.length := (both_len a b).symm
                have hbf9 : a.final.length + b.next.length = (both a b).final.length := by rw [hvB.fin, ← hbn, hfa]
                refine T.region ?_
                refine TO.quiet (q_load_boxAgg 4 Tryd.underlying25 rfl inf25 rfl rfl rfl) ?_
                have hk109 := fun (w1 : World) (hI : Inv w ([objI z4 (.cells (List.toArray [(.int .i64 a.vars), (.int .i64 a.start), (.slice ob (a.next.length + b.next.length) oc), (.slice fb9 (a.final.length + b.next.length) fc9)]) 25 (0, 0)), rowI ob oc 33 1 (vals qs), rowI fb9 fc9 4 1 (bools (both a b).final), objI z2 (.cells (List.toArray [(.int .i64 b.vars), (.int .i64 b.start), (.slice mb b.next.length mc), (.slice gb b.final.length gc)]) 25 (0, 0)), objI z1 (.cells (List.toArray [(.int .i64 a.vars), (.int .i64 a.start), (.slice nb a.next.length nc), (.slice fb a.final.length fc)]) 25 (0, 0))] ++ (itms 3 qs)) w1) => minA w1 a nb fb nc fc vs (hI.dfa ha) hb hbr hbf (fun _ => by omega)
                refine TO.loud rfl (l_call ent17 (CallT.of_pure hk109) rfl ?_)
                clear hk109
                rintro v O' ⟨N, rfl, nb1, nc1, fb1, fc1, qs1, rfl, rfl, hq1⟩
                refine TO.sub (O' := ([rowI nb1 nc1 33 1 (vals qs1), rowI fb1 fc1 4 1 (bools (minV a).final), objI z4 (.cells (List.toArray [(.int .i64 a.vars), (.int .i64 a.start), (.slice ob (a.next.length + b.next.length) oc), (.slice fb9 (a.final.length + b.next.length) fc9)]) 25 (0, 0)), rowI ob oc 33 1 (vals qs), rowI fb9 fc9 4 1 (bools (both a b).final), objI z2 (.cells (List.toArray [(.int .i64 b.vars), (.int .i64 b.start), (.slice mb b.next.length mc), (.slice gb b.final.length gc)]) 25 (0, 0)), objI z1 (.cells (List.toArray [(.int .i64 a.vars), (.int .i64 a.start), (.slice nb a.next.length nc), (.slice fb a.final.length fc)]) 25 (0, 0))] ++ ((itms 3 qs1) ++ (itms 3 qs)))) (Sub.cnt [] (by intro a; simp only [itms, List.set_cons_zero, List.set_cons_succ, putL, List.cons_append, List.nil_append, List.append_nil, List.append_assoc, List.map_append, List.map_cons, List.map_nil, cnt_append, cnt_cons, cnt_nil] <;> omega)) ?_
                refine TO.quiet (q_move rfl) ?_
                refine TO.quiet (q_extract (vs := _) rfl rfl) ?_
                refine TO.quiet (q_extract (vs := _) rfl rfl) ?_
                refine TO.loud rfl (l_alloc inf25 rfl (fun z8 => ?_))
                refine TO.loud rfl (l_store_box (v := (.agg #[(.int .i64 (minV a).vars), (.int .i64 (minV a).start), (.slice nb1 ((minV a).next.length) nc1), (.slice fb1 ((minV a).final.length) fc1)])) (vs := [(.int .i64 (minV a).vars), (.int .i64 (minV a).start), (.slice nb1 ((minV a).next.length) nc1), (.slice fb1 ((minV a).final.length) fc1)]) 0 inf25 rfl rfl rfl rfl rfl rfl (by simp [putL]) ?_)
                refine TO.quiet (q_assign rfl) ?_
                refine TO.nil ?_
                refine T.seq ?_
                refine T.region ?_
                refine TO.quiet (q_load_boxAgg 6 Tryd.underlying25 rfl inf25 rfl rfl rfl) ?_
                have hk114 := fun (w1 : World) (hI : Inv w ([objI z8 (.cells (List.toArray [(.int .i64 (minV a).vars), (.int .i64 (minV a).start), (.slice nb1 ((minV a).next.length) nc1), (.slice fb1 ((minV a).final.length) fc1)]) 25 (0, 0)), rowI nb1 nc1 33 1 (vals qs1), rowI fb1 fc1 4 1 (bools (minV a).final), objI z4 (.cells (List.toArray [(.int .i64 a.vars), (.int .i64 a.start), (.slice ob (a.next.length + b.next.length) oc), (.slice fb9 (a.final.length + b.next.length) fc9)]) 25 (0, 0)), rowI ob oc 33 1 (vals qs), rowI fb9 fc9 4 1 (bools (both a b).final), objI z2 (.cells (List.toArray [(.int .i64 b.vars), (.int .i64 b.start), (.slice mb b.next.length mc), (.slice gb b.final.length gc)]) 25 (0, 0)), objI z1 (.cells (List.toArray [(.int .i64 a.vars), (.int .i64 a.start), (.slice nb a.next.length nc), (.slice fb a.final.length fc)]) 25 (0, 0))] ++ ((itms 3 qs1) ++ (itms 3 qs))) w1) => minA w1 b mb gb mc gc us (hI.dfa h2) hb2 hbr2 hbf2 (fun _ => by omega)
                refine TO.loud rfl (l_call ent17 (CallT.of_pure hk114) rfl ?_)
                clear hk114
                rintro v O' ⟨N, rfl, nb2, nc2, fb2, fc2, qs2, rfl, rfl, hq2⟩
                refine TO.sub (O' := ([rowI nb2 nc2 33 1 (vals qs2), rowI fb2 fc2 4 1 (bools (minV b).final), objI z8 (.cells (List.toArray [(.int .i64 (minV a).vars), (.int .i64 (minV a).start), (.slice nb1 ((minV a).next.length) nc1), (.slice fb1 ((minV a).final.length) fc1)]) 25 (0, 0)), rowI nb1 nc1 33 1 (vals qs1), rowI fb1 fc1 4 1 (bools (minV a).final), objI z4 (.cells (List.toArray [(.int .i64 a.vars), (.int .i64 a.start), (.slice ob (a.next.length + b.next.length) oc), (.slice fb9 (a.final.length + b.next.length) fc9)]) 25 (0, 0)), rowI ob oc 33 1 (vals qs), rowI fb9 fc9 4 1 (bools (both a b).final), objI z2 (.cells (List.toArray [(.int .i64 b.vars), (.int .i64 b.start), (.slice mb b.next.length mc), (.slice gb b.final.length gc)]) 25 (0, 0)), objI z1 (.cells (List.toArray [(.int .i64 a.vars), (.int .i64 a.start), (.slice nb a.next.length nc), (.slice fb a.final.length fc)]) 25 (0, 0))] ++ ((itms 3 qs2) ++ ((itms 3 qs1) ++ (itms 3 qs))))) (Sub.cnt [] (by intro a; simp only [itms, List.set_cons_zero, List.set_cons_succ, putL, List.cons_append, List.nil_append, List.append_nil, List.append_assoc, List.map_append, List.map_cons, List.map_nil, cnt_append, cnt_cons, cnt_nil] <;> omega)) ?_
                refine TO.quiet (q_move rfl) ?_
                refine TO.quiet (q_extract (vs := _) rfl rfl) ?_
                refine TO.quiet (q_extract (vs := _) rfl rfl) ?_
                refine TO.loud rfl (l_alloc inf25 rfl (fun z9 => ?_))
                refine TO.loud rfl (l_store_box (v := (.agg #[(.int .i64 (minV b).vars), (.int .i64 (minV b).start), (.slice nb2 ((minV b).next.length) nc2), (.slice fb2 ((minV b).final.length) fc2)])) (vs := [(.int .i64 (minV b).vars), (.int .i64 (minV b).start), (.slice nb2 ((minV b).next.length) nc2), (.slice fb2 ((minV b).final.length) fc2)]) 0 inf25 rfl rfl rfl rfl rfl rfl (by simp [putL]) ?_)
                refine TO.quiet (q_assign rfl) ?_
                refine TO.nil ?_
                refine T.seq ?_
                refine T.region ?_
                refine TO.quiet (q_load_boxAgg 6 Tryd.underlying25 rfl inf25 rfl rfl rfl) ?_
                refine TO.quiet (q_fieldAddr Tryd.underlying25 rfl inf3 rfl rfl) ?_
                refine TO.quiet (q_load_box 10 Tryd.underlying3 rfl rfl rfl rfl) ?_
                refine TO.quiet (q_fieldAddr Tryd.underlying25 rfl inf22 rfl rfl) ?_
                refine TO.quiet (q_load_box 10 Tryd.underlying22 rfl rfl rfl rfl) ?_
                refine TO.quiet (q_len Tryd.underlying22 rfl) ?_
                refine TO.quiet (q_fieldAddr Tryd.underlying25 rfl inf3 rfl rfl) ?_
                refine TO.quiet (q_load_box 9 Tryd.underlying3 rfl rfl rfl rfl) ?_
                refine TO.quiet (q_add64 rfl rfl (by omega)) ?_
                have hk127 := fun (w1 : World) (hI : Inv w ([objI z9 (.cells (List.toArray [(.int .i64 (minV b).vars), (.int .i64 (minV b).start), (.slice nb2 ((minV b).next.length) nc2), (.slice fb2 ((minV b).final.length) fc2)]) 25 (0, 0)), rowI nb2 nc2 33 1 (vals qs2), rowI fb2 fc2 4 1 (bools (minV b).final), objI z8 (.cells (List.toArray [(.int .i64 (minV a).vars), (.int .i64 (minV a).start), (.slice nb1 ((minV a).next.length) nc1), (.slice fb1 ((minV a).final.length) fc1)]) 25 (0, 0)), rowI nb1 nc1 33 1 (vals qs1), rowI fb1 fc1 4 1 (bools (minV a).final), objI z4 (.cells (List.toArray [(.int .i64 a.vars), (.int .i64 a.start), (.slice ob (a.next.length + b.next.length) oc), (.slice fb9 (a.final.length + b.next.length) fc9)]) 25 (0, 0)), rowI ob oc 33 1 (vals qs), rowI fb9 fc9 4 1 (bools (both a b).final), objI z2 (.cells (List.toArray [(.int .i64 b.vars), (.int .i64 b.start), (.slice mb b.next.length mc), (.slice gb b.final.length gc)]) 25 (0, 0)), objI z1 (.cells (List.toArray [(.int .i64 a.vars), (.int .i64 a.start), (.slice nb a.next.length nc), (.slice fb a.final.length fc)]) 25 (0, 0))] ++ ((itms 3 qs2) ++ ((itms 3 qs1) ++ (itms 3 qs)))) w1) => distB w1 (both a b) ob fb9 oc fc9 (vals qs) (a.next.length + b.next.length) (a.final.length + b.next.length) hbn hbf9 (show DfaAt w1 (both a b) ob (vals qs) fb9 from ⟨hI.slOf (List.mem_of_getElem? (i := 7) rfl), (show nums qs = ((both a b)).next from hqs) ▸ hI.recs (fun q hq => List.mem_append_right _ (List.mem_append_right _ (List.mem_append_right _ (List.mem_map_of_mem (f := Rec.itm 3) hq)))), hI.slOf (List.mem_of_getElem? (i := 8) rfl)⟩) (by omega) (fun r hr => hvB.bound r hr) (by omega) (fun _ => by omega) a.start ((a.next.length : Int) + b.start)
                refine TO.loud rfl (l_call ent25 (CallT.of_pure hk127) rfl ?_)
                clear hk127
                rintro v O' ⟨N, rfl, res, ub, uc, hT, rfl, rfl⟩
                refine TO.quiet (q_move rfl) ?_
                refine TO.quiet (q_extract (vs := _) rfl rfl) ?_
                refine TO.quiet (q_extract (vs := _) rfl rfl) ?_
                refine TO.quiet (q_extract (vs := _) rfl rfl) ?_
                refine TO.quiet (q_assign rfl) ?_
                refine TO.quiet (q_assign rfl) ?_
                refine TO.quiet (q_assign rfl) ?_
                refine TO.nil ?_
                refine T.seq ?_
                refine T.seq ?_
                have heD : ((eD (both a b) a.start ((a.next.length : Int) + b.start) : Nat) : Int) = 0 := by rw [eD_zero.2 ⟨hvB, by omega, by omega, by omega, by omega⟩]; rfl
                have hTl : Tell (both a b) a.start.toNat (a.next.length + b.start.toNat) res := by
                  have hT := hT
                  rw [show a.start = ((a.start.toNat : Nat) : Int) by omega, show (a.next.length : Int) + b.start = ((a.next.length + b.start.toNat : Nat) : Int) by omega] at hT
                  exact hT.tell hvB (by omega) (by omega)
                have hiff := both_tell hva hvb hvars hTl
                rw [← minV_valid hva, ← minV_valid hvb] at hiff
                have hnone : ¬ res.isSome = true → res = none := fun h9 => by cases res with
                  | none => rfl
                  | some u => exact absurd rfl h9
                have hul : (res.getD []).length < a.next.length + b.next.length := by
                  cases res with
                  | none => have := hva.n0; exact (show 0 < _ by omega)
                  | some u => rw [hbn]; exact Tell.lt hvB (by omega) (by omega) hTl
                have hulen : (res.getD []).length < 9223372036854775807 := by omega
                have huw : Wd a (res.getD []) := by
                  cases res with
                  | none => exact fun x hx => (List.not_mem_nil hx).elim
                  | some u => exact (show Wd a u from (show Wd (both a b) u from (show IsLeast (both a b) a.start.toNat (a.next.length + b.start.toNat) u from hTl).wd))
                have huwb : Wd b (res.getD []) := fun y hy => by have := huw y hy; unfold letN at *; rw [← hvars]; exact this
                have hu8 : ∀ x ∈ res.getD [], x < 256 := fun x hx => by have := hva.wd64 huw x hx; omega
                have hra : (res.getD []).length ≤ 64 → runE a (res.getD []) = 0 := fun h9 => runE_zero.2 ⟨hva, h9, huw⟩
                have hrb : (res.getD []).length ≤ 64 → runE b (res.getD []) = 0 := fun h9 => runE_zero.2 ⟨hvb, h9, huwb⟩
                have hrr : runE a l = runE b l := both_runE hva hvb hvars l
                have hxyis : (res.getD []).length ≤ 64 → ((accV a (res.getD []) != accV b (res.getD [])) == res.isSome) = true := fun h9 => by
                  rw [accV_zero (hra h9), accV_zero (hrb h9), beq_iff_eq, Bool.eq_iff_iff, bne_iff_ne, ← both_dst hva hvb hvars huw]
                  cases res with
                  | none => exact ⟨fun h8 => absurd h8 ((show ∀ u, Wd (both a b) u → ¬ dst (both a b) a.start.toNat (a.next.length + b.start.toNat) u from hTl) [] huw), fun h8 => absurd h8 (by decide)⟩
                  | some u => exact ⟨fun _ => rfl, fun _ => (show IsLeast (both a b) a.start.toNat (a.next.length + b.start.toNat) u from hTl).dst⟩
                have hpq : ¬ res.isSome = true → accV a l = accV b l := fun h9 => by
                  by_cases hr0 : runE a l = 0
                  · rw [accV_zero hr0, accV_zero (hrr ▸ hr0)]
                    have hwl := (runE_zero.1 hr0).2.2
                    have h8 : Tell (both a b) a.start.toNat (a.next.length + b.start.toNat) none := hnone h9 ▸ hTl
                    have hn := (show ∀ u, Wd (both a b) u → ¬ dst (both a b) a.start.toNat (a.next.length + b.start.toNat) u from h8) l hwl
                    rw [both_dst hva hvb hvars hwl] at hn
                    exact Classical.not_not.1 hn
                  · unfold accV; rw [if_neg hr0, if_neg (hrr ▸ hr0)]
                refine T.region ?_
                refine TO.quiet (q_move rfl) ?_
                refine TO.quiet (QT.toB (q_neq rfl rfl) (decide_eq_false hEa)) ?_
                refine TO.quiet (q_move rfl) ?_
                refine TO.guarded rfl rfl rfl (LT.of_quiet rfl rfl (q_move rfl) ?_)
                refine TO.guarded rfl rfl rfl (LT.of_quiet rfl rfl (QT.toB (q_neq rfl rfl) (decide_eq_false hEb)) ?_)
                refine TO.quiet (q_pick0 rfl rfl) ?_
                refine TO.quiet (q_move rfl) ?_
                refine TO.guarded rfl rfl rfl (LT.of_quiet rfl rfl (q_move rfl) ?_)
                refine TO.guarded rfl rfl rfl (LT.of_quiet rfl rfl (QT.toB (q_neq rfl rfl) (decide_eq_false (fun h9 => h9 heD))) ?_)
                refine TO.quiet (q_pick0 rfl rfl) ?_
                refine TO.quiet (q_move rfl) ?_
                refine TO.guarded rfl rfl rfl (LT.of_quiet rfl rfl (q_move rfl) ?_)
                refine TO.guarded rfl rfl rfl (LT.of_quiet rfl rfl (q_load_boxAgg 4 Tryd.underlying25 rfl inf25 rfl rfl rfl) ?_)
                refine TO.guarded rfl rfl rfl (LT.of_quiet rfl rfl (q_load_boxAgg 1 Tryd.underlying25 rfl inf25 rfl rfl rfl) ?_)
                have hk145 := fun (w1 : World) (hI : Inv w ([rowI ub uc 5 1 (byts (res.getD [])), objI z9 (.cells (List.toArray [(.int .i64 (minV b).vars), (.int .i64 (minV b).start), (.slice nb2 ((minV b).next.length) nc2), (.slice fb2 ((minV b).final.length) fc2)]) 25 (0, 0)), rowI nb2 nc2 33 1 (vals qs2), rowI fb2 fc2 4 1 (bools (minV b).final), objI z8 (.cells (List.toArray [(.int .i64 (minV a).vars), (.int .i64 (minV a).start), (.slice nb1 ((minV a).next.length) nc1), (.slice fb1 ((minV a).final.length) fc1)]) 25 (0, 0)), rowI nb1 nc1 33 1 (vals qs1), rowI fb1 fc1 4 1 (bools (minV a).final), objI z4 (.cells (List.toArray [(.int .i64 a.vars), (.int .i64 a.start), (.slice ob (a.next.length + b.next.length) oc), (.slice fb9 (a.final.length + b.next.length) fc9)]) 25 (0, 0)), rowI ob oc 33 1 (vals qs), rowI fb9 fc9 4 1 (bools (both a b).final), objI z2 (.cells (List.toArray [(.int .i64 b.vars), (.int .i64 b.start), (.slice mb b.next.length mc), (.slice gb b.final.length gc)]) 25 (0, 0)), objI z1 (.cells (List.toArray [(.int .i64 a.vars), (.int .i64 a.start), (.slice nb a.next.length nc), (.slice fb a.final.length fc)]) 25 (0, 0))] ++ ((itms 3 qs2) ++ ((itms 3 qs1) ++ (itms 3 qs)))) w1) => equalDFA0 w1 (minV a) (minV b) nb1 nb2 fb1 fb2 nc1 nc2 fc1 fc2 (vals qs1) (vals qs2) (show DfaAt w1 (minV a) nb1 (vals qs1) fb1 from ⟨hI.slOf (List.mem_of_getElem? (i := 5) rfl), (show nums qs1 = ((minV a)).next from hq1) ▸ hI.recs (fun q hq => List.mem_append_right _ (List.mem_append_right _ (List.mem_append_left _ (List.mem_map_of_mem (f := Rec.itm 3) hq)))), hI.slOf (List.mem_of_getElem? (i := 6) rfl)⟩) (show DfaAt w1 (minV b) nb2 (vals qs2) fb2 from ⟨hI.slOf (List.mem_of_getElem? (i := 2) rfl), (show nums qs2 = ((minV b)).next from hq2) ▸ hI.recs (fun q hq => List.mem_append_right _ (List.mem_append_left _ (List.mem_map_of_mem (f := Rec.itm 3) hq))), hI.slOf (List.mem_of_getElem? (i := 3) rfl)⟩) (by omega) (fun r hr => by have := hma.2.2 r hr; omega) (by omega)
                refine TO.guarded rfl rfl rfl (l_call ent20 (CallT.of_pure hk145) rfl ?_)
                clear hk145
                rintro v O' ⟨N, rfl, rfl, rfl⟩
                refine TO.guarded rfl rfl rfl (LT.of_quiet rfl rfl (QT.cast (q_beql Tryd.underlying4 rfl rfl) (v' := .bool false) (congrArg Value.bool (show (res.isSome == decide (minV a = minV b)) = false from beq_eq_false_iff_ne.2 fun e9 => by rw [Bool.eq_iff_iff, hiff, decide_eq_true_eq] at e9; exact (iff_not_self e9.symm).elim))) ?_)
                refine TO.quiet (q_pick0 rfl rfl) ?_
                refine TO.quiet (q_move rfl) ?_
                refine TO.guarded rfl rfl rfl (LT.of_quiet rfl rfl (q_move rfl) ?_)
                refine TO.guarded rfl rfl rfl (LT.of_quiet rfl rfl (q_len Tryd.underlying42 rfl) ?_)
                refine TO.guarded rfl rfl rfl (LT.of_quiet rfl rfl (q_fieldAddr Tryd.underlying25 rfl inf22 rfl rfl) ?_)
                refine TO.guarded rfl rfl rfl (LT.of_quiet rfl rfl (q_load_box 7 Tryd.underlying22 rfl rfl rfl rfl) ?_)
                refine TO.guarded rfl rfl rfl (LT.of_quiet rfl rfl (q_len Tryd.underlying22 rfl) ?_)
                refine TO.guarded rfl rfl rfl (LT.of_quiet rfl rfl (QT.toB (q_geq rfl rfl) (decide_eq_false (by have := hul; omega))) ?_)
                refine TO.quiet (q_pick0 rfl rfl) ?_
                refine TO.nil ?_
                refine T.cond0 rfl ?_
                refine T.skip ?_
                refine T.seq ?_
                refine T.region ?_
                refine TO.quiet (q_load_boxAgg 11 Tryd.underlying25 rfl inf25 rfl rfl rfl) ?_
                refine TO.quiet (q_move rfl) ?_
                have hk159 := fun (w1 : World) (hI : Inv w ([rowI ub uc 5 1 (byts (res.getD [])), objI z9 (.cells (List.toArray [(.int .i64 (minV b).vars), (.int .i64 (minV b).start), (.slice nb2 ((minV b).next.length) nc2), (.slice fb2 ((minV b).final.length) fc2)]) 25 (0, 0)), rowI nb2 nc2 33 1 (vals qs2), rowI fb2 fc2 4 1 (bools (minV b).final), objI z8 (.cells (List.toArray [(.int .i64 (minV a).vars), (.int .i64 (minV a).start), (.slice nb1 ((minV a).next.length) nc1), (.slice fb1 ((minV a).final.length) fc1)]) 25 (0, 0)), rowI nb1 nc1 33 1 (vals qs1), rowI fb1 fc1 4 1 (bools (minV a).final), objI z4 (.cells (List.toArray [(.int .i64 a.vars), (.int .i64 a.start), (.slice ob (a.next.length + b.next.length) oc), (.slice fb9 (a.final.length + b.next.length) fc9)]) 25 (0, 0)), rowI ob oc 33 1 (vals qs), rowI fb9 fc9 4 1 (bools (both a b).final), objI z2 (.cells (List.toArray [(.int .i64 b.vars), (.int .i64 b.start), (.slice mb b.next.length mc), (.slice gb b.final.length gc)]) 25 (0, 0)), objI z1 (.cells (List.toArray [(.int .i64 a.vars), (.int .i64 a.start), (.slice nb a.next.length nc), (.slice fb a.final.length fc)]) 25 (0, 0))] ++ ((itms 3 qs2) ++ ((itms 3 qs1) ++ (itms 3 qs)))) w1) => acceptsA w1 a nb fb nc fc vs (hI.dfa ha) hb hbr hbf ub uc (res.getD []) (hI.slOf (List.mem_of_getElem? (i := 0) rfl)) hulen hu8
                refine TO.loud rfl (l_call ent32 (CallT.of_pure hk159) rfl ?_)
                clear hk159
                rintro v O' ⟨N, rfl, rfl, rfl⟩
                refine TO.quiet (q_move rfl) ?_
                refine TO.quiet (q_extract (vs := _) rfl rfl) ?_
                refine TO.quiet (q_extract (vs := _) rfl rfl) ?_
                refine TO.quiet (q_assign rfl) ?_
                refine TO.quiet (q_assign rfl) ?_
                refine TO.nil ?_
                refine T.seq ?_
                refine T.region ?_
                refine TO.quiet (q_load_boxAgg 10 Tryd.underlying25 rfl inf25 rfl rfl rfl) ?_
                refine TO.quiet (q_move rfl) ?_
                have hk165 := fun (w1 : World) (hI : Inv w ([rowI ub uc 5 1 (byts (res.getD [])), objI z9 (.cells (List.toArray [(.int .i64 (minV b).vars), (.int .i64 (minV b).start), (.slice nb2 ((minV b).next.length) nc2), (.slice fb2 ((minV b).final.length) fc2)]) 25 (0, 0)), rowI nb2 nc2 33 1 (vals qs2), rowI fb2 fc2 4 1 (bools (minV b).final), objI z8 (.cells (List.toArray [(.int .i64 (minV a).vars), (.int .i64 (minV a).start), (.slice nb1 ((minV a).next.length) nc1), (.slice fb1 ((minV a).final.length) fc1)]) 25 (0, 0)), rowI nb1 nc1 33 1 (vals qs1), rowI fb1 fc1 4 1 (bools (minV a).final), objI z4 (.cells (List.toArray [(.int .i64 a.vars), (.int .i64 a.start), (.slice ob (a.next.length + b.next.length) oc), (.slice fb9 (a.final.length + b.next.length) fc9)]) 25 (0, 0)), rowI ob oc 33 1 (vals qs), rowI fb9 fc9 4 1 (bools (both a b).final), objI z2 (.cells (List.toArray [(.int .i64 b.vars), (.int .i64 b.start), (.slice mb b.next.length mc), (.slice gb b.final.length gc)]) 25 (0, 0)), objI z1 (.cells (List.toArray [(.int .i64 a.vars), (.int .i64 a.start), (.slice nb a.next.length nc), (.slice fb a.final.length fc)]) 25 (0, 0))] ++ ((itms 3 qs2) ++ ((itms 3 qs1) ++ (itms 3 qs)))) w1) => acceptsA w1 b mb gb mc gc us (hI.dfa h2) hb2 hbr2 hbf2 ub uc (res.getD []) (hI.slOf (List.mem_of_getElem? (i := 0) rfl)) hulen hu8
                refine TO.loud rfl (l_call ent32 (CallT.of_pure hk165) rfl ?_)
                clear hk165
                rintro v O' ⟨N, rfl, rfl, rfl⟩
                refine TO.quiet (q_move rfl) ?_
                refine TO.quiet (q_extract (vs := _) rfl rfl) ?_
                refine TO.quiet (q_extract (vs := _) rfl rfl) ?_
                refine TO.quiet (q_assign rfl) ?_
                refine TO.quiet (q_assign rfl) ?_
                refine TO.nil ?_
                refine T.seq ?_
                refine T.region ?_
                refine TO.quiet (q_load_boxAgg 11 Tryd.underlying25 rfl inf25 rfl rfl rfl) ?_
                refine TO.quiet (q_move rfl) ?_
                have hk171 := fun (w1 : World) (hI : Inv w ([rowI ub uc 5 1 (byts (res.getD [])), objI z9 (.cells (List.toArray [(.int .i64 (minV b).vars), (.int .i64 (minV b).start), (.slice nb2 ((minV b).next.length) nc2), (.slice fb2 ((minV b).final.length) fc2)]) 25 (0, 0)), rowI nb2 nc2 33 1 (vals qs2), rowI fb2 fc2 4 1 (bools (minV b).final), objI z8 (.cells (List.toArray [(.int .i64 (minV a).vars), (.int .i64 (minV a).start), (.slice nb1 ((minV a).next.length) nc1), (.slice fb1 ((minV a).final.length) fc1)]) 25 (0, 0)), rowI nb1 nc1 33 1 (vals qs1), rowI fb1 fc1 4 1 (bools (minV a).final), objI z4 (.cells (List.toArray [(.int .i64 a.vars), (.int .i64 a.start), (.slice ob (a.next.length + b.next.length) oc), (.slice fb9 (a.final.length + b.next.length) fc9)]) 25 (0, 0)), rowI ob oc 33 1 (vals qs), rowI fb9 fc9 4 1 (bools (both a b).final), objI z2 (.cells (List.toArray [(.int .i64 b.vars), (.int .i64 b.start), (.slice mb b.next.length mc), (.slice gb b.final.length gc)]) 25 (0, 0)), objI z1 (.cells (List.toArray [(.int .i64 a.vars), (.int .i64 a.start), (.slice nb a.next.length nc), (.slice fb a.final.length fc)]) 25 (0, 0))] ++ ((itms 3 qs2) ++ ((itms 3 qs1) ++ (itms 3 qs)))) w1) => acceptsA w1 a nb fb nc fc vs (hI.dfa ha) hb hbr hbf wb wc l (hI.sl hW) hwb hw8
                refine TO.loud rfl (l_call ent32 (CallT.of_pure hk171) rfl ?_)
                clear hk171
                rintro v O' ⟨N, rfl, rfl, rfl⟩
                refine TO.quiet (q_move rfl) ?_
                refine TO.quiet (q_extract (vs := _) rfl rfl) ?_
                refine TO.quiet (q_extract (vs := _) rfl rfl) ?_
                refine TO.quiet (q_assign rfl) ?_
                refine TO.quiet (q_assign rfl) ?_
                refine TO.nil ?_
                refine T.seq ?_
                refine T.region ?_
                refine TO.quiet (q_load_boxAgg 10 Tryd.underlying25 rfl inf25 rfl rfl rfl) ?_
                refine TO.quiet (q_move rfl) ?_
                have hk177 := fun (w1 : World) (hI : Inv w ([rowI ub uc 5 1 (byts (res.getD [])), objI z9 (.cells (List.toArray [(.int .i64 (minV b).vars), (.int .i64 (minV b).start), (.slice nb2 ((minV b).next.length) nc2), (.slice fb2 ((minV b).final.length) fc2)]) 25 (0, 0)), rowI nb2 nc2 33 1 (vals qs2), rowI fb2 fc2 4 1 (bools (minV b).final), objI z8 (.cells (List.toArray [(.int .i64 (minV a).vars), (.int .i64 (minV a).start), (.slice nb1 ((minV a).next.length) nc1), (.slice fb1 ((minV a).final.length) fc1)]) 25 (0, 0)), rowI nb1 nc1 33 1 (vals qs1), rowI fb1 fc1 4 1 (bools (minV a).final), objI z4 (.cells (List.toArray [(.int .i64 a.vars), (.int .i64 a.start), (.slice ob (a.next.length + b.next.length) oc), (.slice fb9 (a.final.length + b.next.length) fc9)]) 25 (0, 0)), rowI ob oc 33 1 (vals qs), rowI fb9 fc9 4 1 (bools (both a b).final), objI z2 (.cells (List.toArray [(.int .i64 b.vars), (.int .i64 b.start), (.slice mb b.next.length mc), (.slice gb b.final.length gc)]) 25 (0, 0)), objI z1 (.cells (List.toArray [(.int .i64 a.vars), (.int .i64 a.start), (.slice nb a.next.length nc), (.slice fb a.final.length fc)]) 25 (0, 0))] ++ ((itms 3 qs2) ++ ((itms 3 qs1) ++ (itms 3 qs)))) w1) => acceptsA w1 b mb gb mc gc us (hI.dfa h2) hb2 hbr2 hbf2 wb wc l (hI.sl hW) hwb hw8
                refine TO.loud rfl (l_call ent32 (CallT.of_pure hk177) rfl ?_)
                clear hk177
                rintro v O' ⟨N, rfl, rfl, rfl⟩
                refine TO.quiet (q_move rfl) ?_
                refine TO.quiet (q_extract (vs := _) rfl rfl) ?_
                refine TO.quiet (q_extract (vs := _) rfl rfl) ?_
                refine TO.quiet (q_assign rfl) ?_
                refine TO.quiet (q_assign rfl) ?_
                refine TO.nil ?_
                refine T.seq ?_
                refine T.seq ?_
                refine T.region ?_
                refine TO.quiet (q_move rfl) ?_
                refine TO.quiet (q_len Tryd.underlying42 rfl) ?_
                refine TO.quiet (q_gtr rfl rfl) ?_
                refine TO.nil ?_
                refine T.condP rfl (fun hc => ?_) (fun hc => ?_)
                · have hlt182 : (res.getD []).length > 64 := by omega
                  refine T.seq ?_
                  refine T.region ?_
                  refine TO.quiet (q_assign rfl) ?_
                  refine TO.nil ?_
                  refine T.ret ?_
                  refine Res.drop ?_
                  refine Res.one (.bool true) Tryd.results8 rfl ?_
                  exact ⟨[], Sub.of (List.nil_sublist _), rfl, rfl⟩
                · have hge182 : ¬ (res.getD []).length > 64 := by omega
                  refine T.skip ?_
                  refine T.seq ?_
                  refine T.region ?_
                  refine TO.quiet (q_move rfl) ?_
                  refine TO.quiet (QT.toB (q_eql rfl rfl) (decide_eq_true (by rw [hra (by omega)]; rfl))) ?_
                  refine TO.quiet (q_move rfl) ?_
                  refine TO.guarded rfl rfl rfl (LT.of_quiet rfl rfl (q_move rfl) ?_)
                  refine TO.guarded rfl rfl rfl (LT.of_quiet rfl rfl (QT.toB (q_eql rfl rfl) (decide_eq_true (by rw [hrb (by omega)]; rfl))) ?_)
                  refine TO.quiet (q_pick1 rfl rfl) ?_
                  refine TO.quiet (q_move rfl) ?_
                  refine TO.guarded rfl rfl rfl (LT.of_quiet rfl rfl (q_move rfl) ?_)
                  refine TO.guarded rfl rfl rfl (LT.of_quiet rfl rfl (q_move rfl) ?_)
                  refine TO.guarded rfl rfl rfl (LT.of_quiet rfl rfl (q_bneq Tryd.underlying4 rfl rfl) ?_)
                  refine TO.guarded rfl rfl rfl (LT.of_quiet rfl rfl (q_move rfl) ?_)
                  refine TO.guarded rfl rfl rfl (LT.of_quiet rfl rfl (QT.cast (q_beql Tryd.underlying4 rfl rfl) (v' := .bool true) (congrArg Value.bool (hxyis (by omega)))) ?_)
                  refine TO.quiet (q_pick1 rfl rfl) ?_
                  refine TO.quiet (q_move rfl) ?_
                  refine TO.guarded rfl rfl rfl (LT.of_quiet rfl rfl (q_move rfl) ?_)
                  refine TO.guarded rfl rfl rfl (LT.of_quiet rfl rfl (q_move rfl) ?_)
                  refine TO.guarded rfl rfl rfl (LT.of_quiet rfl rfl (QT.toB (q_eql rfl rfl) (decide_eq_true (by rw [hrr]))) ?_)
                  refine TO.quiet (q_pick1 rfl rfl) ?_
                  refine TO.quiet (q_move rfl) ?_
                  refine TO.guarded rfl rfl rfl (LT.of_quiet rfl rfl (q_move rfl) ?_)
                  by_cases his : res.isSome = true
                  · refine TO.guarded rfl rfl rfl (LT.of_quiet rfl rfl (QT.toB (QT.cast (q_move rfl) (v' := .bool (decide (res.isSome = true))) (show Value.bool res.isSome = _ from congrArg Value.bool (by simp))) (decide_eq_true his)) ?_)
                    refine TO.passed rfl rfl ?_
                    refine TO.passed rfl rfl ?_
                    refine TO.passed rfl rfl ?_
                    refine TO.guarded rfl rfl rfl (LT.of_quiet rfl rfl (q_pick1 rfl rfl) ?_)
                    refine TO.quiet (q_pick1 rfl rfl) ?_
                    refine TO.quiet (q_assign rfl) ?_
                    refine TO.nil ?_
                    refine T.ret ?_
                    refine Res.drop ?_
                    refine Res.one (.bool true) Tryd.results8 rfl ?_
                    exact ⟨[], Sub.of (List.nil_sublist _), rfl, rfl⟩
                  · refine TO.guarded rfl rfl rfl (LT.of_quiet rfl rfl (QT.toB (QT.cast (q_move rfl) (v' := .bool (decide (res.isSome = true))) (show Value.bool res.isSome = _ from congrArg Value.bool (by simp))) (decide_eq_false his)) ?_)
                    refine TO.guarded rfl rfl rfl (LT.of_quiet rfl rfl (q_move rfl) ?_)
                    refine TO.guarded rfl rfl rfl (LT.of_quiet rfl rfl (q_move rfl) ?_)
                    refine TO.guarded rfl rfl rfl (LT.of_quiet rfl rfl (QT.cast (q_beql Tryd.underlying4 rfl rfl) (v' := .bool true) (congrArg Value.bool (beq_iff_eq.2 (hpq his)))) ?_)
                    refine TO.guarded rfl rfl rfl (LT.of_quiet rfl rfl (q_pick0 rfl rfl) ?_)
                    refine TO.quiet (q_pick1 rfl rfl) ?_
                    refine TO.quiet (q_assign rfl) ?_
                    refine TO.nil ?_
                    refine T.ret ?_
                    refine Res.drop ?_
                    refine Res.one (.bool true) Tryd.results8 rfl ?_
                    exact ⟨[], Sub.of (List.nil_sublist _), rfl, rfl⟩
end Go.Proofs.YthfemndklplpbaaDoor
