/- Contracts of functions of the program (LawM): what each call answers and that it leaves memory as it was. Conditions: those each theorem names. -/
import Derived.Test.YthfemndklplpbaaDoorAwk
import Derived.Test.YthfemndklplpbaaDoorOver
set_option linter.unusedSectionVars false
set_option linter.unusedSimpArgs false
set_option linter.unusedVariables false
set_option linter.unnecessarySimpa false
namespace Go.Proofs.YthfemndklplpbaaDoor
open Go.Lx Go.RowKit
set_option linter.unusedVariables false
set_option linter.unusedSimpArgs false

theorem overNats (base : World) (b : Option Addr) (c c' m : Nat) (xs : List Nat) (hm : m = xs.length) (hb : xs.length < 9223372036854775807) :
    CallT Tryd.prog base 23 [.slice b m c'] [rowI b c 3 1 (nats xs)] (fun _ O' => O' = []) := by
  subst hm
  have h := overInts base b c c' (xs.map fun x : Nat => (x : Int)) (by simpa using hb)
  have e : ints (xs.map fun x : Nat => (x : Int)) = nats xs := by simp [Function.comp_def]
  rw [List.length_map, e] at h
  exact h

set_option maxHeartbeats 4000000 in
set_option maxRecDepth 20000 in
theorem matchesC (w : World) (d : DFA) (nb fb : Option Addr) (nc fc : Nat) (vs : List Value) (h : DfaAt w d nb vs fb) (hb : d.next.length < 9223372036854775807) (hbr : ∀ r ∈ d.next, r.length < 9223372036854775807) (hbf : d.final.length < 9223372036854775807) (k : Int) (hk9 : k ≤ 9223372036854775807) :
    PureT Tryd.prog 3 [.agg (dfaCells d nb nc fb fc).toArray, .int .i64 k] w fun v N => v = .bool true ∧ N = [] := by
  refine CallT.enter Tryd.func3 rfl Tryd.ntmps3 rfl ?_
  refine T.seq ?_
  refine T.region ?_
  refine TO.loud rfl (l_box (v := (.agg #[(.int .i64 d.vars), (.int .i64 d.start), (.slice nb d.next.length nc), (.slice fb d.final.length fc)])) (cs := [(.int .i64 d.vars), (.int .i64 d.start), (.slice nb d.next.length nc), (.slice fb d.final.length fc)]) rfl rfl (fun z1 => ?_))
  refine TO.quiet (q_assign rfl) ?_
  refine TO.nil ?_
  refine T.seq ?_
  refine T.seq ?_
  refine T.region ?_
  refine TO.quiet (q_load_boxAgg 0 Tryd.underlying25 rfl inf25 rfl rfl rfl) ?_
  refine TO.loud rfl (l_buildSlice (m := 1) (parts := [(0, _)]) (cs := [(.int .i64 d.vars), (.int .i64 d.start), (.slice nb d.next.length nc), (.slice fb d.final.length fc)]) Tryd.underlying58 inf25 (by decide) (by kernel_rfl) rfl (fun z2 => ?_))
  by_cases hlong : longD d = true
  · have hk21 := fun (w1 : World) (hI : Inv w [rowI (some ⟨z2, 0, none⟩) 1 25 4 [(.int .i64 d.vars), (.int .i64 d.start), (.slice nb d.next.length nc), (.slice fb d.final.length fc)], objI z1 (.cells (List.toArray [(.int .i64 d.vars), (.int .i64 d.start), (.slice nb d.next.length nc), (.slice fb d.final.length fc)]) 25 (0, 0))] w1) => long1 w1 (some ⟨z2, 0, none⟩) 1 d nb fb nc fc vs (hI.slOf (List.mem_of_getElem? (i := 0) rfl)) (hI.dfa h) hb
    refine TO.loud rfl (l_call ent10 (CallT.of_pure hk21) rfl ?_)
    clear hk21
    rintro v O' ⟨N, rfl, rfl, rfl⟩
    rw [decide_eq_true hlong]
    refine TO.quiet (q_move rfl) ?_
    refine TO.passed rfl rfl ?_
    refine TO.passed rfl rfl ?_
    refine TO.passed rfl rfl ?_
    refine TO.passed rfl rfl ?_
    refine TO.passed rfl rfl ?_
    refine TO.passed rfl rfl ?_
    refine TO.passed rfl rfl ?_
    refine TO.passed rfl rfl ?_
    refine TO.passed rfl rfl ?_
    refine TO.quiet (q_pick1 rfl rfl) ?_
    refine TO.sub (O' := [objI z1 (.cells (List.toArray [(.int .i64 d.vars), (.int .i64 d.start), (.slice nb d.next.length nc), (.slice fb d.final.length fc)]) 25 (0, 0))]) (Sub.pick [1] rfl) ?_
    refine TO.nil ?_
    refine T.cond1 rfl ?_
    refine T.seq ?_
    refine T.region ?_
    have hk33 := fun (w1 : World) (hI : Inv w [objI z1 (.cells (List.toArray [(.int .i64 d.vars), (.int .i64 d.start), (.slice nb d.next.length nc), (.slice fb d.final.length fc)]) 25 (0, 0))] w1) => awakeC w1
    refine TO.loud rfl (l_call ent12 (CallT.of_pure hk33) rfl ?_)
    clear hk33
    rintro v O' ⟨N, rfl, rfl, rfl⟩
    refine TO.quiet (q_assign rfl) ?_
    refine TO.nil ?_
    refine T.ret ?_
    refine Res.drop ?_
    refine Res.one (.bool true) Tryd.results3 rfl ?_
    exact ⟨[], Sub.of (List.nil_sublist _), rfl, rfl⟩
  · have hk21 := fun (w1 : World) (hI : Inv w [rowI (some ⟨z2, 0, none⟩) 1 25 4 [(.int .i64 d.vars), (.int .i64 d.start), (.slice nb d.next.length nc), (.slice fb d.final.length fc)], objI z1 (.cells (List.toArray [(.int .i64 d.vars), (.int .i64 d.start), (.slice nb d.next.length nc), (.slice fb d.final.length fc)]) 25 (0, 0))] w1) => long1 w1 (some ⟨z2, 0, none⟩) 1 d nb fb nc fc vs (hI.slOf (List.mem_of_getElem? (i := 0) rfl)) (hI.dfa h) hb
    refine TO.loud rfl (l_call ent10 (CallT.of_pure hk21) rfl ?_)
    clear hk21
    rintro v O' ⟨N, rfl, rfl, rfl⟩
    rw [decide_eq_false hlong]
    refine TO.quiet (q_move rfl) ?_
    refine TO.guarded rfl rfl rfl (LT.of_quiet rfl rfl (q_fieldAddr Tryd.underlying25 rfl inf22 rfl rfl) ?_)
    refine TO.guarded rfl rfl rfl (LT.of_quiet rfl rfl (q_load_box 1 Tryd.underlying22 rfl rfl rfl rfl) ?_)
    refine TO.guarded rfl rfl rfl (LT.of_quiet rfl rfl (q_len Tryd.underlying22 rfl) ?_)
    by_cases h12 : (d.next.length : Int) > 12
    · refine TO.guarded rfl rfl rfl (LT.of_quiet rfl rfl (QT.toB (q_gtr rfl rfl) (decide_eq_true h12)) ?_)
      refine TO.guarded rfl rfl rfl (LT.of_quiet rfl rfl (q_move rfl) ?_)
      refine TO.guarded rfl rfl rfl (LT.of_quiet rfl rfl (q_load_boxAgg 1 Tryd.underlying25 rfl inf25 rfl rfl rfl) ?_)
      have hk29 := fun (w1 : World) (hI : Inv w [rowI (some ⟨z2, 0, none⟩) 1 25 4 [(.int .i64 d.vars), (.int .i64 d.start), (.slice nb d.next.length nc), (.slice fb d.final.length fc)], objI z1 (.cells (List.toArray [(.int .i64 d.vars), (.int .i64 d.start), (.slice nb d.next.length nc), (.slice fb d.final.length fc)]) 25 (0, 0))] w1) => refCheck w1 d nb fb nc fc vs (hI.dfa h) hb hbr hbf
      refine TO.guarded rfl rfl rfl (l_call ent11 (CallT.of_pure hk29) rfl ?_)
      clear hk29
      rintro v O' ⟨N, rfl, rfl, rfl⟩
      by_cases he0 : (checkD d : Int) = 0
      · refine TO.guarded rfl rfl rfl (LT.of_quiet rfl rfl (QT.toB (q_eql rfl rfl) (decide_eq_true he0)) ?_)
        refine TO.guarded rfl rfl rfl (LT.of_quiet rfl rfl (q_pick1 rfl rfl) ?_)
        refine TO.quiet (q_pick0 rfl rfl) ?_
        refine TO.sub (O' := [objI z1 (.cells (List.toArray [(.int .i64 d.vars), (.int .i64 d.start), (.slice nb d.next.length nc), (.slice fb d.final.length fc)]) 25 (0, 0))]) (Sub.pick [1] rfl) ?_
        refine TO.nil ?_
        refine T.cond1 rfl ?_
        refine T.seq ?_
        refine T.region ?_
        have hk33 := fun (w1 : World) (hI : Inv w [objI z1 (.cells (List.toArray [(.int .i64 d.vars), (.int .i64 d.start), (.slice nb d.next.length nc), (.slice fb d.final.length fc)]) 25 (0, 0))] w1) => awakeC w1
        refine TO.loud rfl (l_call ent12 (CallT.of_pure hk33) rfl ?_)
        clear hk33
        rintro v O' ⟨N, rfl, rfl, rfl⟩
        refine TO.quiet (q_assign rfl) ?_
        refine TO.nil ?_
        refine T.ret ?_
        refine Res.drop ?_
        refine Res.one (.bool true) Tryd.results3 rfl ?_
        exact ⟨[], Sub.of (List.nil_sublist _), rfl, rfl⟩
      · refine TO.guarded rfl rfl rfl (LT.of_quiet rfl rfl (QT.toB (q_eql rfl rfl) (decide_eq_false he0)) ?_)
        refine TO.guarded rfl rfl rfl (LT.of_quiet rfl rfl (q_pick1 rfl rfl) ?_)
        refine TO.quiet (q_pick0 rfl rfl) ?_
        refine TO.sub (O' := [objI z1 (.cells (List.toArray [(.int .i64 d.vars), (.int .i64 d.start), (.slice nb d.next.length nc), (.slice fb d.final.length fc)]) 25 (0, 0))]) (Sub.pick [1] rfl) ?_
        refine TO.nil ?_
        refine T.cond0 rfl ?_
        refine T.skip ?_
        refine T.seq ?_
        obtain ⟨hB1, hB2, hB3⟩ := longD_false hlong
        have hmb := minV_bound d
        have hN : Valid d → d.next.length < 100 := fun hv9 => by have := checkD_zero.2 hv9; omega
        refine T.region ?_
        refine TO.quiet (q_load_boxAgg 0 Tryd.underlying25 rfl inf25 rfl rfl rfl) ?_
        have hk35 := fun (w1 : World) (hI : Inv w [objI z1 (.cells (List.toArray [(.int .i64 d.vars), (.int .i64 d.start), (.slice nb d.next.length nc), (.slice fb d.final.length fc)]) 25 (0, 0))] w1) => copyDFA w1 d nb fb nc fc vs (hI.dfa h) (by omega) (fun r hr => by have := hB3 r hr; omega) (by omega)
        refine TO.loud rfl (l_call ent13 (CallT.of_pure hk35) rfl ?_)
        clear hk35
        rintro v O' ⟨N, rfl, nb1, nc1, fb1, fc1, qs1, rfl, rfl, hq1⟩
        refine TO.sub (O' := ([rowI nb1 nc1 33 1 (vals qs1), rowI fb1 fc1 4 1 (bools d.final), objI z1 (.cells (List.toArray [(.int .i64 d.vars), (.int .i64 d.start), (.slice nb d.next.length nc), (.slice fb d.final.length fc)]) 25 (0, 0))] ++ (itms 3 qs1))) (Sub.cnt [] (by intro a; simp only [itms, List.set_cons_zero, List.set_cons_succ, putL, List.cons_append, List.nil_append, List.append_nil, List.append_assoc, List.map_append, List.map_cons, List.map_nil, cnt_append, cnt_cons, cnt_nil] <;> omega)) ?_
        refine TO.loud rfl (l_alloc inf25 rfl (fun z3 => ?_))
        refine TO.loud rfl (l_store_box (v := (.agg #[(.int .i64 d.vars), (.int .i64 d.start), (.slice nb1 d.next.length nc1), (.slice fb1 d.final.length fc1)])) (vs := [(.int .i64 d.vars), (.int .i64 d.start), (.slice nb1 d.next.length nc1), (.slice fb1 d.final.length fc1)]) 0 inf25 rfl rfl rfl rfl rfl rfl (by simp [putL]) ?_)
        refine TO.nil ?_
        refine T.seq ?_
        refine T.region ?_
        refine TO.quiet (q_load_boxAgg 3 Tryd.underlying25 rfl inf25 rfl rfl rfl) ?_
        have hk38 := fun (w1 : World) (hI : Inv w ([objI z3 (.cells (List.toArray [(.int .i64 d.vars), (.int .i64 d.start), (.slice nb1 d.next.length nc1), (.slice fb1 d.final.length fc1)]) 25 (0, 0)), rowI nb1 nc1 33 1 (vals qs1), rowI fb1 fc1 4 1 (bools d.final), objI z1 (.cells (List.toArray [(.int .i64 d.vars), (.int .i64 d.start), (.slice nb d.next.length nc), (.slice fb d.final.length fc)]) 25 (0, 0))] ++ (itms 3 qs1)) w1) => rMinA w1 d nb fb nc fc vs (hI.dfa h) hb hbr hbf hN
        refine TO.loud rfl (l_call ent14 (CallT.of_pure hk38) rfl ?_)
        clear hk38
        rintro v O' ⟨N, rfl, nb2, nc2, fb2, fc2, qs2, rfl, rfl, hq2⟩
        refine TO.sub (O' := ([rowI nb2 nc2 33 1 (vals qs2), rowI fb2 fc2 4 1 (bools (minV d).final), objI z3 (.cells (List.toArray [(.int .i64 d.vars), (.int .i64 d.start), (.slice nb1 d.next.length nc1), (.slice fb1 d.final.length fc1)]) 25 (0, 0)), rowI nb1 nc1 33 1 (vals qs1), rowI fb1 fc1 4 1 (bools d.final), objI z1 (.cells (List.toArray [(.int .i64 d.vars), (.int .i64 d.start), (.slice nb d.next.length nc), (.slice fb d.final.length fc)]) 25 (0, 0))] ++ ((itms 3 qs2) ++ (itms 3 qs1)))) (Sub.cnt [] (by intro a; simp only [itms, List.set_cons_zero, List.set_cons_succ, putL, List.cons_append, List.nil_append, List.append_nil, List.append_assoc, List.map_append, List.map_cons, List.map_nil, cnt_append, cnt_cons, cnt_nil] <;> omega)) ?_
        refine TO.quiet (q_move rfl) ?_
        refine TO.quiet (q_extract (vs := _) rfl rfl) ?_
        refine TO.quiet (q_extract (vs := _) rfl rfl) ?_
        refine TO.loud rfl (l_alloc inf25 rfl (fun z4 => ?_))
        refine TO.loud rfl (l_store_box (v := (.agg #[(.int .i64 (minV d).vars), (.int .i64 (minV d).start), (.slice nb2 ((minV d).next.length) nc2), (.slice fb2 ((minV d).final.length) fc2)])) (vs := [(.int .i64 (minV d).vars), (.int .i64 (minV d).start), (.slice nb2 ((minV d).next.length) nc2), (.slice fb2 ((minV d).final.length) fc2)]) 0 inf25 rfl rfl rfl rfl rfl rfl (by simp [putL]) ?_)
        refine TO.quiet (q_assign rfl) ?_
        refine TO.nil ?_
        refine T.seq ?_
        refine T.region ?_
        refine TO.quiet (q_load_boxAgg 6 Tryd.underlying25 rfl inf25 rfl rfl rfl) ?_
        have hk43 := fun (w1 : World) (hI : Inv w ([objI z4 (.cells (List.toArray [(.int .i64 (minV d).vars), (.int .i64 (minV d).start), (.slice nb2 ((minV d).next.length) nc2), (.slice fb2 ((minV d).final.length) fc2)]) 25 (0, 0)), rowI nb2 nc2 33 1 (vals qs2), rowI fb2 fc2 4 1 (bools (minV d).final), objI z3 (.cells (List.toArray [(.int .i64 d.vars), (.int .i64 d.start), (.slice nb1 d.next.length nc1), (.slice fb1 d.final.length fc1)]) 25 (0, 0)), rowI nb1 nc1 33 1 (vals qs1), rowI fb1 fc1 4 1 (bools d.final), objI z1 (.cells (List.toArray [(.int .i64 d.vars), (.int .i64 d.start), (.slice nb d.next.length nc), (.slice fb d.final.length fc)]) 25 (0, 0))] ++ ((itms 3 qs2) ++ (itms 3 qs1))) w1) => rClassesA w1 d nb fb nc fc vs (hI.dfa h) hb hbr hbf hN
        refine TO.loud rfl (l_call ent15 (CallT.of_pure hk43) rfl ?_)
        clear hk43
        rintro v O' ⟨N, rfl, lb1, lc1, rfl, rfl⟩
        refine TO.quiet (q_move rfl) ?_
        refine TO.quiet (q_extract (vs := _) rfl rfl) ?_
        refine TO.quiet (q_extract (vs := _) rfl rfl) ?_
        refine TO.quiet (q_assign rfl) ?_
        refine TO.quiet (q_assign rfl) ?_
        refine TO.nil ?_
        refine T.seq ?_
        refine T.region ?_
        refine TO.quiet (q_load_boxAgg 7 Tryd.underlying25 rfl inf25 rfl rfl rfl) ?_
        refine TO.quiet (q_move rfl) ?_
        have hk49 := fun (w1 : World) (hI : Inv w ([rowI lb1 lc1 3 1 (nats (rndsV d d.next.length)), objI z4 (.cells (List.toArray [(.int .i64 (minV d).vars), (.int .i64 (minV d).start), (.slice nb2 ((minV d).next.length) nc2), (.slice fb2 ((minV d).final.length) fc2)]) 25 (0, 0)), rowI nb2 nc2 33 1 (vals qs2), rowI fb2 fc2 4 1 (bools (minV d).final), objI z3 (.cells (List.toArray [(.int .i64 d.vars), (.int .i64 d.start), (.slice nb1 d.next.length nc1), (.slice fb1 d.final.length fc1)]) 25 (0, 0)), rowI nb1 nc1 33 1 (vals qs1), rowI fb1 fc1 4 1 (bools d.final), objI z1 (.cells (List.toArray [(.int .i64 d.vars), (.int .i64 d.start), (.slice nb d.next.length nc), (.slice fb d.final.length fc)]) 25 (0, 0))] ++ ((itms 3 qs2) ++ (itms 3 qs1))) w1) => rRoundsA w1 d nb fb nc fc vs (hI.dfa h) hb hbr hbf hN k hk9
        refine TO.loud rfl (l_call ent16 (CallT.of_pure hk49) rfl ?_)
        clear hk49
        rintro v O' ⟨N, rfl, lb2, lc2, rfl, rfl⟩
        refine TO.quiet (q_move rfl) ?_
        refine TO.quiet (q_extract (vs := _) rfl rfl) ?_
        refine TO.quiet (q_extract (vs := _) rfl rfl) ?_
        refine TO.quiet (q_assign rfl) ?_
        refine TO.quiet (q_assign rfl) ?_
        refine TO.nil ?_
        refine T.seq ?_
        refine T.seq ?_
        refine T.region ?_
        refine TO.quiet (q_assign rfl) ?_
        refine TO.nil ?_
        refine T.block ?_
        have hrl : ∀ k, (rndsV d k).length ≤ d.next.length := fun k => by
          unfold rndsV
          split
          · rw [itF_length]; exact Nat.le_refl _
          · exact Nat.zero_le _
        refine T.loop (fun (r : Nat) ρ O => O = ([rowI lb2 lc2 3 1 (nats (rndsV d k)), rowI lb1 lc1 3 1 (nats (rndsV d d.next.length)), objI z4 (.cells (List.toArray [(.int .i64 (minV d).vars), (.int .i64 (minV d).start), (.slice nb2 ((minV d).next.length) nc2), (.slice fb2 ((minV d).final.length) fc2)]) 25 (0, 0)), rowI nb2 nc2 33 1 (vals qs2), rowI fb2 fc2 4 1 (bools (minV d).final), objI z3 (.cells (List.toArray [(.int .i64 d.vars), (.int .i64 d.start), (.slice nb1 d.next.length nc1), (.slice fb1 d.final.length fc1)]) 25 (0, 0)), rowI nb1 nc1 33 1 (vals qs1), rowI fb1 fc1 4 1 (bools d.final), objI z1 (.cells (List.toArray [(.int .i64 d.vars), (.int .i64 d.start), (.slice nb d.next.length nc), (.slice fb d.final.length fc)]) 25 (0, 0))] ++ ((itms 3 qs2) ++ (itms 3 qs1))) ∧ r ≤ 2 ∧ Heads [(0, (.agg #[(.int .i64 d.vars), (.int .i64 d.start), (.slice nb d.next.length nc), (.slice fb d.final.length fc)])), (1, .int .i64 k), (2, (.pointer (some ⟨z1, 0, none⟩))), (5, (.pointer (some ⟨z3, 0, none⟩))), (6, (.pointer (some ⟨z4, 0, none⟩))), (7, .int .i64 (checkD d : Int)), (8, (.slice lb1 ((rndsV d d.next.length).length) lc1)), (9, .int .i64 (checkD d : Int)), (10, (.slice lb2 ((rndsV d k).length) lc2)), (11, .int .i64 (checkD d : Int)), (12, .int .i64 (r : Int))] ρ) (fun r => 2 - r) 0 ?_ ?_
        · exact ⟨rfl, Nat.zero_le _, ⟨rfl, rfl, rfl, rfl, rfl, rfl, rfl, rfl, rfl, rfl, rfl, trivial⟩⟩
        · rintro r ρ O ⟨rfl, hr, hH⟩
          obtain ⟨ρ0, rfl⟩ := hH.elim
          clear hH
          refine T.seq ?_
          refine T.seq ?_
          refine T.region ?_
          refine TO.quiet (q_move rfl) ?_
          refine TO.quiet (q_lss rfl rfl) ?_
          refine TO.nil ?_
          refine T.condP rfl (fun hc => ?_) (fun hc => ?_)
          · have hlt53 : r < 2 := by omega
            refine T.skip ?_
            refine T.seq ?_
            refine T.block ?_
            refine T.seq ?_
            refine T.region ?_
            refine TO.quiet (q_load_boxAgg 5 Tryd.underlying25 rfl inf25 rfl rfl rfl) ?_
            have hk58 := fun (w1 : World) (hI : Inv w ([rowI lb2 lc2 3 1 (nats (rndsV d k)), rowI lb1 lc1 3 1 (nats (rndsV d d.next.length)), objI z4 (.cells (List.toArray [(.int .i64 (minV d).vars), (.int .i64 (minV d).start), (.slice nb2 ((minV d).next.length) nc2), (.slice fb2 ((minV d).final.length) fc2)]) 25 (0, 0)), rowI nb2 nc2 33 1 (vals qs2), rowI fb2 fc2 4 1 (bools (minV d).final), objI z3 (.cells (List.toArray [(.int .i64 d.vars), (.int .i64 d.start), (.slice nb1 d.next.length nc1), (.slice fb1 d.final.length fc1)]) 25 (0, 0)), rowI nb1 nc1 33 1 (vals qs1), rowI fb1 fc1 4 1 (bools d.final), objI z1 (.cells (List.toArray [(.int .i64 d.vars), (.int .i64 d.start), (.slice nb d.next.length nc), (.slice fb d.final.length fc)]) 25 (0, 0))] ++ ((itms 3 qs2) ++ (itms 3 qs1))) w1) => minA w1 d nb1 fb1 nc1 fc1 (vals qs1) (show DfaAt w1 d nb1 (vals qs1) fb1 from ⟨hI.slOf (List.mem_of_getElem? (i := 6) rfl), hq1 ▸ hI.recs (fun q hq => List.mem_append_right _ (List.mem_append_right _ (List.mem_map_of_mem (f := Rec.itm 3) hq))), hI.slOf (List.mem_of_getElem? (i := 7) rfl)⟩) hb hbr hbf hN
            refine TO.loud rfl (l_call ent17 (CallT.of_pure hk58) rfl ?_)
            clear hk58
            rintro v O' ⟨N, rfl, nb3, nc3, fb3, fc3, qs3, rfl, rfl, hq3⟩
            refine TO.sub (O' := ([rowI nb3 nc3 33 1 (vals qs3), rowI fb3 fc3 4 1 (bools (minV d).final), rowI lb2 lc2 3 1 (nats (rndsV d k)), rowI lb1 lc1 3 1 (nats (rndsV d d.next.length)), objI z4 (.cells (List.toArray [(.int .i64 (minV d).vars), (.int .i64 (minV d).start), (.slice nb2 ((minV d).next.length) nc2), (.slice fb2 ((minV d).final.length) fc2)]) 25 (0, 0)), rowI nb2 nc2 33 1 (vals qs2), rowI fb2 fc2 4 1 (bools (minV d).final), objI z3 (.cells (List.toArray [(.int .i64 d.vars), (.int .i64 d.start), (.slice nb1 d.next.length nc1), (.slice fb1 d.final.length fc1)]) 25 (0, 0)), rowI nb1 nc1 33 1 (vals qs1), rowI fb1 fc1 4 1 (bools d.final), objI z1 (.cells (List.toArray [(.int .i64 d.vars), (.int .i64 d.start), (.slice nb d.next.length nc), (.slice fb d.final.length fc)]) 25 (0, 0))] ++ ((itms 3 qs3) ++ ((itms 3 qs2) ++ (itms 3 qs1))))) (Sub.cnt [] (by intro a; simp only [itms, List.set_cons_zero, List.set_cons_succ, putL, List.cons_append, List.nil_append, List.append_nil, List.append_assoc, List.map_append, List.map_cons, List.map_nil, cnt_append, cnt_cons, cnt_nil] <;> omega)) ?_
            refine TO.quiet (q_move rfl) ?_
            refine TO.quiet (q_extract (vs := _) rfl rfl) ?_
            refine TO.quiet (q_extract (vs := _) rfl rfl) ?_
            refine TO.loud rfl (l_alloc inf25 rfl (fun z5 => ?_))
            refine TO.loud rfl (l_store_box (v := (.agg #[(.int .i64 (minV d).vars), (.int .i64 (minV d).start), (.slice nb3 ((minV d).next.length) nc3), (.slice fb3 ((minV d).final.length) fc3)])) (vs := [(.int .i64 (minV d).vars), (.int .i64 (minV d).start), (.slice nb3 ((minV d).next.length) nc3), (.slice fb3 ((minV d).final.length) fc3)]) 0 inf25 rfl rfl rfl rfl rfl rfl (by simp [putL]) ?_)
            refine TO.quiet (q_assign rfl) ?_
            refine TO.nil ?_
            refine T.seq ?_
            refine T.region ?_
            refine TO.quiet (q_load_boxAgg 8 Tryd.underlying25 rfl inf25 rfl rfl rfl) ?_
            have hk63 := fun (w1 : World) (hI : Inv w ([objI z5 (.cells (List.toArray [(.int .i64 (minV d).vars), (.int .i64 (minV d).start), (.slice nb3 ((minV d).next.length) nc3), (.slice fb3 ((minV d).final.length) fc3)]) 25 (0, 0)), rowI nb3 nc3 33 1 (vals qs3), rowI fb3 fc3 4 1 (bools (minV d).final), rowI lb2 lc2 3 1 (nats (rndsV d k)), rowI lb1 lc1 3 1 (nats (rndsV d d.next.length)), objI z4 (.cells (List.toArray [(.int .i64 (minV d).vars), (.int .i64 (minV d).start), (.slice nb2 ((minV d).next.length) nc2), (.slice fb2 ((minV d).final.length) fc2)]) 25 (0, 0)), rowI nb2 nc2 33 1 (vals qs2), rowI fb2 fc2 4 1 (bools (minV d).final), objI z3 (.cells (List.toArray [(.int .i64 d.vars), (.int .i64 d.start), (.slice nb1 d.next.length nc1), (.slice fb1 d.final.length fc1)]) 25 (0, 0)), rowI nb1 nc1 33 1 (vals qs1), rowI fb1 fc1 4 1 (bools d.final), objI z1 (.cells (List.toArray [(.int .i64 d.vars), (.int .i64 d.start), (.slice nb d.next.length nc), (.slice fb d.final.length fc)]) 25 (0, 0))] ++ ((itms 3 qs3) ++ ((itms 3 qs2) ++ (itms 3 qs1)))) w1) => classesA w1 d nb1 fb1 nc1 fc1 (vals qs1) (show DfaAt w1 d nb1 (vals qs1) fb1 from ⟨hI.slOf (List.mem_of_getElem? (i := 9) rfl), hq1 ▸ hI.recs (fun q hq => List.mem_append_right _ (List.mem_append_right _ (List.mem_append_right _ (List.mem_map_of_mem (f := Rec.itm 3) hq)))), hI.slOf (List.mem_of_getElem? (i := 10) rfl)⟩) hb hbr hbf hN
            refine TO.loud rfl (l_call ent18 (CallT.of_pure hk63) rfl ?_)
            clear hk63
            rintro v O' ⟨N, rfl, lb3, lc3, rfl, rfl⟩
            refine TO.quiet (q_move rfl) ?_
            refine TO.quiet (q_extract (vs := _) rfl rfl) ?_
            refine TO.quiet (q_extract (vs := _) rfl rfl) ?_
            refine TO.quiet (q_assign rfl) ?_
            refine TO.quiet (q_assign rfl) ?_
            refine TO.nil ?_
            refine T.seq ?_
            refine T.region ?_
            refine TO.quiet (q_load_boxAgg 9 Tryd.underlying25 rfl inf25 rfl rfl rfl) ?_
            refine TO.quiet (q_move rfl) ?_
            have hk69 := fun (w1 : World) (hI : Inv w ([rowI lb3 lc3 3 1 (nats (rndsV d d.next.length)), objI z5 (.cells (List.toArray [(.int .i64 (minV d).vars), (.int .i64 (minV d).start), (.slice nb3 ((minV d).next.length) nc3), (.slice fb3 ((minV d).final.length) fc3)]) 25 (0, 0)), rowI nb3 nc3 33 1 (vals qs3), rowI fb3 fc3 4 1 (bools (minV d).final), rowI lb2 lc2 3 1 (nats (rndsV d k)), rowI lb1 lc1 3 1 (nats (rndsV d d.next.length)), objI z4 (.cells (List.toArray [(.int .i64 (minV d).vars), (.int .i64 (minV d).start), (.slice nb2 ((minV d).next.length) nc2), (.slice fb2 ((minV d).final.length) fc2)]) 25 (0, 0)), rowI nb2 nc2 33 1 (vals qs2), rowI fb2 fc2 4 1 (bools (minV d).final), objI z3 (.cells (List.toArray [(.int .i64 d.vars), (.int .i64 d.start), (.slice nb1 d.next.length nc1), (.slice fb1 d.final.length fc1)]) 25 (0, 0)), rowI nb1 nc1 33 1 (vals qs1), rowI fb1 fc1 4 1 (bools d.final), objI z1 (.cells (List.toArray [(.int .i64 d.vars), (.int .i64 d.start), (.slice nb d.next.length nc), (.slice fb d.final.length fc)]) 25 (0, 0))] ++ ((itms 3 qs3) ++ ((itms 3 qs2) ++ (itms 3 qs1)))) w1) => roundsA w1 d nb1 fb1 nc1 fc1 (vals qs1) (show DfaAt w1 d nb1 (vals qs1) fb1 from ⟨hI.slOf (List.mem_of_getElem? (i := 10) rfl), hq1 ▸ hI.recs (fun q hq => List.mem_append_right _ (List.mem_append_right _ (List.mem_append_right _ (List.mem_map_of_mem (f := Rec.itm 3) hq)))), hI.slOf (List.mem_of_getElem? (i := 11) rfl)⟩) hb hbr hbf hN k hk9
            refine TO.loud rfl (l_call ent19 (CallT.of_pure hk69) rfl ?_)
            clear hk69
            rintro v O' ⟨N, rfl, lb4, lc4, rfl, rfl⟩
            refine TO.quiet (q_move rfl) ?_
            refine TO.quiet (q_extract (vs := _) rfl rfl) ?_
            refine TO.quiet (q_extract (vs := _) rfl rfl) ?_
            refine TO.quiet (q_assign rfl) ?_
            refine TO.quiet (q_assign rfl) ?_
            refine TO.nil ?_
            refine T.seq ?_
            refine T.seq ?_
            refine T.region ?_
            refine TO.quiet (q_move rfl) ?_
            refine TO.quiet (q_move rfl) ?_
            refine TO.quiet (QT.toB (q_neq rfl rfl) (decide_eq_false (fun h => h rfl))) ?_
            refine TO.quiet (q_move rfl) ?_
            refine TO.guarded rfl rfl rfl (LT.of_quiet rfl rfl (q_move rfl) ?_)
            refine TO.guarded rfl rfl rfl (LT.of_quiet rfl rfl (q_move rfl) ?_)
            refine TO.guarded rfl rfl rfl (LT.of_quiet rfl rfl (QT.toB (q_neq rfl rfl) (decide_eq_false (fun h => h rfl))) ?_)
            refine TO.quiet (q_pick0 rfl rfl) ?_
            refine TO.quiet (q_move rfl) ?_
            refine TO.guarded rfl rfl rfl (LT.of_quiet rfl rfl (q_move rfl) ?_)
            refine TO.guarded rfl rfl rfl (LT.of_quiet rfl rfl (q_move rfl) ?_)
            refine TO.guarded rfl rfl rfl (LT.of_quiet rfl rfl (QT.toB (q_neq rfl rfl) (decide_eq_false (fun h => h rfl))) ?_)
            refine TO.quiet (q_pick0 rfl rfl) ?_
            refine TO.quiet (q_move rfl) ?_
            refine TO.guarded rfl rfl rfl (LT.of_quiet rfl rfl (q_load_boxAgg 2 Tryd.underlying25 rfl inf25 rfl rfl rfl) ?_)
            refine TO.guarded rfl rfl rfl (LT.of_quiet rfl rfl (q_load_boxAgg 7 Tryd.underlying25 rfl inf25 rfl rfl rfl) ?_)
            have hk88 := fun (w1 : World) (hI : Inv w ([rowI lb4 lc4 3 1 (nats (rndsV d k)), rowI lb3 lc3 3 1 (nats (rndsV d d.next.length)), objI z5 (.cells (List.toArray [(.int .i64 (minV d).vars), (.int .i64 (minV d).start), (.slice nb3 ((minV d).next.length) nc3), (.slice fb3 ((minV d).final.length) fc3)]) 25 (0, 0)), rowI nb3 nc3 33 1 (vals qs3), rowI fb3 fc3 4 1 (bools (minV d).final), rowI lb2 lc2 3 1 (nats (rndsV d k)), rowI lb1 lc1 3 1 (nats (rndsV d d.next.length)), objI z4 (.cells (List.toArray [(.int .i64 (minV d).vars), (.int .i64 (minV d).start), (.slice nb2 ((minV d).next.length) nc2), (.slice fb2 ((minV d).final.length) fc2)]) 25 (0, 0)), rowI nb2 nc2 33 1 (vals qs2), rowI fb2 fc2 4 1 (bools (minV d).final), objI z3 (.cells (List.toArray [(.int .i64 d.vars), (.int .i64 d.start), (.slice nb1 d.next.length nc1), (.slice fb1 d.final.length fc1)]) 25 (0, 0)), rowI nb1 nc1 33 1 (vals qs1), rowI fb1 fc1 4 1 (bools d.final), objI z1 (.cells (List.toArray [(.int .i64 d.vars), (.int .i64 d.start), (.slice nb d.next.length nc), (.slice fb d.final.length fc)]) 25 (0, 0))] ++ ((itms 3 qs3) ++ ((itms 3 qs2) ++ (itms 3 qs1)))) w1) => equalDFAT w1 (minV d) nb3 nb2 fb3 fb2 nc3 nc2 fc3 fc2 (vals qs3) (vals qs2) (show DfaAt w1 (minV d) nb3 (vals qs3) fb3 from ⟨hI.slOf (List.mem_of_getElem? (i := 3) rfl), hq3 ▸ hI.recs (fun q hq => List.mem_append_right _ (List.mem_append_left _ (List.mem_map_of_mem (f := Rec.itm 3) hq))), hI.slOf (List.mem_of_getElem? (i := 4) rfl)⟩) (show DfaAt w1 (minV d) nb2 (vals qs2) fb2 from ⟨hI.slOf (List.mem_of_getElem? (i := 8) rfl), hq2 ▸ hI.recs (fun q hq => List.mem_append_right _ (List.mem_append_right _ (List.mem_append_left _ (List.mem_map_of_mem (f := Rec.itm 3) hq)))), hI.slOf (List.mem_of_getElem? (i := 9) rfl)⟩) (by omega) (fun r hr => by have := hmb.2.2 r hr; omega) (by omega)
            refine TO.guarded rfl rfl rfl (l_call ent20 (CallT.of_pure hk88) rfl ?_)
            clear hk88
            rintro v O' ⟨N, rfl, rfl, rfl⟩
            refine TO.guarded rfl rfl rfl (LT.of_quiet rfl rfl (q_not rfl) ?_)
            refine TO.quiet (q_pick0 rfl rfl) ?_
            refine TO.quiet (q_move rfl) ?_
            refine TO.guarded rfl rfl rfl (LT.of_quiet rfl rfl (q_move rfl) ?_)
            refine TO.guarded rfl rfl rfl (LT.of_quiet rfl rfl (q_move rfl) ?_)
            have hk94 := fun (w1 : World) (hI : Inv w ([rowI lb4 lc4 3 1 (nats (rndsV d k)), rowI lb3 lc3 3 1 (nats (rndsV d d.next.length)), objI z5 (.cells (List.toArray [(.int .i64 (minV d).vars), (.int .i64 (minV d).start), (.slice nb3 ((minV d).next.length) nc3), (.slice fb3 ((minV d).final.length) fc3)]) 25 (0, 0)), rowI nb3 nc3 33 1 (vals qs3), rowI fb3 fc3 4 1 (bools (minV d).final), rowI lb2 lc2 3 1 (nats (rndsV d k)), rowI lb1 lc1 3 1 (nats (rndsV d d.next.length)), objI z4 (.cells (List.toArray [(.int .i64 (minV d).vars), (.int .i64 (minV d).start), (.slice nb2 ((minV d).next.length) nc2), (.slice fb2 ((minV d).final.length) fc2)]) 25 (0, 0)), rowI nb2 nc2 33 1 (vals qs2), rowI fb2 fc2 4 1 (bools (minV d).final), objI z3 (.cells (List.toArray [(.int .i64 d.vars), (.int .i64 d.start), (.slice nb1 d.next.length nc1), (.slice fb1 d.final.length fc1)]) 25 (0, 0)), rowI nb1 nc1 33 1 (vals qs1), rowI fb1 fc1 4 1 (bools d.final), objI z1 (.cells (List.toArray [(.int .i64 d.vars), (.int .i64 d.start), (.slice nb d.next.length nc), (.slice fb d.final.length fc)]) 25 (0, 0))] ++ ((itms 3 qs3) ++ ((itms 3 qs2) ++ (itms 3 qs1)))) w1) => equalNatsT w1 lb3 lb1 lc3 lc1 _ _ (rndsV d d.next.length) rfl rfl (hI.slOf (List.mem_of_getElem? (i := 1) rfl)) (hI.slOf (List.mem_of_getElem? (i := 6) rfl)) (Nat.lt_of_le_of_lt (hrl _) hb)
            refine TO.guarded rfl rfl rfl (l_call ent21 (CallT.of_pure hk94) rfl ?_)
            clear hk94
            rintro v O' ⟨N, rfl, rfl, rfl⟩
            refine TO.guarded rfl rfl rfl (LT.of_quiet rfl rfl (q_not rfl) ?_)
            refine TO.quiet (q_pick0 rfl rfl) ?_
            refine TO.quiet (q_move rfl) ?_
            refine TO.guarded rfl rfl rfl (LT.of_quiet rfl rfl (q_move rfl) ?_)
            refine TO.guarded rfl rfl rfl (LT.of_quiet rfl rfl (q_move rfl) ?_)
            have hk100 := fun (w1 : World) (hI : Inv w ([rowI lb4 lc4 3 1 (nats (rndsV d k)), rowI lb3 lc3 3 1 (nats (rndsV d d.next.length)), objI z5 (.cells (List.toArray [(.int .i64 (minV d).vars), (.int .i64 (minV d).start), (.slice nb3 ((minV d).next.length) nc3), (.slice fb3 ((minV d).final.length) fc3)]) 25 (0, 0)), rowI nb3 nc3 33 1 (vals qs3), rowI fb3 fc3 4 1 (bools (minV d).final), rowI lb2 lc2 3 1 (nats (rndsV d k)), rowI lb1 lc1 3 1 (nats (rndsV d d.next.length)), objI z4 (.cells (List.toArray [(.int .i64 (minV d).vars), (.int .i64 (minV d).start), (.slice nb2 ((minV d).next.length) nc2), (.slice fb2 ((minV d).final.length) fc2)]) 25 (0, 0)), rowI nb2 nc2 33 1 (vals qs2), rowI fb2 fc2 4 1 (bools (minV d).final), objI z3 (.cells (List.toArray [(.int .i64 d.vars), (.int .i64 d.start), (.slice nb1 d.next.length nc1), (.slice fb1 d.final.length fc1)]) 25 (0, 0)), rowI nb1 nc1 33 1 (vals qs1), rowI fb1 fc1 4 1 (bools d.final), objI z1 (.cells (List.toArray [(.int .i64 d.vars), (.int .i64 d.start), (.slice nb d.next.length nc), (.slice fb d.final.length fc)]) 25 (0, 0))] ++ ((itms 3 qs3) ++ ((itms 3 qs2) ++ (itms 3 qs1)))) w1) => equalNatsT w1 lb4 lb2 lc4 lc2 _ _ (rndsV d k) rfl rfl (hI.slOf (List.mem_of_getElem? (i := 0) rfl)) (hI.slOf (List.mem_of_getElem? (i := 5) rfl)) (Nat.lt_of_le_of_lt (hrl _) hb)
            refine TO.guarded rfl rfl rfl (l_call ent21 (CallT.of_pure hk100) rfl ?_)
            clear hk100
            rintro v O' ⟨N, rfl, rfl, rfl⟩
            refine TO.guarded rfl rfl rfl (LT.of_quiet rfl rfl (q_not rfl) ?_)
            refine TO.quiet (q_pick0 rfl rfl) ?_
            refine TO.quiet (q_move rfl) ?_
            refine TO.guarded rfl rfl rfl (LT.of_quiet rfl rfl (q_load_boxAgg 10 Tryd.underlying25 rfl inf25 rfl rfl rfl) ?_)
            refine TO.guarded rfl rfl rfl (LT.of_quiet rfl rfl (q_load_boxAgg 13 Tryd.underlying25 rfl inf25 rfl rfl rfl) ?_)
            have hk106 := fun (w1 : World) (hI : Inv w ([rowI lb4 lc4 3 1 (nats (rndsV d k)), rowI lb3 lc3 3 1 (nats (rndsV d d.next.length)), objI z5 (.cells (List.toArray [(.int .i64 (minV d).vars), (.int .i64 (minV d).start), (.slice nb3 ((minV d).next.length) nc3), (.slice fb3 ((minV d).final.length) fc3)]) 25 (0, 0)), rowI nb3 nc3 33 1 (vals qs3), rowI fb3 fc3 4 1 (bools (minV d).final), rowI lb2 lc2 3 1 (nats (rndsV d k)), rowI lb1 lc1 3 1 (nats (rndsV d d.next.length)), objI z4 (.cells (List.toArray [(.int .i64 (minV d).vars), (.int .i64 (minV d).start), (.slice nb2 ((minV d).next.length) nc2), (.slice fb2 ((minV d).final.length) fc2)]) 25 (0, 0)), rowI nb2 nc2 33 1 (vals qs2), rowI fb2 fc2 4 1 (bools (minV d).final), objI z3 (.cells (List.toArray [(.int .i64 d.vars), (.int .i64 d.start), (.slice nb1 d.next.length nc1), (.slice fb1 d.final.length fc1)]) 25 (0, 0)), rowI nb1 nc1 33 1 (vals qs1), rowI fb1 fc1 4 1 (bools d.final), objI z1 (.cells (List.toArray [(.int .i64 d.vars), (.int .i64 d.start), (.slice nb d.next.length nc), (.slice fb d.final.length fc)]) 25 (0, 0))] ++ ((itms 3 qs3) ++ ((itms 3 qs2) ++ (itms 3 qs1)))) w1) => equalDFAT w1 d nb1 nb fb1 fb nc1 nc fc1 fc (vals qs1) vs (show DfaAt w1 d nb1 (vals qs1) fb1 from ⟨hI.slOf (List.mem_of_getElem? (i := 11) rfl), hq1 ▸ hI.recs (fun q hq => List.mem_append_right _ (List.mem_append_right _ (List.mem_append_right _ (List.mem_map_of_mem (f := Rec.itm 3) hq)))), hI.slOf (List.mem_of_getElem? (i := 12) rfl)⟩) (hI.dfa h) hb hbr hbf
            refine TO.guarded rfl rfl rfl (l_call ent20 (CallT.of_pure hk106) rfl ?_)
            clear hk106
            rintro v O' ⟨N, rfl, rfl, rfl⟩
            refine TO.guarded rfl rfl rfl (LT.of_quiet rfl rfl (q_not rfl) ?_)
            refine TO.quiet (q_pick0 rfl rfl) ?_
            refine TO.nil ?_
            refine T.cond0 rfl ?_
            refine T.skip ?_
            refine T.seq ?_
            refine T.region ?_
            refine TO.quiet (q_load_boxAgg 2 Tryd.underlying25 rfl inf25 rfl rfl rfl) ?_
            have hk110 := CallT.under (B := ([rowI lb4 lc4 3 1 (nats (rndsV d k)), rowI lb3 lc3 3 1 (nats (rndsV d d.next.length)), objI z5 (.cells (List.toArray [(.int .i64 (minV d).vars), (.int .i64 (minV d).start), (.slice nb3 ((minV d).next.length) nc3), (.slice fb3 ((minV d).final.length) fc3)]) 25 (0, 0)), rowI lb2 lc2 3 1 (nats (rndsV d k)), rowI lb1 lc1 3 1 (nats (rndsV d d.next.length)), objI z4 (.cells (List.toArray [(.int .i64 (minV d).vars), (.int .i64 (minV d).start), (.slice nb2 ((minV d).next.length) nc2), (.slice fb2 ((minV d).final.length) fc2)]) 25 (0, 0)), rowI nb2 nc2 33 1 (vals qs2), rowI fb2 fc2 4 1 (bools (minV d).final), objI z3 (.cells (List.toArray [(.int .i64 d.vars), (.int .i64 d.start), (.slice nb1 d.next.length nc1), (.slice fb1 d.final.length fc1)]) 25 (0, 0)), rowI nb1 nc1 33 1 (vals qs1), rowI fb1 fc1 4 1 (bools d.final), objI z1 (.cells (List.toArray [(.int .i64 d.vars), (.int .i64 d.start), (.slice nb d.next.length nc), (.slice fb d.final.length fc)]) 25 (0, 0))] ++ (itms 3 qs2 ++ itms 3 qs1))) (O := ([rowI lb4 lc4 3 1 (nats (rndsV d k)), rowI lb3 lc3 3 1 (nats (rndsV d d.next.length)), objI z5 (.cells (List.toArray [(.int .i64 (minV d).vars), (.int .i64 (minV d).start), (.slice nb3 ((minV d).next.length) nc3), (.slice fb3 ((minV d).final.length) fc3)]) 25 (0, 0)), rowI nb3 nc3 33 1 (vals qs3), rowI fb3 fc3 4 1 (bools (minV d).final), rowI lb2 lc2 3 1 (nats (rndsV d k)), rowI lb1 lc1 3 1 (nats (rndsV d d.next.length)), objI z4 (.cells (List.toArray [(.int .i64 (minV d).vars), (.int .i64 (minV d).start), (.slice nb2 ((minV d).next.length) nc2), (.slice fb2 ((minV d).final.length) fc2)]) 25 (0, 0)), rowI nb2 nc2 33 1 (vals qs2), rowI fb2 fc2 4 1 (bools (minV d).final), objI z3 (.cells (List.toArray [(.int .i64 d.vars), (.int .i64 d.start), (.slice nb1 d.next.length nc1), (.slice fb1 d.final.length fc1)]) 25 (0, 0)), rowI nb1 nc1 33 1 (vals qs1), rowI fb1 fc1 4 1 (bools d.final), objI z1 (.cells (List.toArray [(.int .i64 d.vars), (.int .i64 d.start), (.slice nb d.next.length nc), (.slice fb d.final.length fc)]) 25 (0, 0))] ++ ((itms 3 qs3) ++ ((itms 3 qs2) ++ (itms 3 qs1))))) (overDFA w (minV d) nb3 fb3 nc3 fc3 nc3 fc3 qs3 hq3 (by omega) (fun r hr => by have := hmb.2.2 r hr; omega) (by omega)) (Sub.cnt [] (by intro a; simp only [itms, List.set_cons_zero, List.set_cons_succ, putL, List.cons_append, List.nil_append, List.append_nil, List.append_assoc, List.map_append, List.map_cons, List.map_nil, cnt_append, cnt_cons, cnt_nil] <;> omega))
            refine TO.loud rfl (l_call ent22 hk110 rfl ?_)
            clear hk110
            rintro v O' ⟨A1, rfl, rfl⟩
            refine TO.nil ?_
            refine T.seq ?_
            refine T.region ?_
            refine TO.quiet (q_move rfl) ?_
            have hk112 := CallT.under (B := ([rowI lb4 lc4 3 1 (nats (rndsV d k)), objI z5 (.cells (List.toArray [(.int .i64 (minV d).vars), (.int .i64 (minV d).start), (.slice nb3 ((minV d).next.length) nc3), (.slice fb3 ((minV d).final.length) fc3)]) 25 (0, 0)), rowI lb2 lc2 3 1 (nats (rndsV d k)), rowI lb1 lc1 3 1 (nats (rndsV d d.next.length)), objI z4 (.cells (List.toArray [(.int .i64 (minV d).vars), (.int .i64 (minV d).start), (.slice nb2 ((minV d).next.length) nc2), (.slice fb2 ((minV d).final.length) fc2)]) 25 (0, 0)), rowI nb2 nc2 33 1 (vals qs2), rowI fb2 fc2 4 1 (bools (minV d).final), objI z3 (.cells (List.toArray [(.int .i64 d.vars), (.int .i64 d.start), (.slice nb1 d.next.length nc1), (.slice fb1 d.final.length fc1)]) 25 (0, 0)), rowI nb1 nc1 33 1 (vals qs1), rowI fb1 fc1 4 1 (bools d.final), objI z1 (.cells (List.toArray [(.int .i64 d.vars), (.int .i64 d.start), (.slice nb d.next.length nc), (.slice fb d.final.length fc)]) 25 (0, 0))] ++ (itms 3 qs2 ++ itms 3 qs1))) (O := ([rowI lb4 lc4 3 1 (nats (rndsV d k)), rowI lb3 lc3 3 1 (nats (rndsV d d.next.length)), objI z5 (.cells (List.toArray [(.int .i64 (minV d).vars), (.int .i64 (minV d).start), (.slice nb3 ((minV d).next.length) nc3), (.slice fb3 ((minV d).final.length) fc3)]) 25 (0, 0)), rowI lb2 lc2 3 1 (nats (rndsV d k)), rowI lb1 lc1 3 1 (nats (rndsV d d.next.length)), objI z4 (.cells (List.toArray [(.int .i64 (minV d).vars), (.int .i64 (minV d).start), (.slice nb2 ((minV d).next.length) nc2), (.slice fb2 ((minV d).final.length) fc2)]) 25 (0, 0)), rowI nb2 nc2 33 1 (vals qs2), rowI fb2 fc2 4 1 (bools (minV d).final), objI z3 (.cells (List.toArray [(.int .i64 d.vars), (.int .i64 d.start), (.slice nb1 d.next.length nc1), (.slice fb1 d.final.length fc1)]) 25 (0, 0)), rowI nb1 nc1 33 1 (vals qs1), rowI fb1 fc1 4 1 (bools d.final), objI z1 (.cells (List.toArray [(.int .i64 d.vars), (.int .i64 d.start), (.slice nb d.next.length nc), (.slice fb d.final.length fc)]) 25 (0, 0))] ++ (itms 3 qs2 ++ itms 3 qs1))) (overNats w lb3 lc3 lc3 _ (rndsV d d.next.length) rfl (Nat.lt_of_le_of_lt (hrl _) hb)) (Sub.cnt [] (by intro a; simp only [itms, List.set_cons_zero, List.set_cons_succ, putL, List.cons_append, List.nil_append, List.append_nil, List.append_assoc, List.map_append, List.map_cons, List.map_nil, cnt_append, cnt_cons, cnt_nil] <;> omega))
            refine TO.loud rfl (l_call ent23 hk112 rfl ?_)
            clear hk112
            rintro v O' ⟨A1, rfl, rfl⟩
            refine TO.nil ?_
            refine T.region ?_
            refine TO.quiet (q_move rfl) ?_
            have hk114 := CallT.under (B := ([objI z5 (.cells (List.toArray [(.int .i64 (minV d).vars), (.int .i64 (minV d).start), (.slice nb3 ((minV d).next.length) nc3), (.slice fb3 ((minV d).final.length) fc3)]) 25 (0, 0)), rowI lb2 lc2 3 1 (nats (rndsV d k)), rowI lb1 lc1 3 1 (nats (rndsV d d.next.length)), objI z4 (.cells (List.toArray [(.int .i64 (minV d).vars), (.int .i64 (minV d).start), (.slice nb2 ((minV d).next.length) nc2), (.slice fb2 ((minV d).final.length) fc2)]) 25 (0, 0)), rowI nb2 nc2 33 1 (vals qs2), rowI fb2 fc2 4 1 (bools (minV d).final), objI z3 (.cells (List.toArray [(.int .i64 d.vars), (.int .i64 d.start), (.slice nb1 d.next.length nc1), (.slice fb1 d.final.length fc1)]) 25 (0, 0)), rowI nb1 nc1 33 1 (vals qs1), rowI fb1 fc1 4 1 (bools d.final), objI z1 (.cells (List.toArray [(.int .i64 d.vars), (.int .i64 d.start), (.slice nb d.next.length nc), (.slice fb d.final.length fc)]) 25 (0, 0))] ++ (itms 3 qs2 ++ itms 3 qs1))) (O := ([rowI lb4 lc4 3 1 (nats (rndsV d k)), objI z5 (.cells (List.toArray [(.int .i64 (minV d).vars), (.int .i64 (minV d).start), (.slice nb3 ((minV d).next.length) nc3), (.slice fb3 ((minV d).final.length) fc3)]) 25 (0, 0)), rowI lb2 lc2 3 1 (nats (rndsV d k)), rowI lb1 lc1 3 1 (nats (rndsV d d.next.length)), objI z4 (.cells (List.toArray [(.int .i64 (minV d).vars), (.int .i64 (minV d).start), (.slice nb2 ((minV d).next.length) nc2), (.slice fb2 ((minV d).final.length) fc2)]) 25 (0, 0)), rowI nb2 nc2 33 1 (vals qs2), rowI fb2 fc2 4 1 (bools (minV d).final), objI z3 (.cells (List.toArray [(.int .i64 d.vars), (.int .i64 d.start), (.slice nb1 d.next.length nc1), (.slice fb1 d.final.length fc1)]) 25 (0, 0)), rowI nb1 nc1 33 1 (vals qs1), rowI fb1 fc1 4 1 (bools d.final), objI z1 (.cells (List.toArray [(.int .i64 d.vars), (.int .i64 d.start), (.slice nb d.next.length nc), (.slice fb d.final.length fc)]) 25 (0, 0))] ++ (itms 3 qs2 ++ itms 3 qs1))) (overNats w lb4 lc4 lc4 _ (rndsV d k) rfl (Nat.lt_of_le_of_lt (hrl _) hb)) (Sub.cnt [] (by intro a; simp only [itms, List.set_cons_zero, List.set_cons_succ, putL, List.cons_append, List.nil_append, List.append_nil, List.append_assoc, List.map_append, List.map_cons, List.map_nil, cnt_append, cnt_cons, cnt_nil] <;> omega))
            refine TO.loud rfl (l_call ent23 hk114 rfl ?_)
            clear hk114
            rintro v O' ⟨A1, rfl, rfl⟩
            refine TO.nil ?_
            refine T.region ?_
            refine TO.quiet (q_move rfl) ?_
            refine TO.quiet (q_inc rfl rfl (by omega)) ?_
            refine TO.quiet (q_assign rfl) ?_
            refine TO.sub (O' := ([rowI lb2 lc2 3 1 (nats (rndsV d k)), rowI lb1 lc1 3 1 (nats (rndsV d d.next.length)), objI z4 (.cells (List.toArray [(.int .i64 (minV d).vars), (.int .i64 (minV d).start), (.slice nb2 ((minV d).next.length) nc2), (.slice fb2 ((minV d).final.length) fc2)]) 25 (0, 0)), rowI nb2 nc2 33 1 (vals qs2), rowI fb2 fc2 4 1 (bools (minV d).final), objI z3 (.cells (List.toArray [(.int .i64 d.vars), (.int .i64 d.start), (.slice nb1 d.next.length nc1), (.slice fb1 d.final.length fc1)]) 25 (0, 0)), rowI nb1 nc1 33 1 (vals qs1), rowI fb1 fc1 4 1 (bools d.final), objI z1 (.cells (List.toArray [(.int .i64 d.vars), (.int .i64 d.start), (.slice nb d.next.length nc), (.slice fb d.final.length fc)]) 25 (0, 0))] ++ (itms 3 qs2 ++ itms 3 qs1))) (Sub.pickR [1, 1, 1, 1, 1, 1, 1, 1, 1] [objI z5 (.cells (List.toArray [(.int .i64 (minV d).vars), (.int .i64 (minV d).start), (.slice nb3 ((minV d).next.length) nc3), (.slice fb3 ((minV d).final.length) fc3)]) 25 (0, 0)), rowI lb2 lc2 3 1 (nats (rndsV d k)), rowI lb1 lc1 3 1 (nats (rndsV d d.next.length)), objI z4 (.cells (List.toArray [(.int .i64 (minV d).vars), (.int .i64 (minV d).start), (.slice nb2 ((minV d).next.length) nc2), (.slice fb2 ((minV d).final.length) fc2)]) 25 (0, 0)), rowI nb2 nc2 33 1 (vals qs2), rowI fb2 fc2 4 1 (bools (minV d).final), objI z3 (.cells (List.toArray [(.int .i64 d.vars), (.int .i64 d.start), (.slice nb1 d.next.length nc1), (.slice fb1 d.final.length fc1)]) 25 (0, 0)), rowI nb1 nc1 33 1 (vals qs1), rowI fb1 fc1 4 1 (bools d.final), objI z1 (.cells (List.toArray [(.int .i64 d.vars), (.int .i64 d.start), (.slice nb d.next.length nc), (.slice fb d.final.length fc)]) 25 (0, 0))] (itms 3 qs2 ++ itms 3 qs1) rfl rfl) ?_
            refine TO.nil ?_
            exact ⟨r + 1, by omega, rfl, by omega, ⟨rfl, rfl, rfl, rfl, rfl, rfl, rfl, rfl, rfl, rfl, rfl, trivial⟩⟩
          · have hge53 : ¬ r < 2 := by omega
            refine T.exit ?_
            refine T.seq ?_
            refine T.region ?_
            have hk115 := fun (w1 : World) (hI : Inv w ([rowI lb2 lc2 3 1 (nats (rndsV d k)), rowI lb1 lc1 3 1 (nats (rndsV d d.next.length)), objI z4 (.cells (List.toArray [(.int .i64 (minV d).vars), (.int .i64 (minV d).start), (.slice nb2 ((minV d).next.length) nc2), (.slice fb2 ((minV d).final.length) fc2)]) 25 (0, 0)), rowI nb2 nc2 33 1 (vals qs2), rowI fb2 fc2 4 1 (bools (minV d).final), objI z3 (.cells (List.toArray [(.int .i64 d.vars), (.int .i64 d.start), (.slice nb1 d.next.length nc1), (.slice fb1 d.final.length fc1)]) 25 (0, 0)), rowI nb1 nc1 33 1 (vals qs1), rowI fb1 fc1 4 1 (bools d.final), objI z1 (.cells (List.toArray [(.int .i64 d.vars), (.int .i64 d.start), (.slice nb d.next.length nc), (.slice fb d.final.length fc)]) 25 (0, 0))] ++ ((itms 3 qs2) ++ (itms 3 qs1))) w1) => awakeC w1
            refine TO.loud rfl (l_call ent12 (CallT.of_pure hk115) rfl ?_)
            clear hk115
            rintro v O' ⟨N, rfl, rfl, rfl⟩
            refine TO.quiet (q_assign rfl) ?_
            refine TO.nil ?_
            refine T.ret ?_
            refine Res.drop ?_
            refine Res.one (.bool true) Tryd.results3 rfl ?_
            exact ⟨[], Sub.of (List.nil_sublist _), rfl, rfl⟩
    · refine TO.guarded rfl rfl rfl (LT.of_quiet rfl rfl (QT.toB (q_gtr rfl rfl) (decide_eq_false h12)) ?_)
      refine TO.guarded rfl rfl rfl (LT.of_quiet rfl rfl (q_move rfl) ?_)
      refine TO.passed rfl rfl ?_
      refine TO.passed rfl rfl ?_
      refine TO.passed rfl rfl ?_
      refine TO.guarded rfl rfl rfl (LT.of_quiet rfl rfl (q_pick0 rfl rfl) ?_)
      refine TO.quiet (q_pick0 rfl rfl) ?_
      refine TO.sub (O' := [objI z1 (.cells (List.toArray [(.int .i64 d.vars), (.int .i64 d.start), (.slice nb d.next.length nc), (.slice fb d.final.length fc)]) 25 (0, 0))]) (Sub.pick [1] rfl) ?_
      refine TO.nil ?_
      refine T.cond0 rfl ?_
      refine T.skip ?_
      refine T.seq ?_
      obtain ⟨hB1, hB2, hB3⟩ := longD_false hlong
      have hmb := minV_bound d
      have hN : Valid d → d.next.length < 100 := fun hv9 => by have := checkD_zero.2 hv9; omega
      refine T.region ?_
      refine TO.quiet (q_load_boxAgg 0 Tryd.underlying25 rfl inf25 rfl rfl rfl) ?_
      have hk35 := fun (w1 : World) (hI : Inv w [objI z1 (.cells (List.toArray [(.int .i64 d.vars), (.int .i64 d.start), (.slice nb d.next.length nc), (.slice fb d.final.length fc)]) 25 (0, 0))] w1) => copyDFA w1 d nb fb nc fc vs (hI.dfa h) (by omega) (fun r hr => by have := hB3 r hr; omega) (by omega)
      refine TO.loud rfl (l_call ent13 (CallT.of_pure hk35) rfl ?_)
      clear hk35
      rintro v O' ⟨N, rfl, nb1, nc1, fb1, fc1, qs1, rfl, rfl, hq1⟩
      refine TO.sub (O' := ([rowI nb1 nc1 33 1 (vals qs1), rowI fb1 fc1 4 1 (bools d.final), objI z1 (.cells (List.toArray [(.int .i64 d.vars), (.int .i64 d.start), (.slice nb d.next.length nc), (.slice fb d.final.length fc)]) 25 (0, 0))] ++ (itms 3 qs1))) (Sub.cnt [] (by intro a; simp only [itms, List.set_cons_zero, List.set_cons_succ, putL, List.cons_append, List.nil_append, List.append_nil, List.append_assoc, List.map_append, List.map_cons, List.map_nil, cnt_append, cnt_cons, cnt_nil] <;> omega)) ?_
      refine TO.loud rfl (l_alloc inf25 rfl (fun z6 => ?_))
      refine TO.loud rfl (l_store_box (v := (.agg #[(.int .i64 d.vars), (.int .i64 d.start), (.slice nb1 d.next.length nc1), (.slice fb1 d.final.length fc1)])) (vs := [(.int .i64 d.vars), (.int .i64 d.start), (.slice nb1 d.next.length nc1), (.slice fb1 d.final.length fc1)]) 0 inf25 rfl rfl rfl rfl rfl rfl (by simp [putL]) ?_)
      refine TO.nil ?_
      refine T.seq ?_
      refine T.region ?_
      refine TO.quiet (q_load_boxAgg 3 Tryd.underlying25 rfl inf25 rfl rfl rfl) ?_
      have hk38 := fun (w1 : World) (hI : Inv w ([objI z6 (.cells (List.toArray [(.int .i64 d.vars), (.int .i64 d.start), (.slice nb1 d.next.length nc1), (.slice fb1 d.final.length fc1)]) 25 (0, 0)), rowI nb1 nc1 33 1 (vals qs1), rowI fb1 fc1 4 1 (bools d.final), objI z1 (.cells (List.toArray [(.int .i64 d.vars), (.int .i64 d.start), (.slice nb d.next.length nc), (.slice fb d.final.length fc)]) 25 (0, 0))] ++ (itms 3 qs1)) w1) => rMinA w1 d nb fb nc fc vs (hI.dfa h) hb hbr hbf hN
      refine TO.loud rfl (l_call ent14 (CallT.of_pure hk38) rfl ?_)
      clear hk38
      rintro v O' ⟨N, rfl, nb2, nc2, fb2, fc2, qs2, rfl, rfl, hq2⟩
      refine TO.sub (O' := ([rowI nb2 nc2 33 1 (vals qs2), rowI fb2 fc2 4 1 (bools (minV d).final), objI z6 (.cells (List.toArray [(.int .i64 d.vars), (.int .i64 d.start), (.slice nb1 d.next.length nc1), (.slice fb1 d.final.length fc1)]) 25 (0, 0)), rowI nb1 nc1 33 1 (vals qs1), rowI fb1 fc1 4 1 (bools d.final), objI z1 (.cells (List.toArray [(.int .i64 d.vars), (.int .i64 d.start), (.slice nb d.next.length nc), (.slice fb d.final.length fc)]) 25 (0, 0))] ++ ((itms 3 qs2) ++ (itms 3 qs1)))) (Sub.cnt [] (by intro a; simp only [itms, List.set_cons_zero, List.set_cons_succ, putL, List.cons_append, List.nil_append, List.append_nil, List.append_assoc, List.map_append, List.map_cons, List.map_nil, cnt_append, cnt_cons, cnt_nil] <;> omega)) ?_
      refine TO.quiet (q_move rfl) ?_
      refine TO.quiet (q_extract (vs := _) rfl rfl) ?_
      refine TO.quiet (q_extract (vs := _) rfl rfl) ?_
      refine TO.loud rfl (l_alloc inf25 rfl (fun z7 => ?_))
      refine TO.loud rfl (l_store_box (v := (.agg #[(.int .i64 (minV d).vars), (.int .i64 (minV d).start), (.slice nb2 ((minV d).next.length) nc2), (.slice fb2 ((minV d).final.length) fc2)])) (vs := [(.int .i64 (minV d).vars), (.int .i64 (minV d).start), (.slice nb2 ((minV d).next.length) nc2), (.slice fb2 ((minV d).final.length) fc2)]) 0 inf25 rfl rfl rfl rfl rfl rfl (by simp [putL]) ?_)
      refine TO.quiet (q_assign rfl) ?_
      refine TO.nil ?_
      refine T.seq ?_
      refine T.region ?_
      refine TO.quiet (q_load_boxAgg 6 Tryd.underlying25 rfl inf25 rfl rfl rfl) ?_
      have hk43 := fun (w1 : World) (hI : Inv w ([objI z7 (.cells (List.toArray [(.int .i64 (minV d).vars), (.int .i64 (minV d).start), (.slice nb2 ((minV d).next.length) nc2), (.slice fb2 ((minV d).final.length) fc2)]) 25 (0, 0)), rowI nb2 nc2 33 1 (vals qs2), rowI fb2 fc2 4 1 (bools (minV d).final), objI z6 (.cells (List.toArray [(.int .i64 d.vars), (.int .i64 d.start), (.slice nb1 d.next.length nc1), (.slice fb1 d.final.length fc1)]) 25 (0, 0)), rowI nb1 nc1 33 1 (vals qs1), rowI fb1 fc1 4 1 (bools d.final), objI z1 (.cells (List.toArray [(.int .i64 d.vars), (.int .i64 d.start), (.slice nb d.next.length nc), (.slice fb d.final.length fc)]) 25 (0, 0))] ++ ((itms 3 qs2) ++ (itms 3 qs1))) w1) => rClassesA w1 d nb fb nc fc vs (hI.dfa h) hb hbr hbf hN
      refine TO.loud rfl (l_call ent15 (CallT.of_pure hk43) rfl ?_)
      clear hk43
      rintro v O' ⟨N, rfl, lb1, lc1, rfl, rfl⟩
      refine TO.quiet (q_move rfl) ?_
      refine TO.quiet (q_extract (vs := _) rfl rfl) ?_
      refine TO.quiet (q_extract (vs := _) rfl rfl) ?_
      refine TO.quiet (q_assign rfl) ?_
      refine TO.quiet (q_assign rfl) ?_
      refine TO.nil ?_
      refine T.seq ?_
      refine T.region ?_
      refine TO.quiet (q_load_boxAgg 7 Tryd.underlying25 rfl inf25 rfl rfl rfl) ?_
      refine TO.quiet (q_move rfl) ?_
      have hk49 := fun (w1 : World) (hI : Inv w ([rowI lb1 lc1 3 1 (nats (rndsV d d.next.length)), objI z7 (.cells (List.toArray [(.int .i64 (minV d).vars), (.int .i64 (minV d).start), (.slice nb2 ((minV d).next.length) nc2), (.slice fb2 ((minV d).final.length) fc2)]) 25 (0, 0)), rowI nb2 nc2 33 1 (vals qs2), rowI fb2 fc2 4 1 (bools (minV d).final), objI z6 (.cells (List.toArray [(.int .i64 d.vars), (.int .i64 d.start), (.slice nb1 d.next.length nc1), (.slice fb1 d.final.length fc1)]) 25 (0, 0)), rowI nb1 nc1 33 1 (vals qs1), rowI fb1 fc1 4 1 (bools d.final), objI z1 (.cells (List.toArray [(.int .i64 d.vars), (.int .i64 d.start), (.slice nb d.next.length nc), (.slice fb d.final.length fc)]) 25 (0, 0))] ++ ((itms 3 qs2) ++ (itms 3 qs1))) w1) => rRoundsA w1 d nb fb nc fc vs (hI.dfa h) hb hbr hbf hN k hk9
      refine TO.loud rfl (l_call ent16 (CallT.of_pure hk49) rfl ?_)
      clear hk49
      rintro v O' ⟨N, rfl, lb2, lc2, rfl, rfl⟩
      refine TO.quiet (q_move rfl) ?_
      refine TO.quiet (q_extract (vs := _) rfl rfl) ?_
      refine TO.quiet (q_extract (vs := _) rfl rfl) ?_
      refine TO.quiet (q_assign rfl) ?_
      refine TO.quiet (q_assign rfl) ?_
      refine TO.nil ?_
      refine T.seq ?_
      refine T.seq ?_
      refine T.region ?_
      refine TO.quiet (q_assign rfl) ?_
      refine TO.nil ?_
      refine T.block ?_
      have hrl : ∀ k, (rndsV d k).length ≤ d.next.length := fun k => by
        unfold rndsV
        split
        · rw [itF_length]; exact Nat.le_refl _
        · exact Nat.zero_le _
      refine T.loop (fun (r : Nat) ρ O => O = ([rowI lb2 lc2 3 1 (nats (rndsV d k)), rowI lb1 lc1 3 1 (nats (rndsV d d.next.length)), objI z7 (.cells (List.toArray [(.int .i64 (minV d).vars), (.int .i64 (minV d).start), (.slice nb2 ((minV d).next.length) nc2), (.slice fb2 ((minV d).final.length) fc2)]) 25 (0, 0)), rowI nb2 nc2 33 1 (vals qs2), rowI fb2 fc2 4 1 (bools (minV d).final), objI z6 (.cells (List.toArray [(.int .i64 d.vars), (.int .i64 d.start), (.slice nb1 d.next.length nc1), (.slice fb1 d.final.length fc1)]) 25 (0, 0)), rowI nb1 nc1 33 1 (vals qs1), rowI fb1 fc1 4 1 (bools d.final), objI z1 (.cells (List.toArray [(.int .i64 d.vars), (.int .i64 d.start), (.slice nb d.next.length nc), (.slice fb d.final.length fc)]) 25 (0, 0))] ++ ((itms 3 qs2) ++ (itms 3 qs1))) ∧ r ≤ 2 ∧ Heads [(0, (.agg #[(.int .i64 d.vars), (.int .i64 d.start), (.slice nb d.next.length nc), (.slice fb d.final.length fc)])), (1, .int .i64 k), (2, (.pointer (some ⟨z1, 0, none⟩))), (5, (.pointer (some ⟨z6, 0, none⟩))), (6, (.pointer (some ⟨z7, 0, none⟩))), (7, .int .i64 (checkD d : Int)), (8, (.slice lb1 ((rndsV d d.next.length).length) lc1)), (9, .int .i64 (checkD d : Int)), (10, (.slice lb2 ((rndsV d k).length) lc2)), (11, .int .i64 (checkD d : Int)), (12, .int .i64 (r : Int))] ρ) (fun r => 2 - r) 0 ?_ ?_
      · exact ⟨rfl, Nat.zero_le _, ⟨rfl, rfl, rfl, rfl, rfl, rfl, rfl, rfl, rfl, rfl, rfl, trivial⟩⟩
      · rintro r ρ O ⟨rfl, hr, hH⟩
        obtain ⟨ρ0, rfl⟩ := hH.elim
        clear hH
        refine T.seq ?_
        refine T.seq ?_
        refine T.region ?_
        refine TO.quiet (q_move rfl) ?_
        refine TO.quiet (q_lss rfl rfl) ?_
        refine TO.nil ?_
        refine T.condP rfl (fun hc => ?_) (fun hc => ?_)
        · have hlt53 : r < 2 := by omega
          refine T.skip ?_
          refine T.seq ?_
          refine T.block ?_
          refine T.seq ?_
          refine T.region ?_
          refine TO.quiet (q_load_boxAgg 5 Tryd.underlying25 rfl inf25 rfl rfl rfl) ?_
          have hk58 := fun (w1 : World) (hI : Inv w ([rowI lb2 lc2 3 1 (nats (rndsV d k)), rowI lb1 lc1 3 1 (nats (rndsV d d.next.length)), objI z7 (.cells (List.toArray [(.int .i64 (minV d).vars), (.int .i64 (minV d).start), (.slice nb2 ((minV d).next.length) nc2), (.slice fb2 ((minV d).final.length) fc2)]) 25 (0, 0)), rowI nb2 nc2 33 1 (vals qs2), rowI fb2 fc2 4 1 (bools (minV d).final), objI z6 (.cells (List.toArray [(.int .i64 d.vars), (.int .i64 d.start), (.slice nb1 d.next.length nc1), (.slice fb1 d.final.length fc1)]) 25 (0, 0)), rowI nb1 nc1 33 1 (vals qs1), rowI fb1 fc1 4 1 (bools d.final), objI z1 (.cells (List.toArray [(.int .i64 d.vars), (.int .i64 d.start), (.slice nb d.next.length nc), (.slice fb d.final.length fc)]) 25 (0, 0))] ++ ((itms 3 qs2) ++ (itms 3 qs1))) w1) => minA w1 d nb1 fb1 nc1 fc1 (vals qs1) (show DfaAt w1 d nb1 (vals qs1) fb1 from ⟨hI.slOf (List.mem_of_getElem? (i := 6) rfl), hq1 ▸ hI.recs (fun q hq => List.mem_append_right _ (List.mem_append_right _ (List.mem_map_of_mem (f := Rec.itm 3) hq))), hI.slOf (List.mem_of_getElem? (i := 7) rfl)⟩) hb hbr hbf hN
          refine TO.loud rfl (l_call ent17 (CallT.of_pure hk58) rfl ?_)
          clear hk58
          rintro v O' ⟨N, rfl, nb3, nc3, fb3, fc3, qs3, rfl, rfl, hq3⟩
          refine TO.sub (O' := ([rowI nb3 nc3 33 1 (vals qs3), rowI fb3 fc3 4 1 (bools (minV d).final), rowI lb2 lc2 3 1 (nats (rndsV d k)), rowI lb1 lc1 3 1 (nats (rndsV d d.next.length)), objI z7 (.cells (List.toArray [(.int .i64 (minV d).vars), (.int .i64 (minV d).start), (.slice nb2 ((minV d).next.length) nc2), (.slice fb2 ((minV d).final.length) fc2)]) 25 (0, 0)), rowI nb2 nc2 33 1 (vals qs2), rowI fb2 fc2 4 1 (bools (minV d).final), objI z6 (.cells (List.toArray [(.int .i64 d.vars), (.int .i64 d.start), (.slice nb1 d.next.length nc1), (.slice fb1 d.final.length fc1)]) 25 (0, 0)), rowI nb1 nc1 33 1 (vals qs1), rowI fb1 fc1 4 1 (bools d.final), objI z1 (.cells (List.toArray [(.int .i64 d.vars), (.int .i64 d.start), (.slice nb d.next.length nc), (.slice fb d.final.length fc)]) 25 (0, 0))] ++ ((itms 3 qs3) ++ ((itms 3 qs2) ++ (itms 3 qs1))))) (Sub.cnt [] (by intro a; simp only [itms, List.set_cons_zero, List.set_cons_succ, putL, List.cons_append, List.nil_append, List.append_nil, List.append_assoc, List.map_append, List.map_cons, List.map_nil, cnt_append, cnt_cons, cnt_nil] <;> omega)) ?_
          refine TO.quiet (q_move rfl) ?_
          refine TO.quiet (q_extract (vs := _) rfl rfl) ?_
          refine TO.quiet (q_extract (vs := _) rfl rfl) ?_
          refine TO.loud rfl (l_alloc inf25 rfl (fun z8 => ?_))
          refine TO.loud rfl (l_store_box (v := (.agg #[(.int .i64 (minV d).vars), (.int .i64 (minV d).start), (.slice nb3 ((minV d).next.length) nc3), (.slice fb3 ((minV d).final.length) fc3)])) (vs := [(.int .i64 (minV d).vars), (.int .i64 (minV d).start), (.slice nb3 ((minV d).next.length) nc3), (.slice fb3 ((minV d).final.length) fc3)]) 0 inf25 rfl rfl rfl rfl rfl rfl (by simp [putL]) ?_)
          refine TO.quiet (q_assign rfl) ?_
          refine TO.nil ?_
          refine T.seq ?_
          refine T.region ?_
          refine TO.quiet (q_load_boxAgg 8 Tryd.underlying25 rfl inf25 rfl rfl rfl) ?_
          have hk63 := fun (w1 : World) (hI : Inv w ([objI z8 (.cells (List.toArray [(.int .i64 (minV d).vars), (.int .i64 (minV d).start), (.slice nb3 ((minV d).next.length) nc3), (.slice fb3 ((minV d).final.length) fc3)]) 25 (0, 0)), rowI nb3 nc3 33 1 (vals qs3), rowI fb3 fc3 4 1 (bools (minV d).final), rowI lb2 lc2 3 1 (nats (rndsV d k)), rowI lb1 lc1 3 1 (nats (rndsV d d.next.length)), objI z7 (.cells (List.toArray [(.int .i64 (minV d).vars), (.int .i64 (minV d).start), (.slice nb2 ((minV d).next.length) nc2), (.slice fb2 ((minV d).final.length) fc2)]) 25 (0, 0)), rowI nb2 nc2 33 1 (vals qs2), rowI fb2 fc2 4 1 (bools (minV d).final), objI z6 (.cells (List.toArray [(.int .i64 d.vars), (.int .i64 d.start), (.slice nb1 d.next.length nc1), (.slice fb1 d.final.length fc1)]) 25 (0, 0)), rowI nb1 nc1 33 1 (vals qs1), rowI fb1 fc1 4 1 (bools d.final), objI z1 (.cells (List.toArray [(.int .i64 d.vars), (.int .i64 d.start), (.slice nb d.next.length nc), (.slice fb d.final.length fc)]) 25 (0, 0))] ++ ((itms 3 qs3) ++ ((itms 3 qs2) ++ (itms 3 qs1)))) w1) => classesA w1 d nb1 fb1 nc1 fc1 (vals qs1) (show DfaAt w1 d nb1 (vals qs1) fb1 from ⟨hI.slOf (List.mem_of_getElem? (i := 9) rfl), hq1 ▸ hI.recs (fun q hq => List.mem_append_right _ (List.mem_append_right _ (List.mem_append_right _ (List.mem_map_of_mem (f := Rec.itm 3) hq)))), hI.slOf (List.mem_of_getElem? (i := 10) rfl)⟩) hb hbr hbf hN
          refine TO.loud rfl (l_call ent18 (CallT.of_pure hk63) rfl ?_)
          clear hk63
          rintro v O' ⟨N, rfl, lb3, lc3, rfl, rfl⟩
          refine TO.quiet (q_move rfl) ?_
          refine TO.quiet (q_extract (vs := _) rfl rfl) ?_
          refine TO.quiet (q_extract (vs := _) rfl rfl) ?_
          refine TO.quiet (q_assign rfl) ?_
          refine TO.quiet (q_assign rfl) ?_
          refine TO.nil ?_
          refine T.seq ?_
          refine T.region ?_
          refine TO.quiet (q_load_boxAgg 9 Tryd.underlying25 rfl inf25 rfl rfl rfl) ?_
          refine TO.quiet (q_move rfl) ?_
          have hk69 := fun (w1 : World) (hI : Inv w ([rowI lb3 lc3 3 1 (nats (rndsV d d.next.length)), objI z8 (.cells (List.toArray [(.int .i64 (minV d).vars), (.int .i64 (minV d).start), (.slice nb3 ((minV d).next.length) nc3), (.slice fb3 ((minV d).final.length) fc3)]) 25 (0, 0)), rowI nb3 nc3 33 1 (vals qs3), rowI fb3 fc3 4 1 (bools (minV d).final), rowI lb2 lc2 3 1 (nats (rndsV d k)), rowI lb1 lc1 3 1 (nats (rndsV d d.next.length)), objI z7 (.cells (List.toArray [(.int .i64 (minV d).vars), (.int .i64 (minV d).start), (.slice nb2 ((minV d).next.length) nc2), (.slice fb2 ((minV d).final.length) fc2)]) 25 (0, 0)), rowI nb2 nc2 33 1 (vals qs2), rowI fb2 fc2 4 1 (bools (minV d).final), objI z6 (.cells (List.toArray [(.int .i64 d.vars), (.int .i64 d.start), (.slice nb1 d.next.length nc1), (.slice fb1 d.final.length fc1)]) 25 (0, 0)), rowI nb1 nc1 33 1 (vals qs1), rowI fb1 fc1 4 1 (bools d.final), objI z1 (.cells (List.toArray [(.int .i64 d.vars), (.int .i64 d.start), (.slice nb d.next.length nc), (.slice fb d.final.length fc)]) 25 (0, 0))] ++ ((itms 3 qs3) ++ ((itms 3 qs2) ++ (itms 3 qs1)))) w1) => roundsA w1 d nb1 fb1 nc1 fc1 (vals qs1) (show DfaAt w1 d nb1 (vals qs1) fb1 from ⟨hI.slOf (List.mem_of_getElem? (i := 10) rfl), hq1 ▸ hI.recs (fun q hq => List.mem_append_right _ (List.mem_append_right _ (List.mem_append_right _ (List.mem_map_of_mem (f := Rec.itm 3) hq)))), hI.slOf (List.mem_of_getElem? (i := 11) rfl)⟩) hb hbr hbf hN k hk9
          refine TO.loud rfl (l_call ent19 (CallT.of_pure hk69) rfl ?_)
          clear hk69
          rintro v O' ⟨N, rfl, lb4, lc4, rfl, rfl⟩
          refine TO.quiet (q_move rfl) ?_
          refine TO.quiet (q_extract (vs := _) rfl rfl) ?_
          refine TO.quiet (q_extract (vs := _) rfl rfl) ?_
          refine TO.quiet (q_assign rfl) ?_
          refine TO.quiet (q_assign rfl) ?_
          refine TO.nil ?_
          refine T.seq ?_
          refine T.seq ?_
          refine T.region ?_
          refine TO.quiet (q_move rfl) ?_
          refine TO.quiet (q_move rfl) ?_
          refine TO.quiet (QT.toB (q_neq rfl rfl) (decide_eq_false (fun h => h rfl))) ?_
          refine TO.quiet (q_move rfl) ?_
          refine TO.guarded rfl rfl rfl (LT.of_quiet rfl rfl (q_move rfl) ?_)
          refine TO.guarded rfl rfl rfl (LT.of_quiet rfl rfl (q_move rfl) ?_)
          refine TO.guarded rfl rfl rfl (LT.of_quiet rfl rfl (QT.toB (q_neq rfl rfl) (decide_eq_false (fun h => h rfl))) ?_)
          refine TO.quiet (q_pick0 rfl rfl) ?_
          refine TO.quiet (q_move rfl) ?_
          refine TO.guarded rfl rfl rfl (LT.of_quiet rfl rfl (q_move rfl) ?_)
          refine TO.guarded rfl rfl rfl (LT.of_quiet rfl rfl (q_move rfl) ?_)
          refine TO.guarded rfl rfl rfl (LT.of_quiet rfl rfl (QT.toB (q_neq rfl rfl) (decide_eq_false (fun h => h rfl))) ?_)
          refine TO.quiet (q_pick0 rfl rfl) ?_
          refine TO.quiet (q_move rfl) ?_
          refine TO.guarded rfl rfl rfl (LT.of_quiet rfl rfl (q_load_boxAgg 2 Tryd.underlying25 rfl inf25 rfl rfl rfl) ?_)
          refine TO.guarded rfl rfl rfl (LT.of_quiet rfl rfl (q_load_boxAgg 7 Tryd.underlying25 rfl inf25 rfl rfl rfl) ?_)
          have hk88 := fun (w1 : World) (hI : Inv w ([rowI lb4 lc4 3 1 (nats (rndsV d k)), rowI lb3 lc3 3 1 (nats (rndsV d d.next.length)), objI z8 (.cells (List.toArray [(.int .i64 (minV d).vars), (.int .i64 (minV d).start), (.slice nb3 ((minV d).next.length) nc3), (.slice fb3 ((minV d).final.length) fc3)]) 25 (0, 0)), rowI nb3 nc3 33 1 (vals qs3), rowI fb3 fc3 4 1 (bools (minV d).final), rowI lb2 lc2 3 1 (nats (rndsV d k)), rowI lb1 lc1 3 1 (nats (rndsV d d.next.length)), objI z7 (.cells (List.toArray [(.int .i64 (minV d).vars), (.int .i64 (minV d).start), (.slice nb2 ((minV d).next.length) nc2), (.slice fb2 ((minV d).final.length) fc2)]) 25 (0, 0)), rowI nb2 nc2 33 1 (vals qs2), rowI fb2 fc2 4 1 (bools (minV d).final), objI z6 (.cells (List.toArray [(.int .i64 d.vars), (.int .i64 d.start), (.slice nb1 d.next.length nc1), (.slice fb1 d.final.length fc1)]) 25 (0, 0)), rowI nb1 nc1 33 1 (vals qs1), rowI fb1 fc1 4 1 (bools d.final), objI z1 (.cells (List.toArray [(.int .i64 d.vars), (.int .i64 d.start), (.slice nb d.next.length nc), (.slice fb d.final.length fc)]) 25 (0, 0))] ++ ((itms 3 qs3) ++ ((itms 3 qs2) ++ (itms 3 qs1)))) w1) => equalDFAT w1 (minV d) nb3 nb2 fb3 fb2 nc3 nc2 fc3 fc2 (vals qs3) (vals qs2) (show DfaAt w1 (minV d) nb3 (vals qs3) fb3 from ⟨hI.slOf (List.mem_of_getElem? (i := 3) rfl), hq3 ▸ hI.recs (fun q hq => List.mem_append_right _ (List.mem_append_left _ (List.mem_map_of_mem (f := Rec.itm 3) hq))), hI.slOf (List.mem_of_getElem? (i := 4) rfl)⟩) (show DfaAt w1 (minV d) nb2 (vals qs2) fb2 from ⟨hI.slOf (List.mem_of_getElem? (i := 8) rfl), hq2 ▸ hI.recs (fun q hq => List.mem_append_right _ (List.mem_append_right _ (List.mem_append_left _ (List.mem_map_of_mem (f := Rec.itm 3) hq)))), hI.slOf (List.mem_of_getElem? (i := 9) rfl)⟩) (by omega) (fun r hr => by have := hmb.2.2 r hr; omega) (by omega)
          refine TO.guarded rfl rfl rfl (l_call ent20 (CallT.of_pure hk88) rfl ?_)
          clear hk88
          rintro v O' ⟨N, rfl, rfl, rfl⟩
          refine TO.guarded rfl rfl rfl (LT.of_quiet rfl rfl (q_not rfl) ?_)
          refine TO.quiet (q_pick0 rfl rfl) ?_
          refine TO.quiet (q_move rfl) ?_
          refine TO.guarded rfl rfl rfl (LT.of_quiet rfl rfl (q_move rfl) ?_)
          refine TO.guarded rfl rfl rfl (LT.of_quiet rfl rfl (q_move rfl) ?_)
          have hk94 := fun (w1 : World) (hI : Inv w ([rowI lb4 lc4 3 1 (nats (rndsV d k)), rowI lb3 lc3 3 1 (nats (rndsV d d.next.length)), objI z8 (.cells (List.toArray [(.int .i64 (minV d).vars), (.int .i64 (minV d).start), (.slice nb3 ((minV d).next.length) nc3), (.slice fb3 ((minV d).final.length) fc3)]) 25 (0, 0)), rowI nb3 nc3 33 1 (vals qs3), rowI fb3 fc3 4 1 (bools (minV d).final), rowI lb2 lc2 3 1 (nats (rndsV d k)), rowI lb1 lc1 3 1 (nats (rndsV d d.next.length)), objI z7 (.cells (List.toArray [(.int .i64 (minV d).vars), (.int .i64 (minV d).start), (.slice nb2 ((minV d).next.length) nc2), (.slice fb2 ((minV d).final.length) fc2)]) 25 (0, 0)), rowI nb2 nc2 33 1 (vals qs2), rowI fb2 fc2 4 1 (bools (minV d).final), objI z6 (.cells (List.toArray [(.int .i64 d.vars), (.int .i64 d.start), (.slice nb1 d.next.length nc1), (.slice fb1 d.final.length fc1)]) 25 (0, 0)), rowI nb1 nc1 33 1 (vals qs1), rowI fb1 fc1 4 1 (bools d.final), objI z1 (.cells (List.toArray [(.int .i64 d.vars), (.int .i64 d.start), (.slice nb d.next.length nc), (.slice fb d.final.length fc)]) 25 (0, 0))] ++ ((itms 3 qs3) ++ ((itms 3 qs2) ++ (itms 3 qs1)))) w1) => equalNatsT w1 lb3 lb1 lc3 lc1 _ _ (rndsV d d.next.length) rfl rfl (hI.slOf (List.mem_of_getElem? (i := 1) rfl)) (hI.slOf (List.mem_of_getElem? (i := 6) rfl)) (Nat.lt_of_le_of_lt (hrl _) hb)
          refine TO.guarded rfl rfl rfl (l_call ent21 (CallT.of_pure hk94) rfl ?_)
          clear hk94
          rintro v O' ⟨N, rfl, rfl, rfl⟩
          refine TO.guarded rfl rfl rfl (LT.of_quiet rfl rfl (q_not rfl) ?_)
          refine TO.quiet (q_pick0 rfl rfl) ?_
          refine TO.quiet (q_move rfl) ?_
          refine TO.guarded rfl rfl rfl (LT.of_quiet rfl rfl (q_move rfl) ?_)
          refine TO.guarded rfl rfl rfl (LT.of_quiet rfl rfl (q_move rfl) ?_)
          have hk100 := fun (w1 : World) (hI : Inv w ([rowI lb4 lc4 3 1 (nats (rndsV d k)), rowI lb3 lc3 3 1 (nats (rndsV d d.next.length)), objI z8 (.cells (List.toArray [(.int .i64 (minV d).vars), (.int .i64 (minV d).start), (.slice nb3 ((minV d).next.length) nc3), (.slice fb3 ((minV d).final.length) fc3)]) 25 (0, 0)), rowI nb3 nc3 33 1 (vals qs3), rowI fb3 fc3 4 1 (bools (minV d).final), rowI lb2 lc2 3 1 (nats (rndsV d k)), rowI lb1 lc1 3 1 (nats (rndsV d d.next.length)), objI z7 (.cells (List.toArray [(.int .i64 (minV d).vars), (.int .i64 (minV d).start), (.slice nb2 ((minV d).next.length) nc2), (.slice fb2 ((minV d).final.length) fc2)]) 25 (0, 0)), rowI nb2 nc2 33 1 (vals qs2), rowI fb2 fc2 4 1 (bools (minV d).final), objI z6 (.cells (List.toArray [(.int .i64 d.vars), (.int .i64 d.start), (.slice nb1 d.next.length nc1), (.slice fb1 d.final.length fc1)]) 25 (0, 0)), rowI nb1 nc1 33 1 (vals qs1), rowI fb1 fc1 4 1 (bools d.final), objI z1 (.cells (List.toArray [(.int .i64 d.vars), (.int .i64 d.start), (.slice nb d.next.length nc), (.slice fb d.final.length fc)]) 25 (0, 0))] ++ ((itms 3 qs3) ++ ((itms 3 qs2) ++ (itms 3 qs1)))) w1) => equalNatsT w1 lb4 lb2 lc4 lc2 _ _ (rndsV d k) rfl rfl (hI.slOf (List.mem_of_getElem? (i := 0) rfl)) (hI.slOf (List.mem_of_getElem? (i := 5) rfl)) (Nat.lt_of_le_of_lt (hrl _) hb)
          refine TO.guarded rfl rfl rfl (l_call ent21 (CallT.of_pure hk100) rfl ?_)
          clear hk100
          rintro v O' ⟨N, rfl, rfl, rfl⟩
          refine TO.guarded rfl rfl rfl (LT.of_quiet rfl rfl (q_not rfl) ?_)
          refine TO.quiet (q_pick0 rfl rfl) ?_
          refine TO.quiet (q_move rfl) ?_
          refine TO.guarded rfl rfl rfl (LT.of_quiet rfl rfl (q_load_boxAgg 10 Tryd.underlying25 rfl inf25 rfl rfl rfl) ?_)
          refine TO.guarded rfl rfl rfl (LT.of_quiet rfl rfl (q_load_boxAgg 13 Tryd.underlying25 rfl inf25 rfl rfl rfl) ?_)
          have hk106 := fun (w1 : World) (hI : Inv w ([rowI lb4 lc4 3 1 (nats (rndsV d k)), rowI lb3 lc3 3 1 (nats (rndsV d d.next.length)), objI z8 (.cells (List.toArray [(.int .i64 (minV d).vars), (.int .i64 (minV d).start), (.slice nb3 ((minV d).next.length) nc3), (.slice fb3 ((minV d).final.length) fc3)]) 25 (0, 0)), rowI nb3 nc3 33 1 (vals qs3), rowI fb3 fc3 4 1 (bools (minV d).final), rowI lb2 lc2 3 1 (nats (rndsV d k)), rowI lb1 lc1 3 1 (nats (rndsV d d.next.length)), objI z7 (.cells (List.toArray [(.int .i64 (minV d).vars), (.int .i64 (minV d).start), (.slice nb2 ((minV d).next.length) nc2), (.slice fb2 ((minV d).final.length) fc2)]) 25 (0, 0)), rowI nb2 nc2 33 1 (vals qs2), rowI fb2 fc2 4 1 (bools (minV d).final), objI z6 (.cells (List.toArray [(.int .i64 d.vars), (.int .i64 d.start), (.slice nb1 d.next.length nc1), (.slice fb1 d.final.length fc1)]) 25 (0, 0)), rowI nb1 nc1 33 1 (vals qs1), rowI fb1 fc1 4 1 (bools d.final), objI z1 (.cells (List.toArray [(.int .i64 d.vars), (.int .i64 d.start), (.slice nb d.next.length nc), (.slice fb d.final.length fc)]) 25 (0, 0))] ++ ((itms 3 qs3) ++ ((itms 3 qs2) ++ (itms 3 qs1)))) w1) => equalDFAT w1 d nb1 nb fb1 fb nc1 nc fc1 fc (vals qs1) vs (show DfaAt w1 d nb1 (vals qs1) fb1 from ⟨hI.slOf (List.mem_of_getElem? (i := 11) rfl), hq1 ▸ hI.recs (fun q hq => List.mem_append_right _ (List.mem_append_right _ (List.mem_append_right _ (List.mem_map_of_mem (f := Rec.itm 3) hq)))), hI.slOf (List.mem_of_getElem? (i := 12) rfl)⟩) (hI.dfa h) hb hbr hbf
          refine TO.guarded rfl rfl rfl (l_call ent20 (CallT.of_pure hk106) rfl ?_)
          clear hk106
          rintro v O' ⟨N, rfl, rfl, rfl⟩
          refine TO.guarded rfl rfl rfl (LT.of_quiet rfl rfl (q_not rfl) ?_)
          refine TO.quiet (q_pick0 rfl rfl) ?_
          refine TO.nil ?_
          refine T.cond0 rfl ?_
          refine T.skip ?_
          refine T.seq ?_
          refine T.region ?_
          refine TO.quiet (q_load_boxAgg 2 Tryd.underlying25 rfl inf25 rfl rfl rfl) ?_
          have hk110 := CallT.under (B := ([rowI lb4 lc4 3 1 (nats (rndsV d k)), rowI lb3 lc3 3 1 (nats (rndsV d d.next.length)), objI z8 (.cells (List.toArray [(.int .i64 (minV d).vars), (.int .i64 (minV d).start), (.slice nb3 ((minV d).next.length) nc3), (.slice fb3 ((minV d).final.length) fc3)]) 25 (0, 0)), rowI lb2 lc2 3 1 (nats (rndsV d k)), rowI lb1 lc1 3 1 (nats (rndsV d d.next.length)), objI z7 (.cells (List.toArray [(.int .i64 (minV d).vars), (.int .i64 (minV d).start), (.slice nb2 ((minV d).next.length) nc2), (.slice fb2 ((minV d).final.length) fc2)]) 25 (0, 0)), rowI nb2 nc2 33 1 (vals qs2), rowI fb2 fc2 4 1 (bools (minV d).final), objI z6 (.cells (List.toArray [(.int .i64 d.vars), (.int .i64 d.start), (.slice nb1 d.next.length nc1), (.slice fb1 d.final.length fc1)]) 25 (0, 0)), rowI nb1 nc1 33 1 (vals qs1), rowI fb1 fc1 4 1 (bools d.final), objI z1 (.cells (List.toArray [(.int .i64 d.vars), (.int .i64 d.start), (.slice nb d.next.length nc), (.slice fb d.final.length fc)]) 25 (0, 0))] ++ (itms 3 qs2 ++ itms 3 qs1))) (O := ([rowI lb4 lc4 3 1 (nats (rndsV d k)), rowI lb3 lc3 3 1 (nats (rndsV d d.next.length)), objI z8 (.cells (List.toArray [(.int .i64 (minV d).vars), (.int .i64 (minV d).start), (.slice nb3 ((minV d).next.length) nc3), (.slice fb3 ((minV d).final.length) fc3)]) 25 (0, 0)), rowI nb3 nc3 33 1 (vals qs3), rowI fb3 fc3 4 1 (bools (minV d).final), rowI lb2 lc2 3 1 (nats (rndsV d k)), rowI lb1 lc1 3 1 (nats (rndsV d d.next.length)), objI z7 (.cells (List.toArray [(.int .i64 (minV d).vars), (.int .i64 (minV d).start), (.slice nb2 ((minV d).next.length) nc2), (.slice fb2 ((minV d).final.length) fc2)]) 25 (0, 0)), rowI nb2 nc2 33 1 (vals qs2), rowI fb2 fc2 4 1 (bools (minV d).final), objI z6 (.cells (List.toArray [(.int .i64 d.vars), (.int .i64 d.start), (.slice nb1 d.next.length nc1), (.slice fb1 d.final.length fc1)]) 25 (0, 0)), rowI nb1 nc1 33 1 (vals qs1), rowI fb1 fc1 4 1 (bools d.final), objI z1 (.cells (List.toArray [(.int .i64 d.vars), (.int .i64 d.start), (.slice nb d.next.length nc), (.slice fb d.final.length fc)]) 25 (0, 0))] ++ ((itms 3 qs3) ++ ((itms 3 qs2) ++ (itms 3 qs1))))) (overDFA w (minV d) nb3 fb3 nc3 fc3 nc3 fc3 qs3 hq3 (by omega) (fun r hr => by have := hmb.2.2 r hr; omega) (by omega)) (Sub.cnt [] (by intro a; simp only [itms, List.set_cons_zero, List.set_cons_succ, putL, List.cons_append, List.nil_append, List.append_nil, List.append_assoc, List.map_append, List.map_cons, List.map_nil, cnt_append, cnt_cons, cnt_nil] <;> omega))
          refine TO.loud rfl (l_call ent22 hk110 rfl ?_)
          clear hk110
          rintro v O' ⟨A1, rfl, rfl⟩
          refine TO.nil ?_
          refine T.seq ?_
          refine T.region ?_
          refine TO.quiet (q_move rfl) ?_
          have hk112 := CallT.under (B := ([rowI lb4 lc4 3 1 (nats (rndsV d k)), objI z8 (.cells (List.toArray [(.int .i64 (minV d).vars), (.int .i64 (minV d).start), (.slice nb3 ((minV d).next.length) nc3), (.slice fb3 ((minV d).final.length) fc3)]) 25 (0, 0)), rowI lb2 lc2 3 1 (nats (rndsV d k)), rowI lb1 lc1 3 1 (nats (rndsV d d.next.length)), objI z7 (.cells (List.toArray [(.int .i64 (minV d).vars), (.int .i64 (minV d).start), (.slice nb2 ((minV d).next.length) nc2), (.slice fb2 ((minV d).final.length) fc2)]) 25 (0, 0)), rowI nb2 nc2 33 1 (vals qs2), rowI fb2 fc2 4 1 (bools (minV d).final), objI z6 (.cells (List.toArray [(.int .i64 d.vars), (.int .i64 d.start), (.slice nb1 d.next.length nc1), (.slice fb1 d.final.length fc1)]) 25 (0, 0)), rowI nb1 nc1 33 1 (vals qs1), rowI fb1 fc1 4 1 (bools d.final), objI z1 (.cells (List.toArray [(.int .i64 d.vars), (.int .i64 d.start), (.slice nb d.next.length nc), (.slice fb d.final.length fc)]) 25 (0, 0))] ++ (itms 3 qs2 ++ itms 3 qs1))) (O := ([rowI lb4 lc4 3 1 (nats (rndsV d k)), rowI lb3 lc3 3 1 (nats (rndsV d d.next.length)), objI z8 (.cells (List.toArray [(.int .i64 (minV d).vars), (.int .i64 (minV d).start), (.slice nb3 ((minV d).next.length) nc3), (.slice fb3 ((minV d).final.length) fc3)]) 25 (0, 0)), rowI lb2 lc2 3 1 (nats (rndsV d k)), rowI lb1 lc1 3 1 (nats (rndsV d d.next.length)), objI z7 (.cells (List.toArray [(.int .i64 (minV d).vars), (.int .i64 (minV d).start), (.slice nb2 ((minV d).next.length) nc2), (.slice fb2 ((minV d).final.length) fc2)]) 25 (0, 0)), rowI nb2 nc2 33 1 (vals qs2), rowI fb2 fc2 4 1 (bools (minV d).final), objI z6 (.cells (List.toArray [(.int .i64 d.vars), (.int .i64 d.start), (.slice nb1 d.next.length nc1), (.slice fb1 d.final.length fc1)]) 25 (0, 0)), rowI nb1 nc1 33 1 (vals qs1), rowI fb1 fc1 4 1 (bools d.final), objI z1 (.cells (List.toArray [(.int .i64 d.vars), (.int .i64 d.start), (.slice nb d.next.length nc), (.slice fb d.final.length fc)]) 25 (0, 0))] ++ (itms 3 qs2 ++ itms 3 qs1))) (overNats w lb3 lc3 lc3 _ (rndsV d d.next.length) rfl (Nat.lt_of_le_of_lt (hrl _) hb)) (Sub.cnt [] (by intro a; simp only [itms, List.set_cons_zero, List.set_cons_succ, putL, List.cons_append, List.nil_append, List.append_nil, List.append_assoc, List.map_append, List.map_cons, List.map_nil, cnt_append, cnt_cons, cnt_nil] <;> omega))
          refine TO.loud rfl (l_call ent23 hk112 rfl ?_)
          clear hk112
          rintro v O' ⟨A1, rfl, rfl⟩
          refine TO.nil ?_
          refine T.region ?_
          refine TO.quiet (q_move rfl) ?_
          have hk114 := CallT.under (B := ([objI z8 (.cells (List.toArray [(.int .i64 (minV d).vars), (.int .i64 (minV d).start), (.slice nb3 ((minV d).next.length) nc3), (.slice fb3 ((minV d).final.length) fc3)]) 25 (0, 0)), rowI lb2 lc2 3 1 (nats (rndsV d k)), rowI lb1 lc1 3 1 (nats (rndsV d d.next.length)), objI z7 (.cells (List.toArray [(.int .i64 (minV d).vars), (.int .i64 (minV d).start), (.slice nb2 ((minV d).next.length) nc2), (.slice fb2 ((minV d).final.length) fc2)]) 25 (0, 0)), rowI nb2 nc2 33 1 (vals qs2), rowI fb2 fc2 4 1 (bools (minV d).final), objI z6 (.cells (List.toArray [(.int .i64 d.vars), (.int .i64 d.start), (.slice nb1 d.next.length nc1), (.slice fb1 d.final.length fc1)]) 25 (0, 0)), rowI nb1 nc1 33 1 (vals qs1), rowI fb1 fc1 4 1 (bools d.final), objI z1 (.cells (List.toArray [(.int .i64 d.vars), (.int .i64 d.start), (.slice nb d.next.length nc), (.slice fb d.final.length fc)]) 25 (0, 0))] ++ (itms 3 qs2 ++ itms 3 qs1))) (O := ([rowI lb4 lc4 3 1 (nats (rndsV d k)), objI z8 (.cells (List.toArray [(.int .i64 (minV d).vars), (.int .i64 (minV d).start), (.slice nb3 ((minV d).next.length) nc3), (.slice fb3 ((minV d).final.length) fc3)]) 25 (0, 0)), rowI lb2 lc2 3 1 (nats (rndsV d k)), rowI lb1 lc1 3 1 (nats (rndsV d d.next.length)), objI z7 (.cells (List.toArray [(.int .i64 (minV d).vars), (.int .i64 (minV d).start), (.slice nb2 ((minV d).next.length) nc2), (.slice fb2 ((minV d).final.length) fc2)]) 25 (0, 0)), rowI nb2 nc2 33 1 (vals qs2), rowI fb2 fc2 4 1 (bools (minV d).final), objI z6 (.cells (List.toArray [(.int .i64 d.vars), (.int .i64 d.start), (.slice nb1 d.next.length nc1), (.slice fb1 d.final.length fc1)]) 25 (0, 0)), rowI nb1 nc1 33 1 (vals qs1), rowI fb1 fc1 4 1 (bools d.final), objI z1 (.cells (List.toArray [(.int .i64 d.vars), (.int .i64 d.start), (.slice nb d.next.length nc), (.slice fb d.final.length fc)]) 25 (0, 0))] ++ (itms 3 qs2 ++ itms 3 qs1))) (overNats w lb4 lc4 lc4 _ (rndsV d k) rfl (Nat.lt_of_le_of_lt (hrl _) hb)) (Sub.cnt [] (by intro a; simp only [itms, List.set_cons_zero, List.set_cons_succ, putL, List.cons_append, List.nil_append, List.append_nil, List.append_assoc, List.map_append, List.map_cons, List.map_nil, cnt_append, cnt_cons, cnt_nil] <;> omega))
          refine TO.loud rfl (l_call ent23 hk114 rfl ?_)
          clear hk114
          rintro v O' ⟨A1, rfl, rfl⟩
          refine TO.nil ?_
          refine T.region ?_
          refine TO.quiet (q_move rfl) ?_
          refine TO.quiet (q_inc rfl rfl (by omega)) ?_
          refine TO.quiet (q_assign rfl) ?_
          refine TO.sub (O' := ([rowI lb2 lc2 3 1 (nats (rndsV d k)), rowI lb1 lc1 3 1 (nats (rndsV d d.next.length)), objI z7 (.cells (List.toArray [(.int .i64 (minV d).vars), (.int .i64 (minV d).start), (.slice nb2 ((minV d).next.length) nc2), (.slice fb2 ((minV d).final.length) fc2)]) 25 (0, 0)), rowI nb2 nc2 33 1 (vals qs2), rowI fb2 fc2 4 1 (bools (minV d).final), objI z6 (.cells (List.toArray [(.int .i64 d.vars), (.int .i64 d.start), (.slice nb1 d.next.length nc1), (.slice fb1 d.final.length fc1)]) 25 (0, 0)), rowI nb1 nc1 33 1 (vals qs1), rowI fb1 fc1 4 1 (bools d.final), objI z1 (.cells (List.toArray [(.int .i64 d.vars), (.int .i64 d.start), (.slice nb d.next.length nc), (.slice fb d.final.length fc)]) 25 (0, 0))] ++ (itms 3 qs2 ++ itms 3 qs1))) (Sub.pickR [1, 1, 1, 1, 1, 1, 1, 1, 1] [objI z8 (.cells (List.toArray [(.int .i64 (minV d).vars), (.int .i64 (minV d).start), (.slice nb3 ((minV d).next.length) nc3), (.slice fb3 ((minV d).final.length) fc3)]) 25 (0, 0)), rowI lb2 lc2 3 1 (nats (rndsV d k)), rowI lb1 lc1 3 1 (nats (rndsV d d.next.length)), objI z7 (.cells (List.toArray [(.int .i64 (minV d).vars), (.int .i64 (minV d).start), (.slice nb2 ((minV d).next.length) nc2), (.slice fb2 ((minV d).final.length) fc2)]) 25 (0, 0)), rowI nb2 nc2 33 1 (vals qs2), rowI fb2 fc2 4 1 (bools (minV d).final), objI z6 (.cells (List.toArray [(.int .i64 d.vars), (.int .i64 d.start), (.slice nb1 d.next.length nc1), (.slice fb1 d.final.length fc1)]) 25 (0, 0)), rowI nb1 nc1 33 1 (vals qs1), rowI fb1 fc1 4 1 (bools d.final), objI z1 (.cells (List.toArray [(.int .i64 d.vars), (.int .i64 d.start), (.slice nb d.next.length nc), (.slice fb d.final.length fc)]) 25 (0, 0))] (itms 3 qs2 ++ itms 3 qs1) rfl rfl) ?_
          refine TO.nil ?_
          exact ⟨r + 1, by omega, rfl, by omega, ⟨rfl, rfl, rfl, rfl, rfl, rfl, rfl, rfl, rfl, rfl, rfl, trivial⟩⟩
        · have hge53 : ¬ r < 2 := by omega
          refine T.exit ?_
          refine T.seq ?_
          refine T.region ?_
          have hk115 := fun (w1 : World) (hI : Inv w ([rowI lb2 lc2 3 1 (nats (rndsV d k)), rowI lb1 lc1 3 1 (nats (rndsV d d.next.length)), objI z7 (.cells (List.toArray [(.int .i64 (minV d).vars), (.int .i64 (minV d).start), (.slice nb2 ((minV d).next.length) nc2), (.slice fb2 ((minV d).final.length) fc2)]) 25 (0, 0)), rowI nb2 nc2 33 1 (vals qs2), rowI fb2 fc2 4 1 (bools (minV d).final), objI z6 (.cells (List.toArray [(.int .i64 d.vars), (.int .i64 d.start), (.slice nb1 d.next.length nc1), (.slice fb1 d.final.length fc1)]) 25 (0, 0)), rowI nb1 nc1 33 1 (vals qs1), rowI fb1 fc1 4 1 (bools d.final), objI z1 (.cells (List.toArray [(.int .i64 d.vars), (.int .i64 d.start), (.slice nb d.next.length nc), (.slice fb d.final.length fc)]) 25 (0, 0))] ++ ((itms 3 qs2) ++ (itms 3 qs1))) w1) => awakeC w1
          refine TO.loud rfl (l_call ent12 (CallT.of_pure hk115) rfl ?_)
          clear hk115
          rintro v O' ⟨N, rfl, rfl, rfl⟩
          refine TO.quiet (q_assign rfl) ?_
          refine TO.nil ?_
          refine T.ret ?_
          refine Res.drop ?_
          refine Res.one (.bool true) Tryd.results3 rfl ?_
          exact ⟨[], Sub.of (List.nil_sublist _), rfl, rfl⟩

theorem equalBytesT (w : World) (b1 b2 : Option Addr) (c1 c2 : Nat) (xs : List Nat) (h1 : Sl w b1 (byts xs)) (h2 : Sl w b2 (byts xs)) (hb : xs.length < 9223372036854775807) :
    PureT Tryd.prog 28 [.slice b1 xs.length c1, .slice b2 xs.length c2] w fun v N => v = .bool true ∧ N = [] :=
  (equalBytes w b1 b2 c1 c2 xs xs h1 h2 hb).mono fun v N ⟨h1, h2⟩ => ⟨h1.trans (congrArg Value.bool (decide_eq_true rfl)), h2⟩

set_option maxHeartbeats 4000000 in
set_option maxRecDepth 20000 in
theorem tellsC (w : World) (d : DFA) (nb fb : Option Addr) (nc fc : Nat) (vs : List Value) (h : DfaAt w d nb vs fb) (hb : d.next.length < 9223372036854775807) (hbr : ∀ r ∈ d.next, r.length < 9223372036854775807) (hbf : d.final.length < 9223372036854775807) (s t : Int) :
    PureT Tryd.prog 5 [.agg (dfaCells d nb nc fb fc).toArray, .int .i64 s, .int .i64 t] w fun v N => v = .bool true ∧ N = [] := by
  refine CallT.enter Tryd.func5 rfl Tryd.ntmps5 rfl ?_
  refine T.seq ?_
  refine T.region ?_
  refine TO.loud rfl (l_box (v := (.agg #[(.int .i64 d.vars), (.int .i64 d.start), (.slice nb d.next.length nc), (.slice fb d.final.length fc)])) (cs := [(.int .i64 d.vars), (.int .i64 d.start), (.slice nb d.next.length nc), (.slice fb d.final.length fc)]) rfl rfl (fun z1 => ?_))
  refine TO.quiet (q_assign rfl) ?_
  refine TO.nil ?_
  refine T.seq ?_
  refine T.seq ?_
  refine T.region ?_
  refine TO.quiet (q_load_boxAgg 0 Tryd.underlying25 rfl inf25 rfl rfl rfl) ?_
  refine TO.loud rfl (l_buildSlice (m := 1) (parts := [(0, _)]) (cs := [(.int .i64 d.vars), (.int .i64 d.start), (.slice nb d.next.length nc), (.slice fb d.final.length fc)]) Tryd.underlying58 inf25 (by decide) (by kernel_rfl) rfl (fun z2 => ?_))
  by_cases hlong : longD d = true
  · have hk18 := fun (w1 : World) (hI : Inv w [rowI (some ⟨z2, 0, none⟩) 1 25 4 [(.int .i64 d.vars), (.int .i64 d.start), (.slice nb d.next.length nc), (.slice fb d.final.length fc)], objI z1 (.cells (List.toArray [(.int .i64 d.vars), (.int .i64 d.start), (.slice nb d.next.length nc), (.slice fb d.final.length fc)]) 25 (0, 0))] w1) => long1 w1 (some ⟨z2, 0, none⟩) 1 d nb fb nc fc vs (hI.slOf (List.mem_of_getElem? (i := 0) rfl)) (hI.dfa h) hb
    refine TO.loud rfl (l_call ent10 (CallT.of_pure hk18) rfl ?_)
    clear hk18
    rintro v O' ⟨N, rfl, rfl, rfl⟩
    rw [decide_eq_true hlong]
    refine TO.quiet (q_move rfl) ?_
    refine TO.passed rfl rfl ?_
    refine TO.passed rfl rfl ?_
    refine TO.passed rfl rfl ?_
    refine TO.passed rfl rfl ?_
    refine TO.passed rfl rfl ?_
    refine TO.passed rfl rfl ?_
    refine TO.passed rfl rfl ?_
    refine TO.passed rfl rfl ?_
    refine TO.passed rfl rfl ?_
    refine TO.quiet (q_pick1 rfl rfl) ?_
    refine TO.sub (O' := [objI z1 (.cells (List.toArray [(.int .i64 d.vars), (.int .i64 d.start), (.slice nb d.next.length nc), (.slice fb d.final.length fc)]) 25 (0, 0))]) (Sub.pick [1] rfl) ?_
    refine TO.nil ?_
    refine T.cond1 rfl ?_
    refine T.seq ?_
    refine T.region ?_
    have hk30 := fun (w1 : World) (hI : Inv w [objI z1 (.cells (List.toArray [(.int .i64 d.vars), (.int .i64 d.start), (.slice nb d.next.length nc), (.slice fb d.final.length fc)]) 25 (0, 0))] w1) => awakeC w1
    refine TO.loud rfl (l_call ent12 (CallT.of_pure hk30) rfl ?_)
    clear hk30
    rintro v O' ⟨N, rfl, rfl, rfl⟩
    refine TO.quiet (q_assign rfl) ?_
    refine TO.nil ?_
    refine T.ret ?_
    refine Res.drop ?_
    refine Res.one (.bool true) Tryd.results5 rfl ?_
    exact ⟨[], Sub.of (List.nil_sublist _), rfl, rfl⟩
  · have hk18 := fun (w1 : World) (hI : Inv w [rowI (some ⟨z2, 0, none⟩) 1 25 4 [(.int .i64 d.vars), (.int .i64 d.start), (.slice nb d.next.length nc), (.slice fb d.final.length fc)], objI z1 (.cells (List.toArray [(.int .i64 d.vars), (.int .i64 d.start), (.slice nb d.next.length nc), (.slice fb d.final.length fc)]) 25 (0, 0))] w1) => long1 w1 (some ⟨z2, 0, none⟩) 1 d nb fb nc fc vs (hI.slOf (List.mem_of_getElem? (i := 0) rfl)) (hI.dfa h) hb
    refine TO.loud rfl (l_call ent10 (CallT.of_pure hk18) rfl ?_)
    clear hk18
    rintro v O' ⟨N, rfl, rfl, rfl⟩
    rw [decide_eq_false hlong]
    refine TO.quiet (q_move rfl) ?_
    refine TO.guarded rfl rfl rfl (LT.of_quiet rfl rfl (q_fieldAddr Tryd.underlying25 rfl inf22 rfl rfl) ?_)
    refine TO.guarded rfl rfl rfl (LT.of_quiet rfl rfl (q_load_box 1 Tryd.underlying22 rfl rfl rfl rfl) ?_)
    refine TO.guarded rfl rfl rfl (LT.of_quiet rfl rfl (q_len Tryd.underlying22 rfl) ?_)
    by_cases h12 : (d.next.length : Int) > 12
    · refine TO.guarded rfl rfl rfl (LT.of_quiet rfl rfl (QT.toB (q_gtr rfl rfl) (decide_eq_true h12)) ?_)
      refine TO.guarded rfl rfl rfl (LT.of_quiet rfl rfl (q_move rfl) ?_)
      refine TO.guarded rfl rfl rfl (LT.of_quiet rfl rfl (q_load_boxAgg 1 Tryd.underlying25 rfl inf25 rfl rfl rfl) ?_)
      have hk26 := fun (w1 : World) (hI : Inv w [rowI (some ⟨z2, 0, none⟩) 1 25 4 [(.int .i64 d.vars), (.int .i64 d.start), (.slice nb d.next.length nc), (.slice fb d.final.length fc)], objI z1 (.cells (List.toArray [(.int .i64 d.vars), (.int .i64 d.start), (.slice nb d.next.length nc), (.slice fb d.final.length fc)]) 25 (0, 0))] w1) => refCheck w1 d nb fb nc fc vs (hI.dfa h) hb hbr hbf
      refine TO.guarded rfl rfl rfl (l_call ent11 (CallT.of_pure hk26) rfl ?_)
      clear hk26
      rintro v O' ⟨N, rfl, rfl, rfl⟩
      by_cases he0 : (checkD d : Int) = 0
      · refine TO.guarded rfl rfl rfl (LT.of_quiet rfl rfl (QT.toB (q_eql rfl rfl) (decide_eq_true he0)) ?_)
        refine TO.guarded rfl rfl rfl (LT.of_quiet rfl rfl (q_pick1 rfl rfl) ?_)
        refine TO.quiet (q_pick0 rfl rfl) ?_
        refine TO.sub (O' := [objI z1 (.cells (List.toArray [(.int .i64 d.vars), (.int .i64 d.start), (.slice nb d.next.length nc), (.slice fb d.final.length fc)]) 25 (0, 0))]) (Sub.pick [1] rfl) ?_
        refine TO.nil ?_
        refine T.cond1 rfl ?_
        refine T.seq ?_
        refine T.region ?_
        have hk30 := fun (w1 : World) (hI : Inv w [objI z1 (.cells (List.toArray [(.int .i64 d.vars), (.int .i64 d.start), (.slice nb d.next.length nc), (.slice fb d.final.length fc)]) 25 (0, 0))] w1) => awakeC w1
        refine TO.loud rfl (l_call ent12 (CallT.of_pure hk30) rfl ?_)
        clear hk30
        rintro v O' ⟨N, rfl, rfl, rfl⟩
        refine TO.quiet (q_assign rfl) ?_
        refine TO.nil ?_
        refine T.ret ?_
        refine Res.drop ?_
        refine Res.one (.bool true) Tryd.results5 rfl ?_
        exact ⟨[], Sub.of (List.nil_sublist _), rfl, rfl⟩
      · refine TO.guarded rfl rfl rfl (LT.of_quiet rfl rfl (QT.toB (q_eql rfl rfl) (decide_eq_false he0)) ?_)
        refine TO.guarded rfl rfl rfl (LT.of_quiet rfl rfl (q_pick1 rfl rfl) ?_)
        refine TO.quiet (q_pick0 rfl rfl) ?_
        refine TO.sub (O' := [objI z1 (.cells (List.toArray [(.int .i64 d.vars), (.int .i64 d.start), (.slice nb d.next.length nc), (.slice fb d.final.length fc)]) 25 (0, 0))]) (Sub.pick [1] rfl) ?_
        refine TO.nil ?_
        refine T.cond0 rfl ?_
        refine T.skip ?_
        refine T.seq ?_
        obtain ⟨hB1, hB2, hB3⟩ := longD_false hlong
        have hN : Valid d → d.next.length < 100 := fun hv9 => by have := checkD_zero.2 hv9; omega
        refine T.region ?_
        refine TO.quiet (q_load_boxAgg 0 Tryd.underlying25 rfl inf25 rfl rfl rfl) ?_
        refine TO.quiet (q_move rfl) ?_
        refine TO.quiet (q_move rfl) ?_
        have hk35 := fun (w1 : World) (hI : Inv w [objI z1 (.cells (List.toArray [(.int .i64 d.vars), (.int .i64 d.start), (.slice nb d.next.length nc), (.slice fb d.final.length fc)]) 25 (0, 0))] w1) => rDistA w1 d nb fb nc fc vs (hI.dfa h) hb hbr hbf hN s t
        refine TO.loud rfl (l_call ent26 (CallT.of_pure hk35) rfl ?_)
        clear hk35
        rintro v O' ⟨N, rfl, res, wb, wc, hT, rfl, rfl⟩
        refine TO.quiet (q_move rfl) ?_
        refine TO.quiet (q_extract (vs := _) rfl rfl) ?_
        refine TO.quiet (q_extract (vs := _) rfl rfl) ?_
        refine TO.quiet (q_extract (vs := _) rfl rfl) ?_
        refine TO.quiet (q_assign rfl) ?_
        refine TO.quiet (q_assign rfl) ?_
        refine TO.quiet (q_assign rfl) ?_
        refine TO.nil ?_
        refine T.seq ?_
        refine T.seq ?_
        have hwl : (res.getD []).length < 9223372036854775807 := hT.len hN
        refine T.region ?_
        refine TO.quiet (q_assign rfl) ?_
        refine TO.nil ?_
        refine T.block ?_
        refine T.loop (fun (r : Nat) ρ O => O = [rowI wb wc 5 1 (byts (res.getD [])), objI z1 (.cells (List.toArray [(.int .i64 d.vars), (.int .i64 d.start), (.slice nb d.next.length nc), (.slice fb d.final.length fc)]) 25 (0, 0))] ∧ r ≤ 2 ∧ Heads [(0, (.agg #[(.int .i64 d.vars), (.int .i64 d.start), (.slice nb d.next.length nc), (.slice fb d.final.length fc)])), (1, .int .i64 s), (2, .int .i64 t), (3, (.pointer (some ⟨z1, 0, none⟩))), (7, (.slice wb ((res.getD []).length) wc)), (8, .bool res.isSome), (9, .int .i64 (eD d s t : Int)), (10, .int .i64 (r : Int))] ρ) (fun r => 2 - r) 0 ?_ ?_
        · exact ⟨rfl, Nat.zero_le _, ⟨rfl, rfl, rfl, rfl, rfl, rfl, rfl, rfl, trivial⟩⟩
        · rintro r ρ O ⟨rfl, hr, hH⟩
          obtain ⟨ρ0, rfl⟩ := hH.elim
          clear hH
          refine T.seq ?_
          refine T.seq ?_
          refine T.region ?_
          refine TO.quiet (q_move rfl) ?_
          refine TO.quiet (q_lss rfl rfl) ?_
          refine TO.nil ?_
          refine T.condP rfl (fun hc => ?_) (fun hc => ?_)
          · have hlt40 : r < 2 := by omega
            refine T.skip ?_
            refine T.seq ?_
            refine T.block ?_
            refine T.seq ?_
            refine T.region ?_
            refine TO.quiet (q_load_boxAgg 1 Tryd.underlying25 rfl inf25 rfl rfl rfl) ?_
            refine TO.quiet (q_move rfl) ?_
            refine TO.quiet (q_move rfl) ?_
            have hk47 := fun (w1 : World) (hI : Inv w [rowI wb wc 5 1 (byts (res.getD [])), objI z1 (.cells (List.toArray [(.int .i64 d.vars), (.int .i64 d.start), (.slice nb d.next.length nc), (.slice fb d.final.length fc)]) 25 (0, 0))] w1) => distA w1 d nb fb nc fc vs (hI.dfa h) hb hbr hbf hN s t
            refine TO.loud rfl (l_call ent25 (CallT.of_pure hk47) rfl ?_)
            clear hk47
            rintro v O' ⟨N, rfl, res2, wb2, wc2, hT2, rfl, rfl⟩
            obtain rfl : res = res2 := hT.unique hT2
            refine TO.quiet (q_move rfl) ?_
            refine TO.quiet (q_extract (vs := _) rfl rfl) ?_
            refine TO.quiet (q_extract (vs := _) rfl rfl) ?_
            refine TO.quiet (q_extract (vs := _) rfl rfl) ?_
            refine TO.quiet (q_assign rfl) ?_
            refine TO.quiet (q_assign rfl) ?_
            refine TO.quiet (q_assign rfl) ?_
            refine TO.nil ?_
            refine T.seq ?_
            refine T.region ?_
            refine TO.quiet (q_load_boxAgg 2 Tryd.underlying25 rfl inf25 rfl rfl rfl) ?_
            refine TO.quiet (q_move rfl) ?_
            refine TO.quiet (q_move rfl) ?_
            have hk55 := fun (w1 : World) (hI : Inv w [rowI wb2 wc2 5 1 (byts (res.getD [])), rowI wb wc 5 1 (byts (res.getD [])), objI z1 (.cells (List.toArray [(.int .i64 d.vars), (.int .i64 d.start), (.slice nb d.next.length nc), (.slice fb d.final.length fc)]) 25 (0, 0))] w1) => eqvA w1 d nb fb nc fc vs (hI.dfa h) hb hbr hbf hN s t
            refine TO.loud rfl (l_call ent27 (CallT.of_pure hk55) rfl ?_)
            clear hk55
            rintro v O' ⟨N, rfl, res3, hT3, rfl, rfl⟩
            obtain rfl : res = res3 := hT.unique hT3
            refine TO.quiet (q_move rfl) ?_
            refine TO.quiet (q_extract (vs := _) rfl rfl) ?_
            refine TO.quiet (q_extract (vs := _) rfl rfl) ?_
            refine TO.quiet (q_assign rfl) ?_
            refine TO.quiet (q_assign rfl) ?_
            refine TO.nil ?_
            refine T.seq ?_
            refine T.seq ?_
            refine T.region ?_
            refine TO.quiet (q_move rfl) ?_
            refine TO.quiet (q_move rfl) ?_
            refine TO.quiet (QT.toB (q_neq rfl rfl) (decide_eq_false (fun h => h rfl))) ?_
            refine TO.quiet (q_move rfl) ?_
            refine TO.guarded rfl rfl rfl (LT.of_quiet rfl rfl (q_move rfl) ?_)
            refine TO.guarded rfl rfl rfl (LT.of_quiet rfl rfl (q_move rfl) ?_)
            refine TO.guarded rfl rfl rfl (LT.of_quiet rfl rfl (QT.toB (q_neq rfl rfl) (decide_eq_false (fun h => h rfl))) ?_)
            refine TO.quiet (q_pick0 rfl rfl) ?_
            refine TO.quiet (q_move rfl) ?_
            refine TO.guarded rfl rfl rfl (LT.of_quiet rfl rfl (q_move rfl) ?_)
            refine TO.guarded rfl rfl rfl (LT.of_quiet rfl rfl (q_move rfl) ?_)
            refine TO.guarded rfl rfl rfl (LT.of_quiet rfl rfl (QT.cast (q_bneq Tryd.underlying4 rfl rfl) (v' := .bool false) (by simp)) ?_)
            refine TO.quiet (q_pick0 rfl rfl) ?_
            refine TO.quiet (q_move rfl) ?_
            refine TO.guarded rfl rfl rfl (LT.of_quiet rfl rfl (q_move rfl) ?_)
            refine TO.guarded rfl rfl rfl (LT.of_quiet rfl rfl (q_move rfl) ?_)
            have hk74 := fun (w1 : World) (hI : Inv w [rowI wb2 wc2 5 1 (byts (res.getD [])), rowI wb wc 5 1 (byts (res.getD [])), objI z1 (.cells (List.toArray [(.int .i64 d.vars), (.int .i64 d.start), (.slice nb d.next.length nc), (.slice fb d.final.length fc)]) 25 (0, 0))] w1) => equalBytesT w1 wb2 wb wc2 wc (res.getD []) (hI.slOf (List.mem_of_getElem? (i := 0) rfl)) (hI.slOf (List.mem_of_getElem? (i := 1) rfl)) hwl
            refine TO.guarded rfl rfl rfl (l_call ent28 (CallT.of_pure hk74) rfl ?_)
            clear hk74
            rintro v O' ⟨N, rfl, rfl, rfl⟩
            refine TO.guarded rfl rfl rfl (LT.of_quiet rfl rfl (q_not rfl) ?_)
            refine TO.quiet (q_pick0 rfl rfl) ?_
            refine TO.quiet (q_move rfl) ?_
            refine TO.guarded rfl rfl rfl (LT.of_quiet rfl rfl (q_move rfl) ?_)
            refine TO.guarded rfl rfl rfl (LT.of_quiet rfl rfl (q_move rfl) ?_)
            by_cases h0 : (eD d s t : Int) = 0
            · refine TO.guarded rfl rfl rfl (LT.of_quiet rfl rfl (QT.toB (q_eql rfl rfl) (decide_eq_true h0)) ?_)
              refine TO.guarded rfl rfl rfl (LT.of_quiet rfl rfl (q_move rfl) ?_)
              refine TO.guarded rfl rfl rfl (LT.of_quiet rfl rfl (q_move rfl) ?_)
              refine TO.guarded rfl rfl rfl (LT.of_quiet rfl rfl (q_not rfl) ?_)
              refine TO.guarded rfl rfl rfl (LT.of_quiet rfl rfl (q_pick1 rfl rfl) ?_)
              refine TO.guarded rfl rfl rfl (LT.of_quiet rfl rfl (QT.cast (q_bneq Tryd.underlying4 rfl rfl) (v' := .bool false) (by unfold eqvV; by_cases h8 : eD d s t = 0 <;> first | (simp [h8]; done) | (exfalso; omega))) ?_)
              refine TO.quiet (q_pick0 rfl rfl) ?_
              refine TO.nil ?_
              refine T.cond0 rfl ?_
              refine T.skip ?_
              refine T.region ?_
              refine TO.quiet (q_move rfl) ?_
              have hk88 := CallT.under (B := [rowI wb wc 5 1 (byts (res.getD [])), objI z1 (.cells (List.toArray [(.int .i64 d.vars), (.int .i64 d.start), (.slice nb d.next.length nc), (.slice fb d.final.length fc)]) 25 (0, 0))]) (O := [rowI wb2 wc2 5 1 (byts (res.getD [])), rowI wb wc 5 1 (byts (res.getD [])), objI z1 (.cells (List.toArray [(.int .i64 d.vars), (.int .i64 d.start), (.slice nb d.next.length nc), (.slice fb d.final.length fc)]) 25 (0, 0))]) (overBytes w wb2 wc2 wc2 (res.getD []) hwl) (Sub.pick [0, 0, 0] rfl)
              refine TO.loud rfl (l_call ent29 hk88 rfl ?_)
              clear hk88
              rintro v O' ⟨A1, rfl, rfl⟩
              refine TO.nil ?_
              refine T.region ?_
              refine TO.quiet (q_move rfl) ?_
              refine TO.quiet (q_inc rfl rfl (by omega)) ?_
              refine TO.quiet (q_assign rfl) ?_
              refine TO.nil ?_
              exact ⟨r + 1, by omega, rfl, by omega, ⟨rfl, rfl, rfl, rfl, rfl, rfl, rfl, rfl, trivial⟩⟩
            · refine TO.guarded rfl rfl rfl (LT.of_quiet rfl rfl (QT.toB (q_eql rfl rfl) (decide_eq_false h0)) ?_)
              refine TO.guarded rfl rfl rfl (LT.of_quiet rfl rfl (q_move rfl) ?_)
              refine TO.passed rfl rfl ?_
              refine TO.passed rfl rfl ?_
              refine TO.guarded rfl rfl rfl (LT.of_quiet rfl rfl (q_pick0 rfl rfl) ?_)
              refine TO.guarded rfl rfl rfl (LT.of_quiet rfl rfl (QT.cast (q_bneq Tryd.underlying4 rfl rfl) (v' := .bool false) (by unfold eqvV; by_cases h8 : eD d s t = 0 <;> first | (simp [h8]; done) | (exfalso; omega))) ?_)
              refine TO.quiet (q_pick0 rfl rfl) ?_
              refine TO.nil ?_
              refine T.cond0 rfl ?_
              refine T.skip ?_
              refine T.region ?_
              refine TO.quiet (q_move rfl) ?_
              have hk88 := CallT.under (B := [rowI wb wc 5 1 (byts (res.getD [])), objI z1 (.cells (List.toArray [(.int .i64 d.vars), (.int .i64 d.start), (.slice nb d.next.length nc), (.slice fb d.final.length fc)]) 25 (0, 0))]) (O := [rowI wb2 wc2 5 1 (byts (res.getD [])), rowI wb wc 5 1 (byts (res.getD [])), objI z1 (.cells (List.toArray [(.int .i64 d.vars), (.int .i64 d.start), (.slice nb d.next.length nc), (.slice fb d.final.length fc)]) 25 (0, 0))]) (overBytes w wb2 wc2 wc2 (res.getD []) hwl) (Sub.pick [0, 0, 0] rfl)
              refine TO.loud rfl (l_call ent29 hk88 rfl ?_)
              clear hk88
              rintro v O' ⟨A1, rfl, rfl⟩
              refine TO.nil ?_
              refine T.region ?_
              refine TO.quiet (q_move rfl) ?_
              refine TO.quiet (q_inc rfl rfl (by omega)) ?_
              refine TO.quiet (q_assign rfl) ?_
              refine TO.nil ?_
              exact ⟨r + 1, by omega, rfl, by omega, ⟨rfl, rfl, rfl, rfl, rfl, rfl, rfl, rfl, trivial⟩⟩
          · have hge40 : ¬ r < 2 := by omega
            refine T.exit ?_
            refine T.seq ?_
            refine T.region ?_
            have hk89 := fun (w1 : World) (hI : Inv w [rowI wb wc 5 1 (byts (res.getD [])), objI z1 (.cells (List.toArray [(.int .i64 d.vars), (.int .i64 d.start), (.slice nb d.next.length nc), (.slice fb d.final.length fc)]) 25 (0, 0))] w1) => awakeC w1
            refine TO.loud rfl (l_call ent12 (CallT.of_pure hk89) rfl ?_)
            clear hk89
            rintro v O' ⟨N, rfl, rfl, rfl⟩
            refine TO.quiet (q_assign rfl) ?_
            refine TO.nil ?_
            refine T.ret ?_
            refine Res.drop ?_
            refine Res.one (.bool true) Tryd.results5 rfl ?_
            exact ⟨[], Sub.of (List.nil_sublist _), rfl, rfl⟩
    · refine TO.guarded rfl rfl rfl (LT.of_quiet rfl rfl (QT.toB (q_gtr rfl rfl) (decide_eq_false h12)) ?_)
      refine TO.guarded rfl rfl rfl (LT.of_quiet rfl rfl (q_move rfl) ?_)
      refine TO.passed rfl rfl ?_
      refine TO.passed rfl rfl ?_
      refine TO.passed rfl rfl ?_
      refine TO.guarded rfl rfl rfl (LT.of_quiet rfl rfl (q_pick0 rfl rfl) ?_)
      refine TO.quiet (q_pick0 rfl rfl) ?_
      refine TO.sub (O' := [objI z1 (.cells (List.toArray [(.int .i64 d.vars), (.int .i64 d.start), (.slice nb d.next.length nc), (.slice fb d.final.length fc)]) 25 (0, 0))]) (Sub.pick [1] rfl) ?_
      refine TO.nil ?_
      refine T.cond0 rfl ?_
      refine T.skip ?_
      refine T.seq ?_
      obtain ⟨hB1, hB2, hB3⟩ := longD_false hlong
      have hN : Valid d → d.next.length < 100 := fun hv9 => by have := checkD_zero.2 hv9; omega
      refine T.region ?_
      refine TO.quiet (q_load_boxAgg 0 Tryd.underlying25 rfl inf25 rfl rfl rfl) ?_
      refine TO.quiet (q_move rfl) ?_
      refine TO.quiet (q_move rfl) ?_
      have hk35 := fun (w1 : World) (hI : Inv w [objI z1 (.cells (List.toArray [(.int .i64 d.vars), (.int .i64 d.start), (.slice nb d.next.length nc), (.slice fb d.final.length fc)]) 25 (0, 0))] w1) => rDistA w1 d nb fb nc fc vs (hI.dfa h) hb hbr hbf hN s t
      refine TO.loud rfl (l_call ent26 (CallT.of_pure hk35) rfl ?_)
      clear hk35
      rintro v O' ⟨N, rfl, res, wb, wc, hT, rfl, rfl⟩
      refine TO.quiet (q_move rfl) ?_
      refine TO.quiet (q_extract (vs := _) rfl rfl) ?_
      refine TO.quiet (q_extract (vs := _) rfl rfl) ?_
      refine TO.quiet (q_extract (vs := _) rfl rfl) ?_
      refine TO.quiet (q_assign rfl) ?_
      refine TO.quiet (q_assign rfl) ?_
      refine TO.quiet (q_assign rfl) ?_
      refine TO.nil ?_
      refine T.seq ?_
      refine T.seq ?_
      have hwl : (res.getD []).length < 9223372036854775807 := hT.len hN
      refine T.region ?_
      refine TO.quiet (q_assign rfl) ?_
      refine TO.nil ?_
      refine T.block ?_
      refine T.loop (fun (r : Nat) ρ O => O = [rowI wb wc 5 1 (byts (res.getD [])), objI z1 (.cells (List.toArray [(.int .i64 d.vars), (.int .i64 d.start), (.slice nb d.next.length nc), (.slice fb d.final.length fc)]) 25 (0, 0))] ∧ r ≤ 2 ∧ Heads [(0, (.agg #[(.int .i64 d.vars), (.int .i64 d.start), (.slice nb d.next.length nc), (.slice fb d.final.length fc)])), (1, .int .i64 s), (2, .int .i64 t), (3, (.pointer (some ⟨z1, 0, none⟩))), (7, (.slice wb ((res.getD []).length) wc)), (8, .bool res.isSome), (9, .int .i64 (eD d s t : Int)), (10, .int .i64 (r : Int))] ρ) (fun r => 2 - r) 0 ?_ ?_
      · exact ⟨rfl, Nat.zero_le _, ⟨rfl, rfl, rfl, rfl, rfl, rfl, rfl, rfl, trivial⟩⟩
      · rintro r ρ O ⟨rfl, hr, hH⟩
        obtain ⟨ρ0, rfl⟩ := hH.elim
        clear hH
        refine T.seq ?_
        refine T.seq ?_
        refine T.region ?_
        refine TO.quiet (q_move rfl) ?_
        refine TO.quiet (q_lss rfl rfl) ?_
        refine TO.nil ?_
        refine T.condP rfl (fun hc => ?_) (fun hc => ?_)
        · have hlt40 : r < 2 := by omega
          refine T.skip ?_
          refine T.seq ?_
          refine T.block ?_
          refine T.seq ?_
          refine T.region ?_
          refine TO.quiet (q_load_boxAgg 1 Tryd.underlying25 rfl inf25 rfl rfl rfl) ?_
          refine TO.quiet (q_move rfl) ?_
          refine TO.quiet (q_move rfl) ?_
          have hk47 := fun (w1 : World) (hI : Inv w [rowI wb wc 5 1 (byts (res.getD [])), objI z1 (.cells (List.toArray [(.int .i64 d.vars), (.int .i64 d.start), (.slice nb d.next.length nc), (.slice fb d.final.length fc)]) 25 (0, 0))] w1) => distA w1 d nb fb nc fc vs (hI.dfa h) hb hbr hbf hN s t
          refine TO.loud rfl (l_call ent25 (CallT.of_pure hk47) rfl ?_)
          clear hk47
          rintro v O' ⟨N, rfl, res2, wb2, wc2, hT2, rfl, rfl⟩
          obtain rfl : res = res2 := hT.unique hT2
          refine TO.quiet (q_move rfl) ?_
          refine TO.quiet (q_extract (vs := _) rfl rfl) ?_
          refine TO.quiet (q_extract (vs := _) rfl rfl) ?_
          refine TO.quiet (q_extract (vs := _) rfl rfl) ?_
          refine TO.quiet (q_assign rfl) ?_
          refine TO.quiet (q_assign rfl) ?_
          refine TO.quiet (q_assign rfl) ?_
          refine TO.nil ?_
          refine T.seq ?_
          refine T.region ?_
          refine TO.quiet (q_load_boxAgg 2 Tryd.underlying25 rfl inf25 rfl rfl rfl) ?_
          refine TO.quiet (q_move rfl) ?_
          refine TO.quiet (q_move rfl) ?_
          have hk55 := fun (w1 : World) (hI : Inv w [rowI wb2 wc2 5 1 (byts (res.getD [])), rowI wb wc 5 1 (byts (res.getD [])), objI z1 (.cells (List.toArray [(.int .i64 d.vars), (.int .i64 d.start), (.slice nb d.next.length nc), (.slice fb d.final.length fc)]) 25 (0, 0))] w1) => eqvA w1 d nb fb nc fc vs (hI.dfa h) hb hbr hbf hN s t
          refine TO.loud rfl (l_call ent27 (CallT.of_pure hk55) rfl ?_)
          clear hk55
          rintro v O' ⟨N, rfl, res3, hT3, rfl, rfl⟩
          obtain rfl : res = res3 := hT.unique hT3
          refine TO.quiet (q_move rfl) ?_
          refine TO.quiet (q_extract (vs := _) rfl rfl) ?_
          refine TO.quiet (q_extract (vs := _) rfl rfl) ?_
          refine TO.quiet (q_assign rfl) ?_
          refine TO.quiet (q_assign rfl) ?_
          refine TO.nil ?_
          refine T.seq ?_
          refine T.seq ?_
          refine T.region ?_
          refine TO.quiet (q_move rfl) ?_
          refine TO.quiet (q_move rfl) ?_
          refine TO.quiet (QT.toB (q_neq rfl rfl) (decide_eq_false (fun h => h rfl))) ?_
          refine TO.quiet (q_move rfl) ?_
          refine TO.guarded rfl rfl rfl (LT.of_quiet rfl rfl (q_move rfl) ?_)
          refine TO.guarded rfl rfl rfl (LT.of_quiet rfl rfl (q_move rfl) ?_)
          refine TO.guarded rfl rfl rfl (LT.of_quiet rfl rfl (QT.toB (q_neq rfl rfl) (decide_eq_false (fun h => h rfl))) ?_)
          refine TO.quiet (q_pick0 rfl rfl) ?_
          refine TO.quiet (q_move rfl) ?_
          refine TO.guarded rfl rfl rfl (LT.of_quiet rfl rfl (q_move rfl) ?_)
          refine TO.guarded rfl rfl rfl (LT.of_quiet rfl rfl (q_move rfl) ?_)
          refine TO.guarded rfl rfl rfl (LT.of_quiet rfl rfl (QT.cast (q_bneq Tryd.underlying4 rfl rfl) (v' := .bool false) (by simp)) ?_)
          refine TO.quiet (q_pick0 rfl rfl) ?_
          refine TO.quiet (q_move rfl) ?_
          refine TO.guarded rfl rfl rfl (LT.of_quiet rfl rfl (q_move rfl) ?_)
          refine TO.guarded rfl rfl rfl (LT.of_quiet rfl rfl (q_move rfl) ?_)
          have hk74 := fun (w1 : World) (hI : Inv w [rowI wb2 wc2 5 1 (byts (res.getD [])), rowI wb wc 5 1 (byts (res.getD [])), objI z1 (.cells (List.toArray [(.int .i64 d.vars), (.int .i64 d.start), (.slice nb d.next.length nc), (.slice fb d.final.length fc)]) 25 (0, 0))] w1) => equalBytesT w1 wb2 wb wc2 wc (res.getD []) (hI.slOf (List.mem_of_getElem? (i := 0) rfl)) (hI.slOf (List.mem_of_getElem? (i := 1) rfl)) hwl
          refine TO.guarded rfl rfl rfl (l_call ent28 (CallT.of_pure hk74) rfl ?_)
          clear hk74
          rintro v O' ⟨N, rfl, rfl, rfl⟩
          refine TO.guarded rfl rfl rfl (LT.of_quiet rfl rfl (q_not rfl) ?_)
          refine TO.quiet (q_pick0 rfl rfl) ?_
          refine TO.quiet (q_move rfl) ?_
          refine TO.guarded rfl rfl rfl (LT.of_quiet rfl rfl (q_move rfl) ?_)
          refine TO.guarded rfl rfl rfl (LT.of_quiet rfl rfl (q_move rfl) ?_)
          by_cases h0 : (eD d s t : Int) = 0
          · refine TO.guarded rfl rfl rfl (LT.of_quiet rfl rfl (QT.toB (q_eql rfl rfl) (decide_eq_true h0)) ?_)
            refine TO.guarded rfl rfl rfl (LT.of_quiet rfl rfl (q_move rfl) ?_)
            refine TO.guarded rfl rfl rfl (LT.of_quiet rfl rfl (q_move rfl) ?_)
            refine TO.guarded rfl rfl rfl (LT.of_quiet rfl rfl (q_not rfl) ?_)
            refine TO.guarded rfl rfl rfl (LT.of_quiet rfl rfl (q_pick1 rfl rfl) ?_)
            refine TO.guarded rfl rfl rfl (LT.of_quiet rfl rfl (QT.cast (q_bneq Tryd.underlying4 rfl rfl) (v' := .bool false) (by unfold eqvV; by_cases h8 : eD d s t = 0 <;> first | (simp [h8]; done) | (exfalso; omega))) ?_)
            refine TO.quiet (q_pick0 rfl rfl) ?_
            refine TO.nil ?_
            refine T.cond0 rfl ?_
            refine T.skip ?_
            refine T.region ?_
            refine TO.quiet (q_move rfl) ?_
            have hk88 := CallT.under (B := [rowI wb wc 5 1 (byts (res.getD [])), objI z1 (.cells (List.toArray [(.int .i64 d.vars), (.int .i64 d.start), (.slice nb d.next.length nc), (.slice fb d.final.length fc)]) 25 (0, 0))]) (O := [rowI wb2 wc2 5 1 (byts (res.getD [])), rowI wb wc 5 1 (byts (res.getD [])), objI z1 (.cells (List.toArray [(.int .i64 d.vars), (.int .i64 d.start), (.slice nb d.next.length nc), (.slice fb d.final.length fc)]) 25 (0, 0))]) (overBytes w wb2 wc2 wc2 (res.getD []) hwl) (Sub.pick [0, 0, 0] rfl)
            refine TO.loud rfl (l_call ent29 hk88 rfl ?_)
            clear hk88
            rintro v O' ⟨A1, rfl, rfl⟩
            refine TO.nil ?_
            refine T.region ?_
            refine TO.quiet (q_move rfl) ?_
            refine TO.quiet (q_inc rfl rfl (by omega)) ?_
            refine TO.quiet (q_assign rfl) ?_
            refine TO.nil ?_
            exact ⟨r + 1, by omega, rfl, by omega, ⟨rfl, rfl, rfl, rfl, rfl, rfl, rfl, rfl, trivial⟩⟩
          · refine TO.guarded rfl rfl rfl (LT.of_quiet rfl rfl (QT.toB (q_eql rfl rfl) (decide_eq_false h0)) ?_)
            refine TO.guarded rfl rfl rfl (LT.of_quiet rfl rfl (q_move rfl) ?_)
            refine TO.passed rfl rfl ?_
            refine TO.passed rfl rfl ?_
            refine TO.guarded rfl rfl rfl (LT.of_quiet rfl rfl (q_pick0 rfl rfl) ?_)
            refine TO.guarded rfl rfl rfl (LT.of_quiet rfl rfl (QT.cast (q_bneq Tryd.underlying4 rfl rfl) (v' := .bool false) (by unfold eqvV; by_cases h8 : eD d s t = 0 <;> first | (simp [h8]; done) | (exfalso; omega))) ?_)
            refine TO.quiet (q_pick0 rfl rfl) ?_
            refine TO.nil ?_
            refine T.cond0 rfl ?_
            refine T.skip ?_
            refine T.region ?_
            refine TO.quiet (q_move rfl) ?_
            have hk88 := CallT.under (B := [rowI wb wc 5 1 (byts (res.getD [])), objI z1 (.cells (List.toArray [(.int .i64 d.vars), (.int .i64 d.start), (.slice nb d.next.length nc), (.slice fb d.final.length fc)]) 25 (0, 0))]) (O := [rowI wb2 wc2 5 1 (byts (res.getD [])), rowI wb wc 5 1 (byts (res.getD [])), objI z1 (.cells (List.toArray [(.int .i64 d.vars), (.int .i64 d.start), (.slice nb d.next.length nc), (.slice fb d.final.length fc)]) 25 (0, 0))]) (overBytes w wb2 wc2 wc2 (res.getD []) hwl) (Sub.pick [0, 0, 0] rfl)
            refine TO.loud rfl (l_call ent29 hk88 rfl ?_)
            clear hk88
            rintro v O' ⟨A1, rfl, rfl⟩
            refine TO.nil ?_
            refine T.region ?_
            refine TO.quiet (q_move rfl) ?_
            refine TO.quiet (q_inc rfl rfl (by omega)) ?_
            refine TO.quiet (q_assign rfl) ?_
            refine TO.nil ?_
            exact ⟨r + 1, by omega, rfl, by omega, ⟨rfl, rfl, rfl, rfl, rfl, rfl, rfl, rfl, trivial⟩⟩
        · have hge40 : ¬ r < 2 := by omega
          refine T.exit ?_
          refine T.seq ?_
          refine T.region ?_
          have hk89 := fun (w1 : World) (hI : Inv w [rowI wb wc 5 1 (byts (res.getD [])), objI z1 (.cells (List.toArray [(.int .i64 d.vars), (.int .i64 d.start), (.slice nb d.next.length nc), (.slice fb d.final.length fc)]) 25 (0, 0))] w1) => awakeC w1
          refine TO.loud rfl (l_call ent12 (CallT.of_pure hk89) rfl ?_)
          clear hk89
          rintro v O' ⟨N, rfl, rfl, rfl⟩
          refine TO.quiet (q_assign rfl) ?_
          refine TO.nil ?_
          refine T.ret ?_
          refine Res.drop ?_
          refine Res.one (.bool true) Tryd.results5 rfl ?_
          exact ⟨[], Sub.of (List.nil_sublist _), rfl, rfl⟩
end Go.Proofs.YthfemndklplpbaaDoor
