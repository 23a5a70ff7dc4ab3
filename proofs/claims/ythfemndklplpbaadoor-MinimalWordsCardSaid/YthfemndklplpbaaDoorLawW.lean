/- Contracts of functions of the program (LawW): what each call answers and that it leaves memory as it was. Conditions: those each theorem names. -/
import Derived.Test.YthfemndklplpbaaDoorAwk
import Derived.Test.YthfemndklplpbaaDoorRun
import Derived.Test.YthfemndklplpbaaDoorWrd2
set_option linter.unusedSectionVars false
set_option linter.unusedSimpArgs false
set_option linter.unusedVariables false
set_option linter.unnecessarySimpa false
namespace Go.Proofs.YthfemndklplpbaaDoor
open Go.Lx Go.RowKit
set_option linter.unusedVariables false
set_option linter.unusedSimpArgs false

theorem equalDFAE (w : World) (d e : DFA) (nb1 nb2 fb1 fb2 : Option Addr) (nc1 nc2 fc1 fc2 : Nat) (vs us : List Value) (he : d = e) (h1 : DfaAt w d nb1 vs fb1) (h2 : DfaAt w e nb2 us fb2) (hb : d.next.length < 9223372036854775807) (hbr : ∀ r ∈ d.next, r.length < 9223372036854775807) (hbf : d.final.length < 9223372036854775807) :
    PureT Tryd.prog 20 [.agg (dfaCells d nb1 nc1 fb1 fc1).toArray, .agg (dfaCells e nb2 nc2 fb2 fc2).toArray] w fun v N => v = .bool true ∧ N = [] := by
  subst he; exact equalDFAT w d nb1 nb2 fb1 fb2 nc1 nc2 fc1 fc2 vs us h1 h2 hb hbr hbf

theorem can_bound {l : List Nat} (hc : nrm l = l) {s : Nat} (hs : s < l.length) : l[s] < l.length := by
  have h1 := can_lt hc (List.getElem?_eq_getElem hs)
  have h2 := dd_length l
  omega

set_option maxHeartbeats 4000000 in
set_option maxRecDepth 20000 in
theorem wordsLaw (w : World) (d : DFA) (nb fb : Option Addr) (nc fc : Nat) (vs : List Value) (h : DfaAt w d nb vs fb) (hb : d.next.length < 9223372036854775807) (hbr : ∀ r ∈ d.next, r.length < 9223372036854775807) (hbf : d.final.length < 9223372036854775807) (wb : Option Addr) (wc : Nat) (l : List Nat) (hW : Sl w wb (byts l)) (hwb : l.length < 9223372036854775807) (hw8 : ∀ x ∈ l, x < 256) :
    PureT Tryd.prog 7 [.agg (dfaCells d nb nc fb fc).toArray, .slice wb l.length wc] w fun v N => v = .bool true ∧ N = [] := by
  refine CallT.enter Tryd.func7 rfl Tryd.ntmps7 rfl ?_
  refine T.seq ?_
  refine T.region ?_
  refine TO.loud rfl (l_box (v := (.agg #[(.int .i64 d.vars), (.int .i64 d.start), (.slice nb d.next.length nc), (.slice fb d.final.length fc)])) (cs := [(.int .i64 d.vars), (.int .i64 d.start), (.slice nb d.next.length nc), (.slice fb d.final.length fc)]) rfl rfl (fun z1 => ?_))
  refine TO.quiet (q_assign rfl) ?_
  refine TO.nil ?_
  refine T.seq ?_
  refine T.seq ?_
  refine T.region ?_
  refine TO.quiet (q_load_boxAgg 0 Tryd.underlying25 rfl inf25 rfl rfl rfl) ?_
  refine TO.loud rfl (l_buildSlice (m := 1) (parts := [(0, _)]) (cs := [(.int .i64 d.vars), (.int .i64 d.start), (.slice nb d.next.length nc), (.slice fb d.final.length fc)]) Tryd.underlying58 inf25 (by decide) (by kernel_rfl) rfl (fun z2 => ?_))
  by_cases hlong : longD d = true
  · have hk21 := fun (w1 : World) (hI : Inv w [rowI (some ⟨z2, 0, none⟩) 1 25 4 [(.int .i64 d.vars), (.int .i64 d.start), (.slice nb d.next.length nc), (.slice fb d.final.length fc)], objI z1 (.cells (List.toArray [(.int .i64 d.vars), (.int .i64 d.start), (.slice nb d.next.length nc), (.slice fb d.final.length fc)]) 25 (0, 0))] w1) => long1 w1 (some ⟨z2, 0, none⟩) 1 d nb fb nc fc vs (hI.slOf (List.mem_of_getElem? (i := 0) rfl)) (hI.dfa h) hb
    refine TO.loud rfl (l_call ent10 (CallT.of_pure hk21) rfl ?_)
    clear hk21
    rintro v O' ⟨N, rfl, rfl, rfl⟩
    rw [decide_eq_true hlong]
    refine TO.quiet (q_move rfl) ?_
    refine TO.passed rfl rfl ?_
    refine TO.passed rfl rfl ?_
    refine TO.passed rfl rfl ?_
    refine TO.quiet (q_pick1 rfl rfl) ?_
    refine TO.quiet (q_move rfl) ?_
    refine TO.passed rfl rfl ?_
    refine TO.passed rfl rfl ?_
    refine TO.quiet (q_pick1 rfl rfl) ?_
    refine TO.sub (O' := [objI z1 (.cells (List.toArray [(.int .i64 d.vars), (.int .i64 d.start), (.slice nb d.next.length nc), (.slice fb d.final.length fc)]) 25 (0, 0))]) (Sub.pick [1] rfl) ?_
    refine TO.nil ?_
    refine T.cond1 rfl ?_
    refine T.seq ?_
    refine T.region ?_
    have hk31 := fun (w1 : World) (hI : Inv w [objI z1 (.cells (List.toArray [(.int .i64 d.vars), (.int .i64 d.start), (.slice nb d.next.length nc), (.slice fb d.final.length fc)]) 25 (0, 0))] w1) => awakeC w1
    refine TO.loud rfl (l_call ent12 (CallT.of_pure hk31) rfl ?_)
    clear hk31
    rintro v O' ⟨N, rfl, rfl, rfl⟩
    refine TO.quiet (q_assign rfl) ?_
    refine TO.nil ?_
    refine T.ret ?_
    refine Res.drop ?_
    refine Res.one (.bool true) Tryd.results7 rfl ?_
    exact ⟨[], Sub.of (List.nil_sublist _), rfl, rfl⟩
  · have hk21 := fun (w1 : World) (hI : Inv w [rowI (some ⟨z2, 0, none⟩) 1 25 4 [(.int .i64 d.vars), (.int .i64 d.start), (.slice nb d.next.length nc), (.slice fb d.final.length fc)], objI z1 (.cells (List.toArray [(.int .i64 d.vars), (.int .i64 d.start), (.slice nb d.next.length nc), (.slice fb d.final.length fc)]) 25 (0, 0))] w1) => long1 w1 (some ⟨z2, 0, none⟩) 1 d nb fb nc fc vs (hI.slOf (List.mem_of_getElem? (i := 0) rfl)) (hI.dfa h) hb
    refine TO.loud rfl (l_call ent10 (CallT.of_pure hk21) rfl ?_)
    clear hk21
    rintro v O' ⟨N, rfl, rfl, rfl⟩
    rw [decide_eq_false hlong]
    refine TO.quiet (q_move rfl) ?_
    refine TO.guarded rfl rfl rfl (LT.of_quiet rfl rfl (q_move rfl) ?_)
    refine TO.guarded rfl rfl rfl (LT.of_quiet rfl rfl (q_len Tryd.underlying42 rfl) ?_)
    by_cases h100 : (l.length : Int) > 100
    · refine TO.guarded rfl rfl rfl (LT.of_quiet rfl rfl (QT.toB (q_gtr rfl rfl) (decide_eq_true h100)) ?_)
      refine TO.quiet (q_pick0 rfl rfl) ?_
      refine TO.quiet (q_move rfl) ?_
      refine TO.passed rfl rfl ?_
      refine TO.passed rfl rfl ?_
      refine TO.quiet (q_pick1 rfl rfl) ?_
      refine TO.sub (O' := [objI z1 (.cells (List.toArray [(.int .i64 d.vars), (.int .i64 d.start), (.slice nb d.next.length nc), (.slice fb d.final.length fc)]) 25 (0, 0))]) (Sub.pick [1] rfl) ?_
      refine TO.nil ?_
      refine T.cond1 rfl ?_
      refine T.seq ?_
      refine T.region ?_
      have hk31 := fun (w1 : World) (hI : Inv w [objI z1 (.cells (List.toArray [(.int .i64 d.vars), (.int .i64 d.start), (.slice nb d.next.length nc), (.slice fb d.final.length fc)]) 25 (0, 0))] w1) => awakeC w1
      refine TO.loud rfl (l_call ent12 (CallT.of_pure hk31) rfl ?_)
      clear hk31
      rintro v O' ⟨N, rfl, rfl, rfl⟩
      refine TO.quiet (q_assign rfl) ?_
      refine TO.nil ?_
      refine T.ret ?_
      refine Res.drop ?_
      refine Res.one (.bool true) Tryd.results7 rfl ?_
      exact ⟨[], Sub.of (List.nil_sublist _), rfl, rfl⟩
    · refine TO.guarded rfl rfl rfl (LT.of_quiet rfl rfl (QT.toB (q_gtr rfl rfl) (decide_eq_false h100)) ?_)
      refine TO.quiet (q_pick0 rfl rfl) ?_
      refine TO.quiet (q_move rfl) ?_
      have hk28 := fun (w1 : World) (hI : Inv w [rowI (some ⟨z2, 0, none⟩) 1 25 4 [(.int .i64 d.vars), (.int .i64 d.start), (.slice nb d.next.length nc), (.slice fb d.final.length fc)], objI z1 (.cells (List.toArray [(.int .i64 d.vars), (.int .i64 d.start), (.slice nb d.next.length nc), (.slice fb d.final.length fc)]) 25 (0, 0))] w1) => awakeC w1
      refine TO.guarded rfl rfl rfl (l_call ent12 (CallT.of_pure hk28) rfl ?_)
      clear hk28
      rintro v O' ⟨N, rfl, rfl, rfl⟩
      refine TO.guarded rfl rfl rfl (LT.of_quiet rfl rfl (q_not rfl) ?_)
      refine TO.quiet (q_pick0 rfl rfl) ?_
      refine TO.sub (O' := [objI z1 (.cells (List.toArray [(.int .i64 d.vars), (.int .i64 d.start), (.slice nb d.next.length nc), (.slice fb d.final.length fc)]) 25 (0, 0))]) (Sub.pick [1] rfl) ?_
      refine TO.nil ?_
      refine T.cond0 rfl ?_
      refine T.skip ?_
      refine T.seq ?_
      obtain ⟨hB1, hB2, hB3⟩ := longD_false hlong
      have hmb := minV_bound d
      have hN : Valid d → d.next.length < 100 := fun _ => by omega
      refine T.region ?_
      refine TO.quiet (q_load_boxAgg 0 Tryd.underlying25 rfl inf25 rfl rfl rfl) ?_
      have hk34 := fun (w1 : World) (hI : Inv w [objI z1 (.cells (List.toArray [(.int .i64 d.vars), (.int .i64 d.start), (.slice nb d.next.length nc), (.slice fb d.final.length fc)]) 25 (0, 0))] w1) => minA w1 d nb fb nc fc vs (hI.dfa h) hb hbr hbf hN
      refine TO.loud rfl (l_call ent17 (CallT.of_pure hk34) rfl ?_)
      clear hk34
      rintro v O' ⟨N, rfl, nb1, nc1, fb1, fc1, qs1, rfl, rfl, hq1⟩
      refine TO.sub (O' := ([rowI nb1 nc1 33 1 (vals qs1), rowI fb1 fc1 4 1 (bools (minV d).final), objI z1 (.cells (List.toArray [(.int .i64 d.vars), (.int .i64 d.start), (.slice nb d.next.length nc), (.slice fb d.final.length fc)]) 25 (0, 0))] ++ (itms 3 qs1))) (Sub.cnt [] (by intro a; simp only [itms, List.set_cons_zero, List.set_cons_succ, putL, List.cons_append, List.nil_append, List.append_nil, List.append_assoc, List.map_append, List.map_cons, List.map_nil, cnt_append, cnt_cons, cnt_nil] <;> omega)) ?_
      refine TO.quiet (q_move rfl) ?_
      refine TO.quiet (q_extract (vs := _) rfl rfl) ?_
      refine TO.quiet (q_extract (vs := _) rfl rfl) ?_
      refine TO.loud rfl (l_alloc inf25 rfl (fun z3 => ?_))
      refine TO.loud rfl (l_store_box (v := (.agg #[(.int .i64 (minV d).vars), (.int .i64 (minV d).start), (.slice nb1 ((minV d).next.length) nc1), (.slice fb1 ((minV d).final.length) fc1)])) (vs := [(.int .i64 (minV d).vars), (.int .i64 (minV d).start), (.slice nb1 ((minV d).next.length) nc1), (.slice fb1 ((minV d).final.length) fc1)]) 0 inf25 rfl rfl rfl rfl rfl rfl (by simp [putL]) ?_)
      refine TO.quiet (q_assign rfl) ?_
      refine TO.nil ?_
      refine T.seq ?_
      refine T.seq ?_
      refine T.region ?_
      refine TO.quiet (q_move rfl) ?_
      by_cases hE : (checkD d : Int) ≠ 0
      · refine TO.quiet (QT.toB (q_neq rfl rfl) (decide_eq_true hE)) ?_
        refine TO.nil ?_
        refine T.cond1 rfl ?_
        refine T.seq ?_
        refine T.region ?_
        refine TO.quiet (q_load_boxAgg 3 Tryd.underlying25 rfl inf25 rfl rfl rfl) ?_
        have hk40 := fun (w1 : World) (hI : Inv w ([objI z3 (.cells (List.toArray [(.int .i64 (minV d).vars), (.int .i64 (minV d).start), (.slice nb1 ((minV d).next.length) nc1), (.slice fb1 ((minV d).final.length) fc1)]) 25 (0, 0)), rowI nb1 nc1 33 1 (vals qs1), rowI fb1 fc1 4 1 (bools (minV d).final), objI z1 (.cells (List.toArray [(.int .i64 d.vars), (.int .i64 d.start), (.slice nb d.next.length nc), (.slice fb d.final.length fc)]) 25 (0, 0))] ++ (itms 3 qs1)) w1) => subsetCheck w1 d nb fb nc fc vs (hI.dfa h) hb hbr hbf
        refine TO.loud rfl (l_call ent24 (CallT.of_pure hk40) rfl ?_)
        clear hk40
        rintro v O' ⟨N, rfl, rfl, rfl⟩
        refine TO.quiet (q_move rfl) ?_
        refine TO.quiet (QT.toB (q_eql rfl rfl) (decide_eq_true rfl)) ?_
        refine TO.quiet (q_move rfl) ?_
        refine TO.guarded rfl rfl rfl (LT.of_quiet rfl rfl (q_fieldAddr Tryd.underlying25 rfl inf22 rfl rfl) ?_)
        refine TO.guarded rfl rfl rfl (LT.of_quiet rfl rfl (q_load_box 0 Tryd.underlying22 rfl rfl rfl rfl) ?_)
        refine TO.guarded rfl rfl rfl (LT.of_quiet rfl rfl (q_len Tryd.underlying22 rfl) ?_)
        refine TO.guarded rfl rfl rfl (LT.of_quiet rfl rfl (QT.toB (q_eql rfl rfl) (decide_eq_true (by unfold minV; rw [if_neg (by omega)]; rfl))) ?_)
        refine TO.quiet (q_pick1 rfl rfl) ?_
        refine TO.quiet (q_assign rfl) ?_
        refine TO.nil ?_
        refine T.ret ?_
        refine Res.drop ?_
        refine Res.one (.bool true) Tryd.results7 rfl ?_
        exact ⟨[], Sub.of (List.nil_sublist _), rfl, rfl⟩
      · refine TO.quiet (QT.toB (q_neq rfl rfl) (decide_eq_false hE)) ?_
        refine TO.nil ?_
        refine T.cond0 rfl ?_
        refine T.skip ?_
        refine T.seq ?_
        have hv : Valid d := checkD_zero.1 (by omega)
        have hvR := renum_valid hv
        have hRl : (renum d).next.length ≤ d.next.length := by have := order_len hv; simpa [renum] using this
        have hM := minV_valid hv
        have hMM : minV (minV d) = minV d := by rw [hM, minV_valid (minD_valid hv), minD_min hv]
        have hCM : ((checkD (minV d) : Nat) : Int) = 0 := by rw [hM, checkD_zero.2 (minD_valid hv)]; rfl
        have hCR : ((checkD (renum d) : Nat) : Int) = 0 := by rw [checkD_zero.2 hvR]; rfl
        have hRE : runE (minV d) l = runE d l := by rw [hM, runE_min hv]
        have hAC : accV (minV d) l = accV d l := by rw [hM, accV_min hv]
        have hcan : nrm (rndsV (renum d) (renum d).next.length) = (rndsV (renum d) (renum d).next.length) := by rw [rndsV_eq hvR, itF_can]
        have hcl := rndsV_len hvR (renum d).next.length
        have hmany := words_many hv
        rw [← hM] at hmany
        refine T.region ?_
        refine TO.quiet (q_load_boxAgg 3 Tryd.underlying25 rfl inf25 rfl rfl rfl) ?_
        refine TO.quiet (q_move rfl) ?_
        have hk52 := fun (w1 : World) (hI : Inv w ([objI z3 (.cells (List.toArray [(.int .i64 (minV d).vars), (.int .i64 (minV d).start), (.slice nb1 ((minV d).next.length) nc1), (.slice fb1 ((minV d).final.length) fc1)]) 25 (0, 0)), rowI nb1 nc1 33 1 (vals qs1), rowI fb1 fc1 4 1 (bools (minV d).final), objI z1 (.cells (List.toArray [(.int .i64 d.vars), (.int .i64 d.start), (.slice nb d.next.length nc), (.slice fb d.final.length fc)]) 25 (0, 0))] ++ (itms 3 qs1)) w1) => acceptsA w1 d nb fb nc fc vs (hI.dfa h) hb hbr hbf wb wc l (hI.sl hW) hwb hw8
        refine TO.loud rfl (l_call ent32 (CallT.of_pure hk52) rfl ?_)
        clear hk52
        rintro v O' ⟨N, rfl, rfl, rfl⟩
        refine TO.quiet (q_move rfl) ?_
        refine TO.quiet (q_extract (vs := _) rfl rfl) ?_
        refine TO.quiet (q_extract (vs := _) rfl rfl) ?_
        refine TO.quiet (q_assign rfl) ?_
        refine TO.quiet (q_assign rfl) ?_
        refine TO.nil ?_
        refine T.seq ?_
        refine T.region ?_
        refine TO.quiet (q_load_boxAgg 0 Tryd.underlying25 rfl inf25 rfl rfl rfl) ?_
        refine TO.quiet (q_move rfl) ?_
        have hk58 := fun (w1 : World) (hI : Inv w ([objI z3 (.cells (List.toArray [(.int .i64 (minV d).vars), (.int .i64 (minV d).start), (.slice nb1 ((minV d).next.length) nc1), (.slice fb1 ((minV d).final.length) fc1)]) 25 (0, 0)), rowI nb1 nc1 33 1 (vals qs1), rowI fb1 fc1 4 1 (bools (minV d).final), objI z1 (.cells (List.toArray [(.int .i64 d.vars), (.int .i64 d.start), (.slice nb d.next.length nc), (.slice fb d.final.length fc)]) 25 (0, 0))] ++ (itms 3 qs1)) w1) => acceptsA w1 (minV d) nb1 fb1 nc1 fc1 (vals qs1) (show DfaAt w1 (minV d) nb1 (vals qs1) fb1 from ⟨hI.slOf (List.mem_of_getElem? (i := 1) rfl), hq1 ▸ hI.recs (fun q hq => List.mem_append_right _ (List.mem_map_of_mem (f := Rec.itm 3) hq)), hI.slOf (List.mem_of_getElem? (i := 2) rfl)⟩) (by omega) (fun r hr => by have := hmb.2.2 r hr; omega) (by omega) wb wc l (hI.sl hW) hwb hw8
        refine TO.loud rfl (l_call ent32 (CallT.of_pure hk58) rfl ?_)
        clear hk58
        rintro v O' ⟨N, rfl, rfl, rfl⟩
        refine TO.quiet (q_move rfl) ?_
        refine TO.quiet (q_extract (vs := _) rfl rfl) ?_
        refine TO.quiet (q_extract (vs := _) rfl rfl) ?_
        refine TO.quiet (q_assign rfl) ?_
        refine TO.quiet (q_assign rfl) ?_
        refine TO.nil ?_
        refine T.seq ?_
        refine T.region ?_
        refine TO.quiet (q_load_boxAgg 0 Tryd.underlying25 rfl inf25 rfl rfl rfl) ?_
        have hk63 := fun (w1 : World) (hI : Inv w ([objI z3 (.cells (List.toArray [(.int .i64 (minV d).vars), (.int .i64 (minV d).start), (.slice nb1 ((minV d).next.length) nc1), (.slice fb1 ((minV d).final.length) fc1)]) 25 (0, 0)), rowI nb1 nc1 33 1 (vals qs1), rowI fb1 fc1 4 1 (bools (minV d).final), objI z1 (.cells (List.toArray [(.int .i64 d.vars), (.int .i64 d.start), (.slice nb d.next.length nc), (.slice fb d.final.length fc)]) 25 (0, 0))] ++ (itms 3 qs1)) w1) => minA w1 (minV d) nb1 fb1 nc1 fc1 (vals qs1) (show DfaAt w1 (minV d) nb1 (vals qs1) fb1 from ⟨hI.slOf (List.mem_of_getElem? (i := 1) rfl), hq1 ▸ hI.recs (fun q hq => List.mem_append_right _ (List.mem_map_of_mem (f := Rec.itm 3) hq)), hI.slOf (List.mem_of_getElem? (i := 2) rfl)⟩) (by omega) (fun r hr => by have := hmb.2.2 r hr; omega) (by omega) (fun _ => by omega)
        refine TO.loud rfl (l_call ent17 (CallT.of_pure hk63) rfl ?_)
        clear hk63
        rintro v O' ⟨N, rfl, nb2, nc2, fb2, fc2, qs2, rfl, rfl, hq2⟩
        refine TO.sub (O' := ([rowI nb2 nc2 33 1 (vals qs2), rowI fb2 fc2 4 1 (bools (minV (minV d)).final), objI z3 (.cells (List.toArray [(.int .i64 (minV d).vars), (.int .i64 (minV d).start), (.slice nb1 ((minV d).next.length) nc1), (.slice fb1 ((minV d).final.length) fc1)]) 25 (0, 0)), rowI nb1 nc1 33 1 (vals qs1), rowI fb1 fc1 4 1 (bools (minV d).final), objI z1 (.cells (List.toArray [(.int .i64 d.vars), (.int .i64 d.start), (.slice nb d.next.length nc), (.slice fb d.final.length fc)]) 25 (0, 0))] ++ ((itms 3 qs2) ++ (itms 3 qs1)))) (Sub.cnt [] (by intro a; simp only [itms, List.set_cons_zero, List.set_cons_succ, putL, List.cons_append, List.nil_append, List.append_nil, List.append_assoc, List.map_append, List.map_cons, List.map_nil, cnt_append, cnt_cons, cnt_nil] <;> omega)) ?_
        refine TO.quiet (q_move rfl) ?_
        refine TO.quiet (q_extract (vs := _) rfl rfl) ?_
        refine TO.quiet (q_extract (vs := _) rfl rfl) ?_
        refine TO.loud rfl (l_alloc inf25 rfl (fun z4 => ?_))
        refine TO.loud rfl (l_store_box (v := (.agg #[(.int .i64 (minV (minV d)).vars), (.int .i64 (minV (minV d)).start), (.slice nb2 ((minV (minV d)).next.length) nc2), (.slice fb2 ((minV (minV d)).final.length) fc2)])) (vs := [(.int .i64 (minV (minV d)).vars), (.int .i64 (minV (minV d)).start), (.slice nb2 ((minV (minV d)).next.length) nc2), (.slice fb2 ((minV (minV d)).final.length) fc2)]) 0 inf25 rfl rfl rfl rfl rfl rfl (by simp [putL]) ?_)
        refine TO.quiet (q_assign rfl) ?_
        refine TO.nil ?_
        refine T.seq ?_
        refine T.region ?_
        refine TO.quiet (q_load_boxAgg 6 Tryd.underlying25 rfl inf25 rfl rfl rfl) ?_
        have hk68 := fun (w1 : World) (hI : Inv w ([objI z4 (.cells (List.toArray [(.int .i64 (minV (minV d)).vars), (.int .i64 (minV (minV d)).start), (.slice nb2 ((minV (minV d)).next.length) nc2), (.slice fb2 ((minV (minV d)).final.length) fc2)]) 25 (0, 0)), rowI nb2 nc2 33 1 (vals qs2), rowI fb2 fc2 4 1 (bools (minV (minV d)).final), objI z3 (.cells (List.toArray [(.int .i64 (minV d).vars), (.int .i64 (minV d).start), (.slice nb1 ((minV d).next.length) nc1), (.slice fb1 ((minV d).final.length) fc1)]) 25 (0, 0)), rowI nb1 nc1 33 1 (vals qs1), rowI fb1 fc1 4 1 (bools (minV d).final), objI z1 (.cells (List.toArray [(.int .i64 d.vars), (.int .i64 d.start), (.slice nb d.next.length nc), (.slice fb d.final.length fc)]) 25 (0, 0))] ++ ((itms 3 qs2) ++ (itms 3 qs1))) w1) => renumOk w1 d nb fb nc fc vs (hI.dfa h) hv (by omega)
        refine TO.loud rfl (l_call ent33 (CallT.of_pure hk68) rfl ?_)
        clear hk68
        rintro v O' ⟨N, rfl, nb3, nc3, fb3, fc3, qs3, rfl, rfl, hq3⟩
        refine TO.sub (O' := ([rowI nb3 nc3 33 1 (vals qs3), rowI fb3 fc3 4 1 (bools (renum d).final), objI z4 (.cells (List.toArray [(.int .i64 (minV (minV d)).vars), (.int .i64 (minV (minV d)).start), (.slice nb2 ((minV (minV d)).next.length) nc2), (.slice fb2 ((minV (minV d)).final.length) fc2)]) 25 (0, 0)), rowI nb2 nc2 33 1 (vals qs2), rowI fb2 fc2 4 1 (bools (minV (minV d)).final), objI z3 (.cells (List.toArray [(.int .i64 (minV d).vars), (.int .i64 (minV d).start), (.slice nb1 ((minV d).next.length) nc1), (.slice fb1 ((minV d).final.length) fc1)]) 25 (0, 0)), rowI nb1 nc1 33 1 (vals qs1), rowI fb1 fc1 4 1 (bools (minV d).final), objI z1 (.cells (List.toArray [(.int .i64 d.vars), (.int .i64 d.start), (.slice nb d.next.length nc), (.slice fb d.final.length fc)]) 25 (0, 0))] ++ ((itms 3 qs3) ++ ((itms 3 qs2) ++ (itms 3 qs1))))) (Sub.cnt [] (by intro a; simp only [itms, List.set_cons_zero, List.set_cons_succ, putL, List.cons_append, List.nil_append, List.append_nil, List.append_assoc, List.map_append, List.map_cons, List.map_nil, cnt_append, cnt_cons, cnt_nil] <;> omega)) ?_
        refine TO.quiet (q_move rfl) ?_
        refine TO.quiet (q_extract (vs := _) rfl rfl) ?_
        refine TO.quiet (q_extract (vs := _) rfl rfl) ?_
        refine TO.loud rfl (l_alloc inf25 rfl (fun z5 => ?_))
        refine TO.loud rfl (l_store_box (v := (.agg #[(.int .i64 (renum d).vars), (.int .i64 (renum d).start), (.slice nb3 ((renum d).next.length) nc3), (.slice fb3 ((renum d).final.length) fc3)])) (vs := [(.int .i64 (renum d).vars), (.int .i64 (renum d).start), (.slice nb3 ((renum d).next.length) nc3), (.slice fb3 ((renum d).final.length) fc3)]) 0 inf25 rfl rfl rfl rfl rfl rfl (by simp [putL]) ?_)
        refine TO.quiet (q_assign rfl) ?_
        refine TO.nil ?_
        refine T.seq ?_
        refine T.region ?_
        refine TO.quiet (q_load_boxAgg 0 Tryd.underlying25 rfl inf25 rfl rfl rfl) ?_
        have hk73 := fun (w1 : World) (hI : Inv w ([objI z5 (.cells (List.toArray [(.int .i64 (renum d).vars), (.int .i64 (renum d).start), (.slice nb3 ((renum d).next.length) nc3), (.slice fb3 ((renum d).final.length) fc3)]) 25 (0, 0)), rowI nb3 nc3 33 1 (vals qs3), rowI fb3 fc3 4 1 (bools (renum d).final), objI z4 (.cells (List.toArray [(.int .i64 (minV (minV d)).vars), (.int .i64 (minV (minV d)).start), (.slice nb2 ((minV (minV d)).next.length) nc2), (.slice fb2 ((minV (minV d)).final.length) fc2)]) 25 (0, 0)), rowI nb2 nc2 33 1 (vals qs2), rowI fb2 fc2 4 1 (bools (minV (minV d)).final), objI z3 (.cells (List.toArray [(.int .i64 (minV d).vars), (.int .i64 (minV d).start), (.slice nb1 ((minV d).next.length) nc1), (.slice fb1 ((minV d).final.length) fc1)]) 25 (0, 0)), rowI nb1 nc1 33 1 (vals qs1), rowI fb1 fc1 4 1 (bools (minV d).final), objI z1 (.cells (List.toArray [(.int .i64 d.vars), (.int .i64 d.start), (.slice nb d.next.length nc), (.slice fb d.final.length fc)]) 25 (0, 0))] ++ ((itms 3 qs3) ++ ((itms 3 qs2) ++ (itms 3 qs1)))) w1) => classesA w1 (renum d) nb3 fb3 nc3 fc3 (vals qs3) (show DfaAt w1 (renum d) nb3 (vals qs3) fb3 from ⟨hI.slOf (List.mem_of_getElem? (i := 1) rfl), hq3 ▸ hI.recs (fun q hq => List.mem_append_right _ (List.mem_append_left _ (List.mem_map_of_mem (f := Rec.itm 3) hq))), hI.slOf (List.mem_of_getElem? (i := 2) rfl)⟩) (by omega) (fun r hr => hvR.bound r hr) (by have := hvR.fin; omega) (fun _ => by omega)
        refine TO.loud rfl (l_call ent18 (CallT.of_pure hk73) rfl ?_)
        clear hk73
        rintro v O' ⟨N, rfl, lb, lc, rfl, rfl⟩
        refine TO.quiet (q_move rfl) ?_
        refine TO.quiet (q_extract (vs := _) rfl rfl) ?_
        refine TO.quiet (q_extract (vs := _) rfl rfl) ?_
        refine TO.quiet (q_assign rfl) ?_
        refine TO.quiet (q_assign rfl) ?_
        refine TO.nil ?_
        refine T.seq ?_
        refine T.region ?_
        refine TO.quiet (q_assign rfl) ?_
        refine TO.nil ?_
        refine T.seq ?_
        refine T.seq ?_
        refine T.region ?_
        refine TO.quiet (q_assign rfl) ?_
        refine TO.nil ?_
        refine T.block ?_
        refine T.loop (fun (s : Nat) ρ O => ∃ (m : Nat), O = ([rowI lb lc 3 1 (nats (rndsV (renum d) (renum d).next.length)), objI z5 (.cells (List.toArray [(.int .i64 (renum d).vars), (.int .i64 (renum d).start), (.slice nb3 ((renum d).next.length) nc3), (.slice fb3 ((renum d).final.length) fc3)]) 25 (0, 0)), rowI nb3 nc3 33 1 (vals qs3), rowI fb3 fc3 4 1 (bools (renum d).final), objI z4 (.cells (List.toArray [(.int .i64 (minV (minV d)).vars), (.int .i64 (minV (minV d)).start), (.slice nb2 ((minV (minV d)).next.length) nc2), (.slice fb2 ((minV (minV d)).final.length) fc2)]) 25 (0, 0)), rowI nb2 nc2 33 1 (vals qs2), rowI fb2 fc2 4 1 (bools (minV (minV d)).final), objI z3 (.cells (List.toArray [(.int .i64 (minV d).vars), (.int .i64 (minV d).start), (.slice nb1 ((minV d).next.length) nc1), (.slice fb1 ((minV d).final.length) fc1)]) 25 (0, 0)), rowI nb1 nc1 33 1 (vals qs1), rowI fb1 fc1 4 1 (bools (minV d).final), objI z1 (.cells (List.toArray [(.int .i64 d.vars), (.int .i64 d.start), (.slice nb d.next.length nc), (.slice fb d.final.length fc)]) 25 (0, 0))] ++ ((itms 3 qs3) ++ ((itms 3 qs2) ++ (itms 3 qs1)))) ∧ s ≤ (rndsV (renum d) (renum d).next.length).length ∧ m = (dd ((rndsV (renum d) (renum d).next.length).take s)).length ∧ Heads [(0, (.agg #[(.int .i64 d.vars), (.int .i64 d.start), (.slice nb d.next.length nc), (.slice fb d.final.length fc)])), (1, (.slice wb l.length wc)), (2, (.pointer (some ⟨z1, 0, none⟩))), (4, .bool false), (5, (.pointer (some ⟨z3, 0, none⟩))), (6, .int .i64 (checkD d : Int)), (7, .bool (accV d l)), (8, .int .i64 ((runE d l : Nat) : Int)), (9, .bool (accV (minV d) l)), (10, .int .i64 ((runE (minV d) l : Nat) : Int)), (11, (.pointer (some ⟨z4, 0, none⟩))), (12, .int .i64 (checkD (minV d) : Int)), (13, (.pointer (some ⟨z5, 0, none⟩))), (14, .int .i64 0), (15, (.slice lb ((rndsV (renum d) (renum d).next.length).length) lc)), (16, .int .i64 (checkD (renum d) : Int)), (17, .int .i64 (m : Int)), (18, .int .i64 (s : Int))] ρ) (fun s => (renum d).next.length - s) 0 ?_ ?_
        · exact ⟨0, rfl, Nat.zero_le _, rfl, ⟨rfl, rfl, rfl, rfl, rfl, rfl, rfl, rfl, rfl, rfl, rfl, rfl, rfl, rfl, rfl, rfl, rfl, rfl, trivial⟩⟩
        · rintro s ρ O ⟨m, rfl, hs, hm, hH⟩
          obtain ⟨ρ0, rfl⟩ := hH.elim
          clear hH
          refine T.seq ?_
          refine T.seq ?_
          refine T.region ?_
          refine TO.quiet (q_move rfl) ?_
          refine TO.quiet (q_move rfl) ?_
          refine TO.quiet (q_len Tryd.underlying33 rfl) ?_
          refine TO.quiet (q_lss rfl rfl) ?_
          refine TO.nil ?_
          refine T.condP rfl (fun hc => ?_) (fun hc => ?_)
          · have hlt79 : s < (rndsV (renum d) (renum d).next.length).length := by omega
            have hlv := can_bound hcan hlt79
            refine T.skip ?_
            refine T.seq ?_
            refine T.block ?_
            refine T.region ?_
            refine TO.quiet (q_move rfl) ?_
            refine TO.quiet (q_move rfl) ?_
            refine TO.quiet (q_move rfl) ?_
            refine TO.quiet (q_ix (i := s) Tryd.underlying33 inf3 rfl rfl (rowO (List.mem_of_getElem? (i := 0) rfl)) hlt79 (by rw [List.length_map]; exact hlt79)) ?_
            refine TO.quiet (q_ld Tryd.underlying3 rfl rfl (rowO (List.mem_of_getElem? (i := 0) rfl)) (nats_get hlt79)) ?_
            refine TO.quiet (QT.cast (q_add64 rfl rfl (by omega)) (v' := .int .i64 (((rndsV (renum d) (renum d).next.length)[s] + 1 : Nat) : Int)) (show Value.int _ _ = _ by rw [Int.natCast_add]; rfl)) ?_
            refine TO.quiet (QT.cast (q_max rfl rfl) (v' := .int .i64 ((max m ((rndsV (renum d) (renum d).next.length)[s] + 1) : Nat) : Int)) (congrArg (Value.int .i64) (show (if (((rndsV (renum d) (renum d).next.length)[s] + 1 : Nat) : Int) > (m : Int) then (((rndsV (renum d) (renum d).next.length)[s] + 1 : Nat) : Int) else (m : Int)) = ((max m ((rndsV (renum d) (renum d).next.length)[s] + 1) : Nat) : Int) by split <;> omega))) ?_
            refine TO.quiet (q_assign rfl) ?_
            refine TO.nil ?_
            refine T.region ?_
            refine TO.quiet (q_move rfl) ?_
            refine TO.quiet (q_inc rfl rfl (by omega)) ?_
            refine TO.quiet (q_assign rfl) ?_
            refine TO.nil ?_
            exact ⟨s + 1, by omega, max m ((rndsV (renum d) (renum d).next.length)[s] + 1), rfl, by omega, by rw [can_step hcan hlt79, hm], ⟨rfl, rfl, rfl, rfl, rfl, rfl, rfl, rfl, rfl, rfl, rfl, rfl, rfl, rfl, rfl, rfl, rfl, rfl, trivial⟩⟩
          · have hge79 : ¬ s < (rndsV (renum d) (renum d).next.length).length := by omega
            refine T.exit ?_
            refine T.seq ?_
            have hse : s = (rndsV (renum d) (renum d).next.length).length := by omega
            rw [hse, List.take_of_length_le (Nat.le_refl _), hmany] at hm
            refine T.region ?_
            refine TO.quiet (q_move rfl) ?_
            refine TO.quiet (q_move rfl) ?_
            refine TO.quiet (QT.toB (q_eql rfl rfl) (decide_eq_true (by rw [hRE]))) ?_
            refine TO.quiet (q_move rfl) ?_
            refine TO.guarded rfl rfl rfl (LT.of_quiet rfl rfl (q_move rfl) ?_)
            refine TO.guarded rfl rfl rfl (LT.of_quiet rfl rfl (q_move rfl) ?_)
            refine TO.guarded rfl rfl rfl (LT.of_quiet rfl rfl (QT.cast (q_beql Tryd.underlying4 rfl rfl) (v' := .bool true) (show Value.bool (accV d l == accV (minV d) l) = _ by rw [hAC]; exact congrArg Value.bool (beq_self_eq_true _))) ?_)
            refine TO.quiet (q_pick1 rfl rfl) ?_
            refine TO.quiet (q_move rfl) ?_
            refine TO.guarded rfl rfl rfl (LT.of_quiet rfl rfl (q_move rfl) ?_)
            refine TO.guarded rfl rfl rfl (LT.of_quiet rfl rfl (QT.toB (q_eql rfl rfl) (decide_eq_true hCM)) ?_)
            refine TO.quiet (q_pick1 rfl rfl) ?_
            refine TO.quiet (q_move rfl) ?_
            refine TO.guarded rfl rfl rfl (LT.of_quiet rfl rfl (q_load_boxAgg 4 Tryd.underlying25 rfl inf25 rfl rfl rfl) ?_)
            refine TO.guarded rfl rfl rfl (LT.of_quiet rfl rfl (q_load_boxAgg 7 Tryd.underlying25 rfl inf25 rfl rfl rfl) ?_)
            have hk104 := fun (w1 : World) (hI : Inv w ([rowI lb lc 3 1 (nats (rndsV (renum d) (renum d).next.length)), objI z5 (.cells (List.toArray [(.int .i64 (renum d).vars), (.int .i64 (renum d).start), (.slice nb3 ((renum d).next.length) nc3), (.slice fb3 ((renum d).final.length) fc3)]) 25 (0, 0)), rowI nb3 nc3 33 1 (vals qs3), rowI fb3 fc3 4 1 (bools (renum d).final), objI z4 (.cells (List.toArray [(.int .i64 (minV (minV d)).vars), (.int .i64 (minV (minV d)).start), (.slice nb2 ((minV (minV d)).next.length) nc2), (.slice fb2 ((minV (minV d)).final.length) fc2)]) 25 (0, 0)), rowI nb2 nc2 33 1 (vals qs2), rowI fb2 fc2 4 1 (bools (minV (minV d)).final), objI z3 (.cells (List.toArray [(.int .i64 (minV d).vars), (.int .i64 (minV d).start), (.slice nb1 ((minV d).next.length) nc1), (.slice fb1 ((minV d).final.length) fc1)]) 25 (0, 0)), rowI nb1 nc1 33 1 (vals qs1), rowI fb1 fc1 4 1 (bools (minV d).final), objI z1 (.cells (List.toArray [(.int .i64 d.vars), (.int .i64 d.start), (.slice nb d.next.length nc), (.slice fb d.final.length fc)]) 25 (0, 0))] ++ ((itms 3 qs3) ++ ((itms 3 qs2) ++ (itms 3 qs1)))) w1) => equalDFAE w1 (minV (minV d)) (minV d) nb2 nb1 fb2 fb1 nc2 nc1 fc2 fc1 (vals qs2) (vals qs1) hMM (show DfaAt w1 (minV (minV d)) nb2 (vals qs2) fb2 from ⟨hI.slOf (List.mem_of_getElem? (i := 5) rfl), hq2 ▸ hI.recs (fun q hq => List.mem_append_right _ (List.mem_append_right _ (List.mem_append_left _ (List.mem_map_of_mem (f := Rec.itm 3) hq)))), hI.slOf (List.mem_of_getElem? (i := 6) rfl)⟩) (show DfaAt w1 (minV d) nb1 (vals qs1) fb1 from ⟨hI.slOf (List.mem_of_getElem? (i := 8) rfl), hq1 ▸ hI.recs (fun q hq => List.mem_append_right _ (List.mem_append_right _ (List.mem_append_right _ (List.mem_map_of_mem (f := Rec.itm 3) hq)))), hI.slOf (List.mem_of_getElem? (i := 9) rfl)⟩) (by rw [hMM]; omega) (by rw [hMM]; exact fun r hr => by have := hmb.2.2 r hr; omega) (by rw [hMM]; omega)
            refine TO.guarded rfl rfl rfl (l_call ent20 (CallT.of_pure hk104) rfl ?_)
            clear hk104
            rintro v O' ⟨N, rfl, rfl, rfl⟩
            refine TO.quiet (q_pick1 rfl rfl) ?_
            refine TO.quiet (q_move rfl) ?_
            refine TO.guarded rfl rfl rfl (LT.of_quiet rfl rfl (q_move rfl) ?_)
            refine TO.guarded rfl rfl rfl (LT.of_quiet rfl rfl (QT.toB (q_eql rfl rfl) (decide_eq_true rfl)) ?_)
            refine TO.quiet (q_pick1 rfl rfl) ?_
            refine TO.quiet (q_move rfl) ?_
            refine TO.guarded rfl rfl rfl (LT.of_quiet rfl rfl (q_move rfl) ?_)
            refine TO.guarded rfl rfl rfl (LT.of_quiet rfl rfl (QT.toB (q_eql rfl rfl) (decide_eq_true hCR)) ?_)
            refine TO.quiet (q_pick1 rfl rfl) ?_
            refine TO.quiet (q_move rfl) ?_
            refine TO.guarded rfl rfl rfl (LT.of_quiet rfl rfl (q_move rfl) ?_)
            refine TO.guarded rfl rfl rfl (LT.of_quiet rfl rfl (q_fieldAddr Tryd.underlying25 rfl inf22 rfl rfl) ?_)
            refine TO.guarded rfl rfl rfl (LT.of_quiet rfl rfl (q_load_box 7 Tryd.underlying22 rfl rfl rfl rfl) ?_)
            refine TO.guarded rfl rfl rfl (LT.of_quiet rfl rfl (q_len Tryd.underlying22 rfl) ?_)
            refine TO.guarded rfl rfl rfl (LT.of_quiet rfl rfl (QT.toB (q_eql rfl rfl) (decide_eq_true (by omega))) ?_)
            refine TO.quiet (q_pick1 rfl rfl) ?_
            refine TO.quiet (q_move rfl) ?_
            refine TO.guarded rfl rfl rfl (LT.of_quiet rfl rfl (q_load_boxAgg 7 Tryd.underlying25 rfl inf25 rfl rfl rfl) ?_)
            have hk123 := fun (w1 : World) (hI : Inv w ([rowI lb lc 3 1 (nats (rndsV (renum d) (renum d).next.length)), objI z5 (.cells (List.toArray [(.int .i64 (renum d).vars), (.int .i64 (renum d).start), (.slice nb3 ((renum d).next.length) nc3), (.slice fb3 ((renum d).final.length) fc3)]) 25 (0, 0)), rowI nb3 nc3 33 1 (vals qs3), rowI fb3 fc3 4 1 (bools (renum d).final), objI z4 (.cells (List.toArray [(.int .i64 (minV (minV d)).vars), (.int .i64 (minV (minV d)).start), (.slice nb2 ((minV (minV d)).next.length) nc2), (.slice fb2 ((minV (minV d)).final.length) fc2)]) 25 (0, 0)), rowI nb2 nc2 33 1 (vals qs2), rowI fb2 fc2 4 1 (bools (minV (minV d)).final), objI z3 (.cells (List.toArray [(.int .i64 (minV d).vars), (.int .i64 (minV d).start), (.slice nb1 ((minV d).next.length) nc1), (.slice fb1 ((minV d).final.length) fc1)]) 25 (0, 0)), rowI nb1 nc1 33 1 (vals qs1), rowI fb1 fc1 4 1 (bools (minV d).final), objI z1 (.cells (List.toArray [(.int .i64 d.vars), (.int .i64 d.start), (.slice nb d.next.length nc), (.slice fb d.final.length fc)]) 25 (0, 0))] ++ ((itms 3 qs3) ++ ((itms 3 qs2) ++ (itms 3 qs1)))) w1) => subsetCheck w1 (minV d) nb1 fb1 nc1 fc1 (vals qs1) (show DfaAt w1 (minV d) nb1 (vals qs1) fb1 from ⟨hI.slOf (List.mem_of_getElem? (i := 8) rfl), hq1 ▸ hI.recs (fun q hq => List.mem_append_right _ (List.mem_append_right _ (List.mem_append_right _ (List.mem_map_of_mem (f := Rec.itm 3) hq)))), hI.slOf (List.mem_of_getElem? (i := 9) rfl)⟩) (by omega) (fun r hr => by have := hmb.2.2 r hr; omega) (by omega)
            refine TO.guarded rfl rfl rfl (l_call ent24 (CallT.of_pure hk123) rfl ?_)
            clear hk123
            rintro v O' ⟨N, rfl, rfl, rfl⟩
            refine TO.guarded rfl rfl rfl (LT.of_quiet rfl rfl (QT.toB (q_eql rfl rfl) (decide_eq_true hCM)) ?_)
            refine TO.quiet (q_pick1 rfl rfl) ?_
            refine TO.quiet (q_assign rfl) ?_
            refine TO.nil ?_
            refine T.ret ?_
            refine Res.drop ?_
            refine Res.one (.bool true) Tryd.results7 rfl ?_
            exact ⟨[], Sub.of (List.nil_sublist _), rfl, rfl⟩
end Go.Proofs.YthfemndklplpbaaDoor
