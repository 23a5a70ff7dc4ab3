/- Contracts of functions of the program (LawD): what each call answers and that it leaves memory as it was. Conditions: those each theorem names. -/
import Derived.Test.YthfemndklplpbaaDoorAwk
import Derived.Test.YthfemndklplpbaaDoorRun
import Derived.Test.YthfemndklplpbaaDoorDct
set_option linter.unusedSectionVars false
set_option linter.unusedSimpArgs false
set_option linter.unusedVariables false
set_option linter.unnecessarySimpa false
namespace Go.Proofs.YthfemndklplpbaaDoor
open Go.Lx Go.RowKit
set_option linter.unusedVariables false
set_option linter.unusedSimpArgs false

set_option maxHeartbeats 1000000 in
set_option maxRecDepth 20000 in
theorem cmpW (w : World) (b1 b2 : Option Addr) (c1 c2 : Nat) (xs ys : List Nat) (h1 : Sl w b1 (byts xs)) (h2 : Sl w b2 (byts ys)) (hb : ys.length < 9223372036854775807) (hx : ∀ x ∈ xs, x < 64) (hy : ∀ x ∈ ys, x < 64) (hc9 : code xs ≤ code ys) :
    PureT Tryd.prog 35 [.slice b1 xs.length c1, .slice b2 ys.length c2] w fun v N => ∃ c : Int, v = .int .i64 c ∧ c ≤ 0 ∧ N = [] := by
  refine CallT.enter Tryd.func35 rfl Tryd.ntmps35 rfl ?_
  have hlen := code_len xs ys hx hy hc9
  refine T.seq ?_
  refine T.region ?_
  refine TO.quiet (q_assign rfl) ?_
  refine TO.nil ?_
  refine T.seq ?_
  refine T.seq ?_
  refine T.region ?_
  refine TO.quiet (q_move rfl) ?_
  refine TO.quiet (q_len Tryd.underlying42 rfl) ?_
  refine TO.quiet (q_move rfl) ?_
  refine TO.quiet (q_len Tryd.underlying42 rfl) ?_
  refine TO.quiet (q_lss rfl rfl) ?_
  refine TO.nil ?_
  refine T.condP rfl (fun hc => ?_) (fun hc => ?_)
  · have hlt10 : xs.length < ys.length := by omega
    refine T.seq ?_
    refine T.region ?_
    refine TO.quiet (q_assign rfl) ?_
    refine TO.nil ?_
    refine T.ret ?_
    refine Res.one (.int .i64 (-1)) Tryd.results35 rfl ?_
    exact ⟨_, rfl, by decide, rfl⟩
  · have hge10 : ¬ xs.length < ys.length := by omega
    have hge10 : xs.length = ys.length := by omega
    refine T.skip ?_
    refine T.seq ?_
    refine T.seq ?_
    refine T.region ?_
    refine TO.quiet (q_move rfl) ?_
    refine TO.quiet (q_len Tryd.underlying42 rfl) ?_
    refine TO.quiet (q_move rfl) ?_
    refine TO.quiet (q_len Tryd.underlying42 rfl) ?_
    refine TO.quiet (q_gtr rfl rfl) ?_
    refine TO.nil ?_
    refine T.condP rfl (fun hc => ?_) (fun hc => ?_)
    · exact absurd hc (by omega)
    · have hge15 : ¬ xs.length > ys.length := by omega
      refine T.skip ?_
      refine T.seq ?_
      refine T.seq ?_
      refine T.region ?_
      refine TO.quiet (q_assign rfl) ?_
      refine TO.nil ?_
      refine T.block ?_
      refine T.loop (fun (k : Nat) ρ O => O = [] ∧ k ≤ xs.length ∧ xs.take k = ys.take k ∧ Heads [(0, (.slice b1 xs.length c1)), (1, (.slice b2 ys.length c2)), (5, .int .i64 (k : Int))] ρ) (fun k => xs.length - k) 0 ?_ ?_
      · exact ⟨rfl, Nat.zero_le _, rfl, ⟨rfl, rfl, rfl, trivial⟩⟩
      · rintro k ρ O ⟨rfl, hk, he, hH⟩
        obtain ⟨ρ0, rfl⟩ := hH.elim
        clear hH
        refine T.seq ?_
        refine T.seq ?_
        refine T.region ?_
        refine TO.quiet (q_move rfl) ?_
        refine TO.quiet (q_move rfl) ?_
        refine TO.quiet (q_len Tryd.underlying42 rfl) ?_
        refine TO.quiet (q_lss rfl rfl) ?_
        refine TO.nil ?_
        refine T.condP rfl (fun hc => ?_) (fun hc => ?_)
        · have hlt19 : k < xs.length := by omega
          have hky : k < ys.length := by omega
          refine T.skip ?_
          refine T.seq ?_
          refine T.block ?_
          refine T.seq ?_
          refine T.seq ?_
          refine T.draws _ [(0, 0), (1, 0), (2, 0), (3, 0), (4, 0), (5, 0), (6, 0), (7, 0), (8, 0)] mixed (by kernel_rfl) (Sub.of (List.Sublist.refl _)) (fun _ _ _ h => h) ?_
          refine DO.quiet rfl (q_move rfl) ?_
          refine DO.quiet rfl (q_move rfl) ?_
          refine DO.quiet rfl (q_ix (i := k) Tryd.underlying42 inf5 rfl rfl (Sl.o h1) hlt19 (by rw [List.length_map]; exact hlt19)) ?_
          refine DO.quiet rfl (q_ld Tryd.underlying5 rfl rfl (Sl.o h1) (byts_get hlt19)) ?_
          refine DO.quiet rfl (q_move rfl) ?_
          refine DO.quiet rfl (q_move rfl) ?_
          refine DO.quiet rfl (q_ix (i := k) Tryd.underlying42 inf5 rfl rfl (Sl.o h2) hky (by rw [List.length_map]; exact hky)) ?_
          refine DO.quiet rfl (q_ld Tryd.underlying5 rfl rfl (Sl.o h2) (byts_get hky)) ?_
          refine DO.quiet rfl (q_lss rfl rfl) ?_
          refine DO.done ?_
          refine T.condP rfl (fun hc => ?_) (fun hc => ?_)
          · have hlt30 : xs[k] < ys[k] := by omega
            refine T.seq ?_
            refine T.region ?_
            refine TO.quiet (q_assign rfl) ?_
            refine TO.nil ?_
            refine T.ret ?_
            refine Res.one (.int .i64 (-1)) Tryd.results35 rfl ?_
            exact ⟨_, rfl, by decide, rfl⟩
          · have hge30 : ¬ xs[k] < ys[k] := by omega
            refine T.skip ?_
            refine T.seq ?_
            refine T.draws _ [(0, 0), (1, 0), (2, 0), (3, 0), (4, 0), (5, 0), (6, 0), (7, 0), (8, 0)] mixed (by kernel_rfl) (Sub.of (List.Sublist.refl _)) (fun _ _ _ h => h) ?_
            refine DO.quiet rfl (q_move rfl) ?_
            refine DO.quiet rfl (q_move rfl) ?_
            refine DO.quiet rfl (q_ix (i := k) Tryd.underlying42 inf5 rfl rfl (Sl.o h1) hlt19 (by rw [List.length_map]; exact hlt19)) ?_
            refine DO.quiet rfl (q_ld Tryd.underlying5 rfl rfl (Sl.o h1) (byts_get hlt19)) ?_
            refine DO.quiet rfl (q_move rfl) ?_
            refine DO.quiet rfl (q_move rfl) ?_
            refine DO.quiet rfl (q_ix (i := k) Tryd.underlying42 inf5 rfl rfl (Sl.o h2) hky (by rw [List.length_map]; exact hky)) ?_
            refine DO.quiet rfl (q_ld Tryd.underlying5 rfl rfl (Sl.o h2) (byts_get hky)) ?_
            refine DO.quiet rfl (q_gtr rfl rfl) ?_
            refine DO.done ?_
            refine T.condP rfl (fun hc => ?_) (fun hc => ?_)
            · exact absurd (code_diff hge10 hlt19 hky he hy (by omega)) (by omega)
            · have hge39 : ¬ xs[k] > ys[k] := by omega
              refine T.skip ?_
              refine T.region ?_
              refine TO.quiet (q_move rfl) ?_
              refine TO.quiet (q_inc rfl rfl (by omega)) ?_
              refine TO.quiet (q_assign rfl) ?_
              refine TO.nil ?_
              have hee : xs[k] = ys[k] := by omega
              refine ⟨k + 1, by omega, rfl, by omega, ?_, ⟨rfl, rfl, rfl, trivial⟩⟩
              rw [List.take_succ_eq_append_getElem hlt19, List.take_succ_eq_append_getElem hky, he, hee]
        · have hge19 : ¬ k < xs.length := by omega
          refine T.exit ?_
          refine T.seq ?_
          refine T.region ?_
          refine TO.quiet (q_assign rfl) ?_
          refine TO.nil ?_
          refine T.ret ?_
          refine Res.one (.int .i64 0) Tryd.results35 rfl ?_
          exact ⟨_, rfl, by decide, rfl⟩

set_option maxHeartbeats 1000000 in
set_option maxRecDepth 20000 in
theorem fromC (w : World) (d : DFA) (nb fb : Option Addr) (nc fc : Nat) (vs : List Value) (h : DfaAt w d nb vs fb) (hb : d.next.length ≤ 100000) (hbr : ∀ r ∈ d.next, r.length ≤ 100000) (hbf : d.final.length ≤ 100000) (s : Int) :
    PureT Tryd.prog 34 [.agg (dfaCells d nb nc fb fc).toArray, .int .i64 s] w fun v N => ∃ nb' nc' fb' fc' qs, v = .agg (dfaCells (withS d s) nb' nc' fb' fc').toArray ∧ N = [rowI nb' nc' 33 1 (vals qs), rowI fb' fc' 4 1 (bools d.final)] ++ itms 3 qs ∧ nums qs = d.next := by
  refine CallT.enter Tryd.func34 rfl Tryd.ntmps34 rfl ?_
  refine T.seq ?_
  refine T.region ?_
  refine TO.loud rfl (l_box (v := (.agg #[(.int .i64 d.vars), (.int .i64 d.start), (.slice nb d.next.length nc), (.slice fb d.final.length fc)])) (cs := [(.int .i64 d.vars), (.int .i64 d.start), (.slice nb d.next.length nc), (.slice fb d.final.length fc)]) rfl rfl (fun b1 => ?_))
  refine TO.loud rfl (l_alloc inf25 rfl (fun b2 => ?_))
  refine TO.nil ?_
  refine T.seq ?_
  refine T.region ?_
  refine TO.quiet (q_load_boxAgg 1 Tryd.underlying25 rfl inf25 rfl rfl rfl) ?_
  have hk7 := fun (w1 : World) (hI : Inv w [objI b2 (.cells (List.toArray [(.int .i64 0), (.int .i64 0), (.slice none 0 0), (.slice none 0 0)]) 25 (0, 0)), objI b1 (.cells (List.toArray [(.int .i64 d.vars), (.int .i64 d.start), (.slice nb d.next.length nc), (.slice fb d.final.length fc)]) 25 (0, 0))] w1) => copyDFA w1 d nb fb nc fc vs (hI.dfa h) (by omega) (fun r hr => by have := hbr r hr; omega) (by omega)
  refine TO.loud rfl (l_call ent13 (CallT.of_pure hk7) rfl ?_)
  clear hk7
  rintro v O' ⟨N, rfl, nb', nc', fb', fc', qs, rfl, rfl, hq⟩
  refine TO.sub (O' := ([rowI nb' nc' 33 1 (vals qs), rowI fb' fc' 4 1 (bools d.final), objI b2 (.cells (List.toArray [(.int .i64 0), (.int .i64 0), (.slice none 0 0), (.slice none 0 0)]) 25 (0, 0)), objI b1 (.cells (List.toArray [(.int .i64 d.vars), (.int .i64 d.start), (.slice nb d.next.length nc), (.slice fb d.final.length fc)]) 25 (0, 0))] ++ (itms 3 qs))) (Sub.cnt [] (by intro a; simp only [itms, List.set_cons_zero, List.set_cons_succ, putL, List.cons_append, List.nil_append, List.append_nil, List.append_assoc, List.map_append, List.map_cons, List.map_nil, cnt_append, cnt_cons, cnt_nil] <;> omega)) ?_
  refine TO.loud rfl (l_alloc inf25 rfl (fun b3 => ?_))
  refine TO.loud rfl (l_store_box (v := (.agg #[(.int .i64 d.vars), (.int .i64 d.start), (.slice nb' d.next.length nc'), (.slice fb' d.final.length fc')])) (vs := [(.int .i64 d.vars), (.int .i64 d.start), (.slice nb' d.next.length nc'), (.slice fb' d.final.length fc')]) 0 inf25 rfl rfl rfl rfl rfl rfl (by simp [putL]) ?_)
  refine TO.nil ?_
  refine T.seq ?_
  refine T.region ?_
  refine TO.quiet (q_move rfl) ?_
  refine TO.quiet (q_fieldAddr Tryd.underlying25 rfl inf3 rfl rfl) ?_
  refine TO.loud rfl (l_store_box (v := .int .i64 s) (vs := [(.int .i64 s)]) 0 inf3 rfl rfl rfl rfl rfl rfl (by simp [putL]) ?_)
  refine TO.nil ?_
  refine T.seq ?_
  refine T.region ?_
  refine TO.quiet (q_load_boxAgg 0 Tryd.underlying25 rfl inf25 rfl rfl rfl) ?_
  refine TO.loud rfl (l_store_box (v := (.agg #[(.int .i64 d.vars), (.int .i64 s), (.slice nb' d.next.length nc'), (.slice fb' d.final.length fc')])) (vs := [(.int .i64 d.vars), (.int .i64 s), (.slice nb' d.next.length nc'), (.slice fb' d.final.length fc')]) 3 inf25 rfl rfl rfl rfl rfl rfl (by simp [putL]) ?_)
  refine TO.nil ?_
  refine T.ret ?_
  refine Res.drop ?_
  refine Res.cell1 (i := 3) Tryd.results34 Tryd.underlying25 rfl inf25 rfl rfl rfl ?_
  exact ⟨[rowI nb' nc' 33 1 (vals qs), rowI fb' fc' 4 1 (bools d.final)] ++ itms 3 qs, (by show Sub _ ([objI b3 (.cells (List.toArray [(.int .i64 d.vars), (.int .i64 s), (.slice nb' d.next.length nc'), (.slice fb' d.final.length fc')]) 25 (0, 0)), rowI nb' nc' 33 1 (vals qs), rowI fb' fc' 4 1 (bools d.final), objI b2 (.cells (List.toArray [(.int .i64 d.vars), (.int .i64 s), (.slice nb' d.next.length nc'), (.slice fb' d.final.length fc')]) 25 (0, 0)), objI b1 (.cells (List.toArray [(.int .i64 d.vars), (.int .i64 d.start), (.slice nb d.next.length nc), (.slice fb d.final.length fc)]) 25 (0, 0))] ++ itms 3 qs); exact Sub.cnt [objI b3 (.cells (List.toArray [(.int .i64 d.vars), (.int .i64 s), (.slice nb' d.next.length nc'), (.slice fb' d.final.length fc')]) 25 (0, 0)), objI b2 (.cells (List.toArray [(.int .i64 d.vars), (.int .i64 s), (.slice nb' d.next.length nc'), (.slice fb' d.final.length fc')]) 25 (0, 0)), objI b1 (.cells (List.toArray [(.int .i64 d.vars), (.int .i64 d.start), (.slice nb d.next.length nc), (.slice fb d.final.length fc)]) 25 (0, 0))] (by intro a; simp only [itms, List.set_cons_zero, List.set_cons_succ, putL, List.cons_append, List.nil_append, List.append_nil, List.append_assoc, List.map_append, List.map_cons, List.map_nil, cnt_append, cnt_cons, cnt_nil] <;> omega)), nb', nc', fb', fc', qs, rfl, rfl, hq⟩

set_option maxHeartbeats 4000000 in
set_option maxRecDepth 20000 in
theorem distinctLaw (w : World) (d : DFA) (nb fb : Option Addr) (nc fc : Nat) (vs : List Value) (h : DfaAt w d nb vs fb) (hb : d.next.length < 9223372036854775807) (hbr : ∀ r ∈ d.next, r.length < 9223372036854775807) (hbf : d.final.length < 9223372036854775807) (k1 : Int) (hk1 : 0 ≤ k1 ∧ k1 < 256) (k2 : Int) (hk2 : 0 ≤ k2 ∧ k2 < 256) (wb : Option Addr) (wc : Nat) (l : List Nat) (hW : Sl w wb (byts l)) (hwb : l.length < 9223372036854775807) (hw8 : ∀ x ∈ l, x < 256) :
    PureT Tryd.prog 9 [.agg (dfaCells d nb nc fb fc).toArray, .int .u8 k1, .int .u8 k2, .slice wb l.length wc] w fun v N => v = .bool true ∧ N = [] := by
  refine CallT.enter Tryd.func9 rfl Tryd.ntmps9 rfl ?_
  refine T.seq ?_
  refine T.region ?_
  refine TO.loud rfl (l_box (v := (.agg #[(.int .i64 d.vars), (.int .i64 d.start), (.slice nb d.next.length nc), (.slice fb d.final.length fc)])) (cs := [(.int .i64 d.vars), (.int .i64 d.start), (.slice nb d.next.length nc), (.slice fb d.final.length fc)]) rfl rfl (fun z1 => ?_))
  refine TO.quiet (q_assign rfl) ?_
  refine TO.nil ?_
  refine T.seq ?_
  refine T.seq ?_
  refine T.region ?_
  refine TO.quiet (q_load_boxAgg 0 Tryd.underlying25 rfl inf25 rfl rfl rfl) ?_
  refine TO.loud rfl (l_buildSlice (m := 1) (parts := [(0, _)]) (cs := [(.int .i64 d.vars), (.int .i64 d.start), (.slice nb d.next.length nc), (.slice fb d.final.length fc)]) Tryd.underlying58 inf25 (by decide) (by kernel_rfl) rfl (fun z2 => ?_))
  by_cases hlong : longD d = true
  · have hk26 := fun (w1 : World) (hI : Inv w [rowI (some ⟨z2, 0, none⟩) 1 25 4 [(.int .i64 d.vars), (.int .i64 d.start), (.slice nb d.next.length nc), (.slice fb d.final.length fc)], objI z1 (.cells (List.toArray [(.int .i64 d.vars), (.int .i64 d.start), (.slice nb d.next.length nc), (.slice fb d.final.length fc)]) 25 (0, 0))] w1) => long1 w1 (some ⟨z2, 0, none⟩) 1 d nb fb nc fc vs (hI.slOf (List.mem_of_getElem? (i := 0) rfl)) (hI.dfa h) hb
    refine TO.loud rfl (l_call ent10 (CallT.of_pure hk26) rfl ?_)
    clear hk26
    rintro v O' ⟨N, rfl, rfl, rfl⟩
    rw [decide_eq_true hlong]
    refine TO.quiet (q_move rfl) ?_
    refine TO.passed rfl rfl ?_
    refine TO.passed rfl rfl ?_
    refine TO.passed rfl rfl ?_
    refine TO.quiet (q_pick1 rfl rfl) ?_
    refine TO.quiet (q_move rfl) ?_
    refine TO.passed rfl rfl ?_
    refine TO.passed rfl rfl ?_
    refine TO.quiet (q_pick1 rfl rfl) ?_
    refine TO.sub (O' := [objI z1 (.cells (List.toArray [(.int .i64 d.vars), (.int .i64 d.start), (.slice nb d.next.length nc), (.slice fb d.final.length fc)]) 25 (0, 0))]) (Sub.pick [1] rfl) ?_
    refine TO.nil ?_
    refine T.cond1 rfl ?_
    refine T.seq ?_
    refine T.region ?_
    have hk36 := fun (w1 : World) (hI : Inv w [objI z1 (.cells (List.toArray [(.int .i64 d.vars), (.int .i64 d.start), (.slice nb d.next.length nc), (.slice fb d.final.length fc)]) 25 (0, 0))] w1) => awakeC w1
    refine TO.loud rfl (l_call ent12 (CallT.of_pure hk36) rfl ?_)
    clear hk36
    rintro v O' ⟨N, rfl, rfl, rfl⟩
    refine TO.quiet (q_assign rfl) ?_
    refine TO.nil ?_
    refine T.ret ?_
    refine Res.drop ?_
    refine Res.one (.bool true) Tryd.results9 rfl ?_
    exact ⟨[], Sub.of (List.nil_sublist _), rfl, rfl⟩
  · have hk26 := fun (w1 : World) (hI : Inv w [rowI (some ⟨z2, 0, none⟩) 1 25 4 [(.int .i64 d.vars), (.int .i64 d.start), (.slice nb d.next.length nc), (.slice fb d.final.length fc)], objI z1 (.cells (List.toArray [(.int .i64 d.vars), (.int .i64 d.start), (.slice nb d.next.length nc), (.slice fb d.final.length fc)]) 25 (0, 0))] w1) => long1 w1 (some ⟨z2, 0, none⟩) 1 d nb fb nc fc vs (hI.slOf (List.mem_of_getElem? (i := 0) rfl)) (hI.dfa h) hb
    refine TO.loud rfl (l_call ent10 (CallT.of_pure hk26) rfl ?_)
    clear hk26
    rintro v O' ⟨N, rfl, rfl, rfl⟩
    rw [decide_eq_false hlong]
    refine TO.quiet (q_move rfl) ?_
    refine TO.guarded rfl rfl rfl (LT.of_quiet rfl rfl (q_move rfl) ?_)
    refine TO.guarded rfl rfl rfl (LT.of_quiet rfl rfl (q_len Tryd.underlying42 rfl) ?_)
    by_cases h60 : (l.length : Int) > 60
    · refine TO.guarded rfl rfl rfl (LT.of_quiet rfl rfl (QT.toB (q_gtr rfl rfl) (decide_eq_true h60)) ?_)
      refine TO.quiet (q_pick0 rfl rfl) ?_
      refine TO.quiet (q_move rfl) ?_
      refine TO.passed rfl rfl ?_
      refine TO.passed rfl rfl ?_
      refine TO.quiet (q_pick1 rfl rfl) ?_
      refine TO.sub (O' := [objI z1 (.cells (List.toArray [(.int .i64 d.vars), (.int .i64 d.start), (.slice nb d.next.length nc), (.slice fb d.final.length fc)]) 25 (0, 0))]) (Sub.pick [1] rfl) ?_
      refine TO.nil ?_
      refine T.cond1 rfl ?_
      refine T.seq ?_
      refine T.region ?_
      have hk36 := fun (w1 : World) (hI : Inv w [objI z1 (.cells (List.toArray [(.int .i64 d.vars), (.int .i64 d.start), (.slice nb d.next.length nc), (.slice fb d.final.length fc)]) 25 (0, 0))] w1) => awakeC w1
      refine TO.loud rfl (l_call ent12 (CallT.of_pure hk36) rfl ?_)
      clear hk36
      rintro v O' ⟨N, rfl, rfl, rfl⟩
      refine TO.quiet (q_assign rfl) ?_
      refine TO.nil ?_
      refine T.ret ?_
      refine Res.drop ?_
      refine Res.one (.bool true) Tryd.results9 rfl ?_
      exact ⟨[], Sub.of (List.nil_sublist _), rfl, rfl⟩
    · refine TO.guarded rfl rfl rfl (LT.of_quiet rfl rfl (QT.toB (q_gtr rfl rfl) (decide_eq_false h60)) ?_)
      refine TO.quiet (q_pick0 rfl rfl) ?_
      refine TO.quiet (q_move rfl) ?_
      have hk33 := fun (w1 : World) (hI : Inv w [rowI (some ⟨z2, 0, none⟩) 1 25 4 [(.int .i64 d.vars), (.int .i64 d.start), (.slice nb d.next.length nc), (.slice fb d.final.length fc)], objI z1 (.cells (List.toArray [(.int .i64 d.vars), (.int .i64 d.start), (.slice nb d.next.length nc), (.slice fb d.final.length fc)]) 25 (0, 0))] w1) => awakeC w1
      refine TO.guarded rfl rfl rfl (l_call ent12 (CallT.of_pure hk33) rfl ?_)
      clear hk33
      rintro v O' ⟨N, rfl, rfl, rfl⟩
      refine TO.guarded rfl rfl rfl (LT.of_quiet rfl rfl (q_not rfl) ?_)
      refine TO.quiet (q_pick0 rfl rfl) ?_
      refine TO.sub (O' := [objI z1 (.cells (List.toArray [(.int .i64 d.vars), (.int .i64 d.start), (.slice nb d.next.length nc), (.slice fb d.final.length fc)]) 25 (0, 0))]) (Sub.pick [1] rfl) ?_
      refine TO.nil ?_
      refine T.cond0 rfl ?_
      refine T.skip ?_
      refine T.seq ?_
      obtain ⟨hB1, hB2, hB3⟩ := longD_false hlong
      have hmb := minV_bound d
      have hN : Valid d → d.next.length < 100 := fun _ => by omega
      have hMn9 : checkD d = 0 → 0 < (minV d).next.length := fun h9 => by rw [minV_valid (checkD_zero.1 h9)]; exact (minD_valid (checkD_zero.1 h9)).n0
      refine T.region ?_
      refine TO.quiet (q_load_boxAgg 0 Tryd.underlying25 rfl inf25 rfl rfl rfl) ?_
      have hk39 := fun (w1 : World) (hI : Inv w [objI z1 (.cells (List.toArray [(.int .i64 d.vars), (.int .i64 d.start), (.slice nb d.next.length nc), (.slice fb d.final.length fc)]) 25 (0, 0))] w1) => minA w1 d nb fb nc fc vs (hI.dfa h) hb hbr hbf hN
      refine TO.loud rfl (l_call ent17 (CallT.of_pure hk39) rfl ?_)
      clear hk39
      rintro v O' ⟨N, rfl, nb1, nc1, fb1, fc1, qs1, rfl, rfl, hq1⟩
      refine TO.sub (O' := ([rowI nb1 nc1 33 1 (vals qs1), rowI fb1 fc1 4 1 (bools (minV d).final), objI z1 (.cells (List.toArray [(.int .i64 d.vars), (.int .i64 d.start), (.slice nb d.next.length nc), (.slice fb d.final.length fc)]) 25 (0, 0))] ++ (itms 3 qs1))) (Sub.cnt [] (by intro a; simp only [itms, List.set_cons_zero, List.set_cons_succ, putL, List.cons_append, List.nil_append, List.append_nil, List.append_assoc, List.map_append, List.map_cons, List.map_nil, cnt_append, cnt_cons, cnt_nil] <;> omega)) ?_
      refine TO.quiet (q_move rfl) ?_
      refine TO.quiet (q_extract (vs := _) rfl rfl) ?_
      refine TO.quiet (q_extract (vs := _) rfl rfl) ?_
      refine TO.loud rfl (l_alloc inf25 rfl (fun z3 => ?_))
      refine TO.loud rfl (l_store_box (v := (.agg #[(.int .i64 (minV d).vars), (.int .i64 (minV d).start), (.slice nb1 ((minV d).next.length) nc1), (.slice fb1 ((minV d).final.length) fc1)])) (vs := [(.int .i64 (minV d).vars), (.int .i64 (minV d).start), (.slice nb1 ((minV d).next.length) nc1), (.slice fb1 ((minV d).final.length) fc1)]) 0 inf25 rfl rfl rfl rfl rfl rfl (by simp [putL]) ?_)
      refine TO.quiet (q_assign rfl) ?_
      refine TO.nil ?_
      refine T.seq ?_
      refine T.seq ?_
      refine T.region ?_
      refine TO.quiet (q_move rfl) ?_
      by_cases hE : (checkD d : Int) ≠ 0
      · refine TO.quiet (QT.toB (q_neq rfl rfl) (decide_eq_true hE)) ?_
        refine TO.quiet (q_move rfl) ?_
        refine TO.passed rfl rfl ?_
        refine TO.passed rfl rfl ?_
        refine TO.passed rfl rfl ?_
        refine TO.passed rfl rfl ?_
        refine TO.quiet (q_pick1 rfl rfl) ?_
        refine TO.nil ?_
        
        refine T.cond1 rfl ?_
        refine T.seq ?_
        refine T.region ?_
        refine TO.quiet (q_load_boxAgg 3 Tryd.underlying25 rfl inf25 rfl rfl rfl) ?_
        have hk51 := fun (w1 : World) (hI : Inv w ([objI z3 (.cells (List.toArray [(.int .i64 (minV d).vars), (.int .i64 (minV d).start), (.slice nb1 ((minV d).next.length) nc1), (.slice fb1 ((minV d).final.length) fc1)]) 25 (0, 0)), rowI nb1 nc1 33 1 (vals qs1), rowI fb1 fc1 4 1 (bools (minV d).final), objI z1 (.cells (List.toArray [(.int .i64 d.vars), (.int .i64 d.start), (.slice nb d.next.length nc), (.slice fb d.final.length fc)]) 25 (0, 0))] ++ (itms 3 qs1)) w1) => subsetCheck w1 d nb fb nc fc vs (hI.dfa h) hb hbr hbf
        refine TO.loud rfl (l_call ent24 (CallT.of_pure hk51) rfl ?_)
        clear hk51
        rintro v O' ⟨N, rfl, rfl, rfl⟩
        refine TO.quiet (q_move rfl) ?_
        refine TO.quiet (QT.toB (q_eql rfl rfl) (decide_eq_true rfl)) ?_
        refine TO.quiet (q_move rfl) ?_
        refine TO.guarded rfl rfl rfl (LT.of_quiet rfl rfl (q_move rfl) ?_)
        refine TO.guarded rfl rfl rfl (LT.of_quiet rfl rfl (QT.toB (q_neq rfl rfl) (decide_eq_true hE)) ?_)
        refine TO.quiet (q_pick1 rfl rfl) ?_
        refine TO.quiet (q_assign rfl) ?_
        refine TO.nil ?_
        refine T.ret ?_
        refine Res.drop ?_
        refine Res.one (.bool true) Tryd.results9 rfl ?_
        exact ⟨[], Sub.of (List.nil_sublist _), rfl, rfl⟩
      · refine TO.quiet (QT.toB (q_neq rfl rfl) (decide_eq_false hE)) ?_
        refine TO.quiet (q_move rfl) ?_
        refine TO.guarded rfl rfl rfl (LT.of_quiet rfl rfl (q_fieldAddr Tryd.underlying25 rfl inf22 rfl rfl) ?_)
        refine TO.guarded rfl rfl rfl (LT.of_quiet rfl rfl (q_load_box 0 Tryd.underlying22 rfl rfl rfl rfl) ?_)
        refine TO.guarded rfl rfl rfl (LT.of_quiet rfl rfl (q_len Tryd.underlying22 rfl) ?_)
        refine TO.guarded rfl rfl rfl (LT.of_quiet rfl rfl (QT.toB (q_eql rfl rfl) (decide_eq_false (by have := hMn9 (by omega); omega))) ?_)
        refine TO.quiet (q_pick0 rfl rfl) ?_
        refine TO.nil ?_
        
        refine T.cond0 rfl ?_
        refine T.skip ?_
        refine T.seq ?_
        have hv : Valid d := checkD_zero.1 (by omega)
        have hM := minV_valid hv
        have hvM : Valid (minV d) := by rw [hM]; exact minD_valid hv
        have hMn := hvM.n0
        have hMi : (0 : Int) < ((minV d).next.length : Int) := by omega
        obtain ⟨p, hpd⟩ : ∃ p : Nat, k1.tmod ((minV d).next.length : Int) = (p : Int) := ⟨(k1.tmod ((minV d).next.length : Int)).toNat, by have := Int.tmod_nonneg ((minV d).next.length : Int) hk1.1; omega⟩
        obtain ⟨q, hqd⟩ : ∃ q : Nat, k2.tmod ((minV d).next.length : Int) = (q : Int) := ⟨(k2.tmod ((minV d).next.length : Int)).toNat, by have := Int.tmod_nonneg ((minV d).next.length : Int) hk2.1; omega⟩
        have hpM : p < (minV d).next.length := by have := Int.tmod_lt_of_pos k1 hMi; omega
        have hqM : q < (minV d).next.length := by have := Int.tmod_lt_of_pos k2 hMi; omega
        refine T.draws _ [(0, 0), (1, 0), (2, 0), (3, 0), (4, 0), (5, 0), (6, 0), (7, 0), (8, 0), (9, 0), (10, 0), (11, 0), (12, 0), (13, 0)] mixed (by kernel_rfl) (Sub.of (List.Sublist.refl _)) (fun _ _ _ h => h) ?_
        refine DO.quiet rfl (q_move rfl) ?_
        refine DO.quiet rfl (q_conv_id Tryd.underlying5 Tryd.underlying3 rfl (wrap64_id ⟨by omega, by omega⟩)) ?_
        refine DO.quiet rfl (q_fieldAddr Tryd.underlying25 rfl inf22 rfl rfl) ?_
        refine DO.quiet rfl (q_load_box 0 Tryd.underlying22 rfl rfl rfl rfl) ?_
        refine DO.quiet rfl (q_len Tryd.underlying22 rfl) ?_
        refine DO.quiet rfl (QT.cast (q_rem rfl rfl (by omega)) (v' := .int .i64 (p : Int)) (show Value.int _ _ = _ by rw [hpd])) ?_
        refine DO.quiet rfl (q_move rfl) ?_
        refine DO.quiet rfl (q_conv_id Tryd.underlying5 Tryd.underlying3 rfl (wrap64_id ⟨by omega, by omega⟩)) ?_
        refine DO.quiet rfl (q_fieldAddr Tryd.underlying25 rfl inf22 rfl rfl) ?_
        refine DO.quiet rfl (q_load_box 0 Tryd.underlying22 rfl rfl rfl rfl) ?_
        refine DO.quiet rfl (q_len Tryd.underlying22 rfl) ?_
        refine DO.quiet rfl (QT.cast (q_rem rfl rfl (by omega)) (v' := .int .i64 (q : Int)) (show Value.int _ _ = _ by rw [hqd])) ?_
        refine DO.quiet rfl (q_assign rfl) ?_
        refine DO.quiet rfl (q_assign rfl) ?_
        refine DO.done ?_
        refine T.seq ?_
        refine T.region ?_
        refine TO.quiet (q_load_boxAgg 0 Tryd.underlying25 rfl inf25 rfl rfl rfl) ?_
        refine TO.quiet (q_move rfl) ?_
        refine TO.quiet (q_move rfl) ?_
        have hk74 := fun (w1 : World) (hI : Inv w ([objI z3 (.cells (List.toArray [(.int .i64 (minV d).vars), (.int .i64 (minV d).start), (.slice nb1 ((minV d).next.length) nc1), (.slice fb1 ((minV d).final.length) fc1)]) 25 (0, 0)), rowI nb1 nc1 33 1 (vals qs1), rowI fb1 fc1 4 1 (bools (minV d).final), objI z1 (.cells (List.toArray [(.int .i64 d.vars), (.int .i64 d.start), (.slice nb d.next.length nc), (.slice fb d.final.length fc)]) 25 (0, 0))] ++ (itms 3 qs1)) w1) => distA w1 (minV d) nb1 fb1 nc1 fc1 (vals qs1) (show DfaAt w1 (minV d) nb1 (vals qs1) fb1 from ⟨hI.slOf (List.mem_of_getElem? (i := 1) rfl), (show nums qs1 = ((minV d)).next from hq1) ▸ hI.recs (fun q hq => List.mem_append_right _ (List.mem_map_of_mem (f := Rec.itm 3) hq)), hI.slOf (List.mem_of_getElem? (i := 2) rfl)⟩) (by omega) (fun r hr => by have := hmb.2.2 r hr; omega) (by omega) (fun _ => by omega) (p : Int) (q : Int)
        refine TO.loud rfl (l_call ent25 (CallT.of_pure hk74) rfl ?_)
        clear hk74
        rintro v O' ⟨N, rfl, res, ub, uc, hT, rfl, rfl⟩
        refine TO.quiet (q_move rfl) ?_
        refine TO.quiet (q_extract (vs := _) rfl rfl) ?_
        refine TO.quiet (q_extract (vs := _) rfl rfl) ?_
        refine TO.quiet (q_extract (vs := _) rfl rfl) ?_
        refine TO.quiet (q_assign rfl) ?_
        refine TO.quiet (q_assign rfl) ?_
        refine TO.quiet (q_assign rfl) ?_
        refine TO.nil ?_
        refine T.seq ?_
        refine T.seq ?_
        have heD : ((eD (minV d) p q : Nat) : Int) = 0 := by rw [eD_zero.2 ⟨hvM, by omega, by omega, by omega, by omega⟩]; rfl
        have hTl : Tell (minV d) p q res := hT.tell hvM hpM hqM
        have hap : res.isSome = true ↔ p ≠ q := by
          rw [hM] at hTl hpM hqM
          exact minD_apart hv hpM hqM hTl
        have hnone : ¬ res.isSome = true → res = none := fun h9 => by cases res with
          | none => rfl
          | some u => exact absurd rfl h9
        have hLs : res.isSome = true → IsLeast (minV d) p q (res.getD []) := fun h9 => by cases res with
          | none => cases h9
          | some u => exact hTl
        have hul : res.isSome = true → (res.getD []).length < (minV d).next.length := fun h9 => by cases res with
          | none => cases h9
          | some u => exact Tell.lt hvM hpM hqM hTl
        have hvp := withS_valid hvM hpM
        have hvq := withS_valid hvM hqM
        have hup : res.isSome = true → runE (withS (minV d) (p : Int)) (res.getD []) = 0 := fun h9 => runE_zero.2 ⟨hvp, by have := hul h9; omega, (hLs h9).wd⟩
        have huq : res.isSome = true → runE (withS (minV d) (q : Int)) (res.getD []) = 0 := fun h9 => runE_zero.2 ⟨hvq, by have := hul h9; omega, (hLs h9).wd⟩
        have hee : runE (withS (minV d) (p : Int)) l = runE (withS (minV d) (q : Int)) l := withS_runE hvM hpM hqM l
        have hulen : (res.getD []).length < 9223372036854775807 := by
          by_cases h9 : res.isSome = true
          · have := hul h9; omega
          · rw [hnone h9]; exact (by decide : 0 < 9223372036854775807)
        have hu64 : ∀ x ∈ res.getD [], x < 64 := by
          by_cases h9 : res.isSome = true
          · exact hvM.wd64 (hLs h9).wd
          · rw [hnone h9]; exact fun x hx => (List.not_mem_nil hx).elim
        have hu8 : ∀ x ∈ res.getD [], x < 256 := fun x hx => by have := hu64 x hx; omega
        have hl64 : ¬ ((runE (withS (minV d) (p : Int)) l : Nat) : Int) ≠ 0 → ∀ x ∈ l, x < 64 := fun h9 => hvM.wd64 (d := minV d) (show Wd (minV d) l from (runE_zero.1 (show runE (withS (minV d) (p : Int)) l = 0 by omega)).2.2)
        have hcd9 : res.isSome = true → ¬ ((runE (withS (minV d) (p : Int)) l : Nat) : Int) ≠ 0 → ¬ accV (withS (minV d) (p : Int)) l = accV (withS (minV d) (q : Int)) l → code (res.getD []) ≤ code l := fun h9 hi hxy => by
          have e0 : runE (withS (minV d) (p : Int)) l = 0 := by omega
          have e1 : runE (withS (minV d) (q : Int)) l = 0 := by rw [← hee]; exact e0
          rw [withS_acc hvM hpM e0, withS_acc hvM hqM e1] at hxy
          exact (hLs h9).le l (runE_zero.1 e0).2.2 hxy
        have hacc : res.isSome = true → (accV (withS (minV d) (p : Int)) (res.getD []) != accV (withS (minV d) (q : Int)) (res.getD [])) = true := fun h9 => by
          rw [withS_acc hvM hpM (hup h9), withS_acc hvM hqM (huq h9), bne_iff_ne]
          exact (hLs h9).dst
        refine T.region ?_
        refine TO.quiet (q_move rfl) ?_
        refine TO.quiet (QT.toB (q_neq rfl rfl) (decide_eq_false (fun h9 => h9 heD))) ?_
        refine TO.quiet (q_move rfl) ?_
        refine TO.guarded rfl rfl rfl (LT.of_quiet rfl rfl (q_move rfl) ?_)
        refine TO.guarded rfl rfl rfl (LT.of_quiet rfl rfl (q_move rfl) ?_)
        refine TO.guarded rfl rfl rfl (LT.of_quiet rfl rfl (q_move rfl) ?_)
        refine TO.guarded rfl rfl rfl (LT.of_quiet rfl rfl (q_neq rfl rfl) ?_)
        refine TO.guarded rfl rfl rfl (LT.of_quiet rfl rfl (QT.cast (q_bneq Tryd.underlying4 rfl rfl) (v' := .bool false) (show Value.bool (res.isSome != decide ((p : Int) ≠ (q : Int))) = _ from congrArg Value.bool (bne_eq_false_iff_eq.2 (Bool.eq_iff_iff.2 (hap.trans (Iff.trans ⟨fun h9 e => h9 (by omega), fun h9 e => h9 (by omega)⟩ (decide_eq_true_iff (p := (p : Int) ≠ (q : Int))).symm)))))) ?_)
        refine TO.quiet (q_pick0 rfl rfl) ?_
        refine TO.nil ?_
        refine T.cond0 rfl ?_
        refine T.skip ?_
        refine T.seq ?_
        refine T.seq ?_
        refine T.region ?_
        by_cases his : res.isSome = true
        · refine TO.quiet (QT.toB (QT.cast (q_move rfl) (v' := .bool (decide (res.isSome = true))) (show Value.bool res.isSome = _ from congrArg Value.bool (by simp))) (decide_eq_true his)) ?_
          refine TO.quiet (q_not rfl) ?_
          refine TO.nil ?_
          refine T.cond0 rfl ?_
          refine T.skip ?_
          refine T.seq ?_
          have hcd := hcd9 his
          refine T.region ?_
          refine TO.quiet (q_load_boxAgg 1 Tryd.underlying25 rfl inf25 rfl rfl rfl) ?_
          refine TO.quiet (q_move rfl) ?_
          have hk95 := fun (w1 : World) (hI : Inv w ([rowI ub uc 5 1 (byts (res.getD [])), objI z3 (.cells (List.toArray [(.int .i64 (minV d).vars), (.int .i64 (minV d).start), (.slice nb1 ((minV d).next.length) nc1), (.slice fb1 ((minV d).final.length) fc1)]) 25 (0, 0)), rowI nb1 nc1 33 1 (vals qs1), rowI fb1 fc1 4 1 (bools (minV d).final), objI z1 (.cells (List.toArray [(.int .i64 d.vars), (.int .i64 d.start), (.slice nb d.next.length nc), (.slice fb d.final.length fc)]) 25 (0, 0))] ++ (itms 3 qs1)) w1) => fromC w1 (minV d) nb1 fb1 nc1 fc1 (vals qs1) (show DfaAt w1 (minV d) nb1 (vals qs1) fb1 from ⟨hI.slOf (List.mem_of_getElem? (i := 2) rfl), (show nums qs1 = ((minV d)).next from hq1) ▸ hI.recs (fun q hq => List.mem_append_right _ (List.mem_map_of_mem (f := Rec.itm 3) hq)), hI.slOf (List.mem_of_getElem? (i := 3) rfl)⟩) (by omega) (fun r hr => by have := hmb.2.2 r hr; omega) (by omega) (p : Int)
          refine TO.loud rfl (l_call ent34 (CallT.of_pure hk95) rfl ?_)
          clear hk95
          rintro v O' ⟨N, rfl, nb2, nc2, fb2, fc2, qs2, rfl, rfl, hq2⟩
          refine TO.sub (O' := ([rowI nb2 nc2 33 1 (vals qs2), rowI fb2 fc2 4 1 (bools (minV d).final), rowI ub uc 5 1 (byts (res.getD [])), objI z3 (.cells (List.toArray [(.int .i64 (minV d).vars), (.int .i64 (minV d).start), (.slice nb1 ((minV d).next.length) nc1), (.slice fb1 ((minV d).final.length) fc1)]) 25 (0, 0)), rowI nb1 nc1 33 1 (vals qs1), rowI fb1 fc1 4 1 (bools (minV d).final), objI z1 (.cells (List.toArray [(.int .i64 d.vars), (.int .i64 d.start), (.slice nb d.next.length nc), (.slice fb d.final.length fc)]) 25 (0, 0))] ++ ((itms 3 qs2) ++ (itms 3 qs1)))) (Sub.cnt [] (by intro a; simp only [itms, List.set_cons_zero, List.set_cons_succ, putL, List.cons_append, List.nil_append, List.append_nil, List.append_assoc, List.map_append, List.map_cons, List.map_nil, cnt_append, cnt_cons, cnt_nil] <;> omega)) ?_
          refine TO.quiet (q_move rfl) ?_
          have hk97 := fun (w1 : World) (hI : Inv w ([rowI nb2 nc2 33 1 (vals qs2), rowI fb2 fc2 4 1 (bools (minV d).final), rowI ub uc 5 1 (byts (res.getD [])), objI z3 (.cells (List.toArray [(.int .i64 (minV d).vars), (.int .i64 (minV d).start), (.slice nb1 ((minV d).next.length) nc1), (.slice fb1 ((minV d).final.length) fc1)]) 25 (0, 0)), rowI nb1 nc1 33 1 (vals qs1), rowI fb1 fc1 4 1 (bools (minV d).final), objI z1 (.cells (List.toArray [(.int .i64 d.vars), (.int .i64 d.start), (.slice nb d.next.length nc), (.slice fb d.final.length fc)]) 25 (0, 0))] ++ ((itms 3 qs2) ++ (itms 3 qs1))) w1) => acceptsA w1 (withS (minV d) (p : Int)) nb2 fb2 nc2 fc2 (vals qs2) (show DfaAt w1 (withS (minV d) (p : Int)) nb2 (vals qs2) fb2 from ⟨hI.slOf (List.mem_of_getElem? (i := 0) rfl), (show nums qs2 = ((withS (minV d) (p : Int))).next from hq2) ▸ hI.recs (fun q hq => List.mem_append_right _ (List.mem_append_left _ (List.mem_map_of_mem (f := Rec.itm 3) hq))), hI.slOf (List.mem_of_getElem? (i := 1) rfl)⟩) (show (minV d).next.length < 9223372036854775807 by omega) (fun r hr => by have := hmb.2.2 r hr; omega) (show (minV d).final.length < 9223372036854775807 by omega) ub uc (res.getD []) (hI.slOf (List.mem_of_getElem? (i := 2) rfl)) (by omega) hu8
          refine TO.loud rfl (l_call ent32 (CallT.of_pure hk97) rfl ?_)
          clear hk97
          rintro v O' ⟨N, rfl, rfl, rfl⟩
          refine TO.quiet (q_move rfl) ?_
          refine TO.quiet (q_extract (vs := _) rfl rfl) ?_
          refine TO.quiet (q_extract (vs := _) rfl rfl) ?_
          refine TO.quiet (q_assign rfl) ?_
          refine TO.quiet (q_assign rfl) ?_
          refine TO.nil ?_
          refine T.seq ?_
          refine T.region ?_
          refine TO.quiet (q_load_boxAgg 3 Tryd.underlying25 rfl inf25 rfl rfl rfl) ?_
          refine TO.quiet (q_move rfl) ?_
          have hk103 := fun (w1 : World) (hI : Inv w ([rowI nb2 nc2 33 1 (vals qs2), rowI fb2 fc2 4 1 (bools (minV d).final), rowI ub uc 5 1 (byts (res.getD [])), objI z3 (.cells (List.toArray [(.int .i64 (minV d).vars), (.int .i64 (minV d).start), (.slice nb1 ((minV d).next.length) nc1), (.slice fb1 ((minV d).final.length) fc1)]) 25 (0, 0)), rowI nb1 nc1 33 1 (vals qs1), rowI fb1 fc1 4 1 (bools (minV d).final), objI z1 (.cells (List.toArray [(.int .i64 d.vars), (.int .i64 d.start), (.slice nb d.next.length nc), (.slice fb d.final.length fc)]) 25 (0, 0))] ++ ((itms 3 qs2) ++ (itms 3 qs1))) w1) => fromC w1 (minV d) nb1 fb1 nc1 fc1 (vals qs1) (show DfaAt w1 (minV d) nb1 (vals qs1) fb1 from ⟨hI.slOf (List.mem_of_getElem? (i := 4) rfl), (show nums qs1 = ((minV d)).next from hq1) ▸ hI.recs (fun q hq => List.mem_append_right _ (List.mem_append_right _ (List.mem_map_of_mem (f := Rec.itm 3) hq))), hI.slOf (List.mem_of_getElem? (i := 5) rfl)⟩) (by omega) (fun r hr => by have := hmb.2.2 r hr; omega) (by omega) (q : Int)
          refine TO.loud rfl (l_call ent34 (CallT.of_pure hk103) rfl ?_)
          clear hk103
          rintro v O' ⟨N, rfl, nb3, nc3, fb3, fc3, qs3, rfl, rfl, hq3⟩
          refine TO.sub (O' := ([rowI nb3 nc3 33 1 (vals qs3), rowI fb3 fc3 4 1 (bools (minV d).final), rowI nb2 nc2 33 1 (vals qs2), rowI fb2 fc2 4 1 (bools (minV d).final), rowI ub uc 5 1 (byts (res.getD [])), objI z3 (.cells (List.toArray [(.int .i64 (minV d).vars), (.int .i64 (minV d).start), (.slice nb1 ((minV d).next.length) nc1), (.slice fb1 ((minV d).final.length) fc1)]) 25 (0, 0)), rowI nb1 nc1 33 1 (vals qs1), rowI fb1 fc1 4 1 (bools (minV d).final), objI z1 (.cells (List.toArray [(.int .i64 d.vars), (.int .i64 d.start), (.slice nb d.next.length nc), (.slice fb d.final.length fc)]) 25 (0, 0))] ++ ((itms 3 qs3) ++ ((itms 3 qs2) ++ (itms 3 qs1))))) (Sub.cnt [] (by intro a; simp only [itms, List.set_cons_zero, List.set_cons_succ, putL, List.cons_append, List.nil_append, List.append_nil, List.append_assoc, List.map_append, List.map_cons, List.map_nil, cnt_append, cnt_cons, cnt_nil] <;> omega)) ?_
          refine TO.quiet (q_move rfl) ?_
          have hk105 := fun (w1 : World) (hI : Inv w ([rowI nb3 nc3 33 1 (vals qs3), rowI fb3 fc3 4 1 (bools (minV d).final), rowI nb2 nc2 33 1 (vals qs2), rowI fb2 fc2 4 1 (bools (minV d).final), rowI ub uc 5 1 (byts (res.getD [])), objI z3 (.cells (List.toArray [(.int .i64 (minV d).vars), (.int .i64 (minV d).start), (.slice nb1 ((minV d).next.length) nc1), (.slice fb1 ((minV d).final.length) fc1)]) 25 (0, 0)), rowI nb1 nc1 33 1 (vals qs1), rowI fb1 fc1 4 1 (bools (minV d).final), objI z1 (.cells (List.toArray [(.int .i64 d.vars), (.int .i64 d.start), (.slice nb d.next.length nc), (.slice fb d.final.length fc)]) 25 (0, 0))] ++ ((itms 3 qs3) ++ ((itms 3 qs2) ++ (itms 3 qs1)))) w1) => acceptsA w1 (withS (minV d) (q : Int)) nb3 fb3 nc3 fc3 (vals qs3) (show DfaAt w1 (withS (minV d) (q : Int)) nb3 (vals qs3) fb3 from ⟨hI.slOf (List.mem_of_getElem? (i := 0) rfl), (show nums qs3 = ((withS (minV d) (q : Int))).next from hq3) ▸ hI.recs (fun q hq => List.mem_append_right _ (List.mem_append_left _ (List.mem_map_of_mem (f := Rec.itm 3) hq))), hI.slOf (List.mem_of_getElem? (i := 1) rfl)⟩) (show (minV d).next.length < 9223372036854775807 by omega) (fun r hr => by have := hmb.2.2 r hr; omega) (show (minV d).final.length < 9223372036854775807 by omega) ub uc (res.getD []) (hI.slOf (List.mem_of_getElem? (i := 4) rfl)) (by omega) hu8
          refine TO.loud rfl (l_call ent32 (CallT.of_pure hk105) rfl ?_)
          clear hk105
          rintro v O' ⟨N, rfl, rfl, rfl⟩
          refine TO.quiet (q_move rfl) ?_
          refine TO.quiet (q_extract (vs := _) rfl rfl) ?_
          refine TO.quiet (q_extract (vs := _) rfl rfl) ?_
          refine TO.quiet (q_assign rfl) ?_
          refine TO.quiet (q_assign rfl) ?_
          refine TO.nil ?_
          refine T.seq ?_
          refine T.region ?_
          refine TO.quiet (q_load_boxAgg 5 Tryd.underlying25 rfl inf25 rfl rfl rfl) ?_
          refine TO.quiet (q_move rfl) ?_
          have hk111 := fun (w1 : World) (hI : Inv w ([rowI nb3 nc3 33 1 (vals qs3), rowI fb3 fc3 4 1 (bools (minV d).final), rowI nb2 nc2 33 1 (vals qs2), rowI fb2 fc2 4 1 (bools (minV d).final), rowI ub uc 5 1 (byts (res.getD [])), objI z3 (.cells (List.toArray [(.int .i64 (minV d).vars), (.int .i64 (minV d).start), (.slice nb1 ((minV d).next.length) nc1), (.slice fb1 ((minV d).final.length) fc1)]) 25 (0, 0)), rowI nb1 nc1 33 1 (vals qs1), rowI fb1 fc1 4 1 (bools (minV d).final), objI z1 (.cells (List.toArray [(.int .i64 d.vars), (.int .i64 d.start), (.slice nb d.next.length nc), (.slice fb d.final.length fc)]) 25 (0, 0))] ++ ((itms 3 qs3) ++ ((itms 3 qs2) ++ (itms 3 qs1)))) w1) => fromC w1 (minV d) nb1 fb1 nc1 fc1 (vals qs1) (show DfaAt w1 (minV d) nb1 (vals qs1) fb1 from ⟨hI.slOf (List.mem_of_getElem? (i := 6) rfl), (show nums qs1 = ((minV d)).next from hq1) ▸ hI.recs (fun q hq => List.mem_append_right _ (List.mem_append_right _ (List.mem_append_right _ (List.mem_map_of_mem (f := Rec.itm 3) hq)))), hI.slOf (List.mem_of_getElem? (i := 7) rfl)⟩) (by omega) (fun r hr => by have := hmb.2.2 r hr; omega) (by omega) (p : Int)
          refine TO.loud rfl (l_call ent34 (CallT.of_pure hk111) rfl ?_)
          clear hk111
          rintro v O' ⟨N, rfl, nb4, nc4, fb4, fc4, qs4, rfl, rfl, hq4⟩
          refine TO.sub (O' := ([rowI nb4 nc4 33 1 (vals qs4), rowI fb4 fc4 4 1 (bools (minV d).final), rowI nb3 nc3 33 1 (vals qs3), rowI fb3 fc3 4 1 (bools (minV d).final), rowI nb2 nc2 33 1 (vals qs2), rowI fb2 fc2 4 1 (bools (minV d).final), rowI ub uc 5 1 (byts (res.getD [])), objI z3 (.cells (List.toArray [(.int .i64 (minV d).vars), (.int .i64 (minV d).start), (.slice nb1 ((minV d).next.length) nc1), (.slice fb1 ((minV d).final.length) fc1)]) 25 (0, 0)), rowI nb1 nc1 33 1 (vals qs1), rowI fb1 fc1 4 1 (bools (minV d).final), objI z1 (.cells (List.toArray [(.int .i64 d.vars), (.int .i64 d.start), (.slice nb d.next.length nc), (.slice fb d.final.length fc)]) 25 (0, 0))] ++ ((itms 3 qs4) ++ ((itms 3 qs3) ++ ((itms 3 qs2) ++ (itms 3 qs1)))))) (Sub.cnt [] (by intro a; simp only [itms, List.set_cons_zero, List.set_cons_succ, putL, List.cons_append, List.nil_append, List.append_nil, List.append_assoc, List.map_append, List.map_cons, List.map_nil, cnt_append, cnt_cons, cnt_nil] <;> omega)) ?_
          refine TO.quiet (q_move rfl) ?_
          have hk113 := fun (w1 : World) (hI : Inv w ([rowI nb4 nc4 33 1 (vals qs4), rowI fb4 fc4 4 1 (bools (minV d).final), rowI nb3 nc3 33 1 (vals qs3), rowI fb3 fc3 4 1 (bools (minV d).final), rowI nb2 nc2 33 1 (vals qs2), rowI fb2 fc2 4 1 (bools (minV d).final), rowI ub uc 5 1 (byts (res.getD [])), objI z3 (.cells (List.toArray [(.int .i64 (minV d).vars), (.int .i64 (minV d).start), (.slice nb1 ((minV d).next.length) nc1), (.slice fb1 ((minV d).final.length) fc1)]) 25 (0, 0)), rowI nb1 nc1 33 1 (vals qs1), rowI fb1 fc1 4 1 (bools (minV d).final), objI z1 (.cells (List.toArray [(.int .i64 d.vars), (.int .i64 d.start), (.slice nb d.next.length nc), (.slice fb d.final.length fc)]) 25 (0, 0))] ++ ((itms 3 qs4) ++ ((itms 3 qs3) ++ ((itms 3 qs2) ++ (itms 3 qs1))))) w1) => acceptsA w1 (withS (minV d) (p : Int)) nb4 fb4 nc4 fc4 (vals qs4) (show DfaAt w1 (withS (minV d) (p : Int)) nb4 (vals qs4) fb4 from ⟨hI.slOf (List.mem_of_getElem? (i := 0) rfl), (show nums qs4 = ((withS (minV d) (p : Int))).next from hq4) ▸ hI.recs (fun q hq => List.mem_append_right _ (List.mem_append_left _ (List.mem_map_of_mem (f := Rec.itm 3) hq))), hI.slOf (List.mem_of_getElem? (i := 1) rfl)⟩) (show (minV d).next.length < 9223372036854775807 by omega) (fun r hr => by have := hmb.2.2 r hr; omega) (show (minV d).final.length < 9223372036854775807 by omega) wb wc l (hI.sl hW) hwb hw8
          refine TO.loud rfl (l_call ent32 (CallT.of_pure hk113) rfl ?_)
          clear hk113
          rintro v O' ⟨N, rfl, rfl, rfl⟩
          refine TO.quiet (q_move rfl) ?_
          refine TO.quiet (q_extract (vs := _) rfl rfl) ?_
          refine TO.quiet (q_extract (vs := _) rfl rfl) ?_
          refine TO.quiet (q_assign rfl) ?_
          refine TO.quiet (q_assign rfl) ?_
          refine TO.nil ?_
          refine T.seq ?_
          refine T.region ?_
          refine TO.quiet (q_load_boxAgg 7 Tryd.underlying25 rfl inf25 rfl rfl rfl) ?_
          refine TO.quiet (q_move rfl) ?_
          have hk119 := fun (w1 : World) (hI : Inv w ([rowI nb4 nc4 33 1 (vals qs4), rowI fb4 fc4 4 1 (bools (minV d).final), rowI nb3 nc3 33 1 (vals qs3), rowI fb3 fc3 4 1 (bools (minV d).final), rowI nb2 nc2 33 1 (vals qs2), rowI fb2 fc2 4 1 (bools (minV d).final), rowI ub uc 5 1 (byts (res.getD [])), objI z3 (.cells (List.toArray [(.int .i64 (minV d).vars), (.int .i64 (minV d).start), (.slice nb1 ((minV d).next.length) nc1), (.slice fb1 ((minV d).final.length) fc1)]) 25 (0, 0)), rowI nb1 nc1 33 1 (vals qs1), rowI fb1 fc1 4 1 (bools (minV d).final), objI z1 (.cells (List.toArray [(.int .i64 d.vars), (.int .i64 d.start), (.slice nb d.next.length nc), (.slice fb d.final.length fc)]) 25 (0, 0))] ++ ((itms 3 qs4) ++ ((itms 3 qs3) ++ ((itms 3 qs2) ++ (itms 3 qs1))))) w1) => fromC w1 (minV d) nb1 fb1 nc1 fc1 (vals qs1) (show DfaAt w1 (minV d) nb1 (vals qs1) fb1 from ⟨hI.slOf (List.mem_of_getElem? (i := 8) rfl), (show nums qs1 = ((minV d)).next from hq1) ▸ hI.recs (fun q hq => List.mem_append_right _ (List.mem_append_right _ (List.mem_append_right _ (List.mem_append_right _ (List.mem_map_of_mem (f := Rec.itm 3) hq))))), hI.slOf (List.mem_of_getElem? (i := 9) rfl)⟩) (by omega) (fun r hr => by have := hmb.2.2 r hr; omega) (by omega) (q : Int)
          refine TO.loud rfl (l_call ent34 (CallT.of_pure hk119) rfl ?_)
          clear hk119
          rintro v O' ⟨N, rfl, nb5, nc5, fb5, fc5, qs5, rfl, rfl, hq5⟩
          refine TO.sub (O' := ([rowI nb5 nc5 33 1 (vals qs5), rowI fb5 fc5 4 1 (bools (minV d).final), rowI nb4 nc4 33 1 (vals qs4), rowI fb4 fc4 4 1 (bools (minV d).final), rowI nb3 nc3 33 1 (vals qs3), rowI fb3 fc3 4 1 (bools (minV d).final), rowI nb2 nc2 33 1 (vals qs2), rowI fb2 fc2 4 1 (bools (minV d).final), rowI ub uc 5 1 (byts (res.getD [])), objI z3 (.cells (List.toArray [(.int .i64 (minV d).vars), (.int .i64 (minV d).start), (.slice nb1 ((minV d).next.length) nc1), (.slice fb1 ((minV d).final.length) fc1)]) 25 (0, 0)), rowI nb1 nc1 33 1 (vals qs1), rowI fb1 fc1 4 1 (bools (minV d).final), objI z1 (.cells (List.toArray [(.int .i64 d.vars), (.int .i64 d.start), (.slice nb d.next.length nc), (.slice fb d.final.length fc)]) 25 (0, 0))] ++ ((itms 3 qs5) ++ ((itms 3 qs4) ++ ((itms 3 qs3) ++ ((itms 3 qs2) ++ (itms 3 qs1))))))) (Sub.cnt [] (by intro a; simp only [itms, List.set_cons_zero, List.set_cons_succ, putL, List.cons_append, List.nil_append, List.append_nil, List.append_assoc, List.map_append, List.map_cons, List.map_nil, cnt_append, cnt_cons, cnt_nil] <;> omega)) ?_
          refine TO.quiet (q_move rfl) ?_
          have hk121 := fun (w1 : World) (hI : Inv w ([rowI nb5 nc5 33 1 (vals qs5), rowI fb5 fc5 4 1 (bools (minV d).final), rowI nb4 nc4 33 1 (vals qs4), rowI fb4 fc4 4 1 (bools (minV d).final), rowI nb3 nc3 33 1 (vals qs3), rowI fb3 fc3 4 1 (bools (minV d).final), rowI nb2 nc2 33 1 (vals qs2), rowI fb2 fc2 4 1 (bools (minV d).final), rowI ub uc 5 1 (byts (res.getD [])), objI z3 (.cells (List.toArray [(.int .i64 (minV d).vars), (.int .i64 (minV d).start), (.slice nb1 ((minV d).next.length) nc1), (.slice fb1 ((minV d).final.length) fc1)]) 25 (0, 0)), rowI nb1 nc1 33 1 (vals qs1), rowI fb1 fc1 4 1 (bools (minV d).final), objI z1 (.cells (List.toArray [(.int .i64 d.vars), (.int .i64 d.start), (.slice nb d.next.length nc), (.slice fb d.final.length fc)]) 25 (0, 0))] ++ ((itms 3 qs5) ++ ((itms 3 qs4) ++ ((itms 3 qs3) ++ ((itms 3 qs2) ++ (itms 3 qs1)))))) w1) => acceptsA w1 (withS (minV d) (q : Int)) nb5 fb5 nc5 fc5 (vals qs5) (show DfaAt w1 (withS (minV d) (q : Int)) nb5 (vals qs5) fb5 from ⟨hI.slOf (List.mem_of_getElem? (i := 0) rfl), (show nums qs5 = ((withS (minV d) (q : Int))).next from hq5) ▸ hI.recs (fun q hq => List.mem_append_right _ (List.mem_append_left _ (List.mem_map_of_mem (f := Rec.itm 3) hq))), hI.slOf (List.mem_of_getElem? (i := 1) rfl)⟩) (show (minV d).next.length < 9223372036854775807 by omega) (fun r hr => by have := hmb.2.2 r hr; omega) (show (minV d).final.length < 9223372036854775807 by omega) wb wc l (hI.sl hW) hwb hw8
          refine TO.loud rfl (l_call ent32 (CallT.of_pure hk121) rfl ?_)
          clear hk121
          rintro v O' ⟨N, rfl, rfl, rfl⟩
          refine TO.quiet (q_move rfl) ?_
          refine TO.quiet (q_extract (vs := _) rfl rfl) ?_
          refine TO.quiet (q_extract (vs := _) rfl rfl) ?_
          refine TO.quiet (q_assign rfl) ?_
          refine TO.quiet (q_assign rfl) ?_
          refine TO.nil ?_
          refine T.seq ?_
          refine T.region ?_
          refine TO.quiet (q_move rfl) ?_
          refine TO.quiet (QT.toB (q_eql rfl rfl) (decide_eq_true (by rw [hup his]; rfl))) ?_
          refine TO.quiet (q_move rfl) ?_
          refine TO.guarded rfl rfl rfl (LT.of_quiet rfl rfl (q_move rfl) ?_)
          refine TO.guarded rfl rfl rfl (LT.of_quiet rfl rfl (QT.toB (q_eql rfl rfl) (decide_eq_true (by rw [huq his]; rfl))) ?_)
          refine TO.quiet (q_pick1 rfl rfl) ?_
          refine TO.quiet (q_move rfl) ?_
          refine TO.guarded rfl rfl rfl (LT.of_quiet rfl rfl (q_move rfl) ?_)
          refine TO.guarded rfl rfl rfl (LT.of_quiet rfl rfl (q_move rfl) ?_)
          refine TO.guarded rfl rfl rfl (LT.of_quiet rfl rfl (QT.cast (q_bneq Tryd.underlying4 rfl rfl) (v' := .bool true) (congrArg Value.bool (hacc his))) ?_)
          refine TO.quiet (q_pick1 rfl rfl) ?_
          refine TO.quiet (q_move rfl) ?_
          refine TO.guarded rfl rfl rfl (LT.of_quiet rfl rfl (q_move rfl) ?_)
          refine TO.guarded rfl rfl rfl (LT.of_quiet rfl rfl (q_len Tryd.underlying42 rfl) ?_)
          refine TO.guarded rfl rfl rfl (LT.of_quiet rfl rfl (q_fieldAddr Tryd.underlying25 rfl inf22 rfl rfl) ?_)
          refine TO.guarded rfl rfl rfl (LT.of_quiet rfl rfl (q_load_box 9 Tryd.underlying22 rfl rfl rfl rfl) ?_)
          refine TO.guarded rfl rfl rfl (LT.of_quiet rfl rfl (q_len Tryd.underlying22 rfl) ?_)
          refine TO.guarded rfl rfl rfl (LT.of_quiet rfl rfl (QT.toB (q_lss rfl rfl) (decide_eq_true (by have := hul his; omega))) ?_)
          refine TO.quiet (q_pick1 rfl rfl) ?_
          refine TO.quiet (q_move rfl) ?_
          refine TO.guarded rfl rfl rfl (LT.of_quiet rfl rfl (q_move rfl) ?_)
          refine TO.guarded rfl rfl rfl (LT.of_quiet rfl rfl (q_move rfl) ?_)
          refine TO.guarded rfl rfl rfl (LT.of_quiet rfl rfl (QT.toB (q_eql rfl rfl) (decide_eq_true (by rw [hee]))) ?_)
          refine TO.quiet (q_pick1 rfl rfl) ?_
          refine TO.quiet (q_move rfl) ?_
          refine TO.guarded rfl rfl rfl (LT.of_quiet rfl rfl (q_move rfl) ?_)
          by_cases hi : ((runE (withS (minV d) (p : Int)) l : Nat) : Int) ≠ 0
          · refine TO.guarded rfl rfl rfl (LT.of_quiet rfl rfl (QT.toB (q_neq rfl rfl) (decide_eq_true hi)) ?_)
            refine TO.guarded rfl rfl rfl (LT.of_quiet rfl rfl (q_move rfl) ?_)
            refine TO.passed rfl rfl ?_
            refine TO.passed rfl rfl ?_
            refine TO.passed rfl rfl ?_
            refine TO.guarded rfl rfl rfl (LT.of_quiet rfl rfl (q_pick1 rfl rfl) ?_)
            refine TO.guarded rfl rfl rfl (LT.of_quiet rfl rfl (q_move rfl) ?_)
            refine TO.passed rfl rfl ?_
            refine TO.passed rfl rfl ?_
            refine TO.passed rfl rfl ?_
            refine TO.passed rfl rfl ?_
            refine TO.guarded rfl rfl rfl (LT.of_quiet rfl rfl (q_pick1 rfl rfl) ?_)
            refine TO.quiet (q_pick1 rfl rfl) ?_
            refine TO.quiet (q_assign rfl) ?_
            refine TO.nil ?_
            refine T.ret ?_
            refine Res.drop ?_
            refine Res.one (.bool true) Tryd.results9 rfl ?_
            exact ⟨[], Sub.of (List.nil_sublist _), rfl, rfl⟩
          · refine TO.guarded rfl rfl rfl (LT.of_quiet rfl rfl (QT.toB (q_neq rfl rfl) (decide_eq_false hi)) ?_)
            refine TO.guarded rfl rfl rfl (LT.of_quiet rfl rfl (q_move rfl) ?_)
            refine TO.guarded rfl rfl rfl (LT.of_quiet rfl rfl (q_move rfl) ?_)
            refine TO.guarded rfl rfl rfl (LT.of_quiet rfl rfl (q_move rfl) ?_)
            by_cases hxy : accV (withS (minV d) (p : Int)) l = accV (withS (minV d) (q : Int)) l
            · refine TO.guarded rfl rfl rfl (LT.of_quiet rfl rfl (QT.toB (QT.cast (q_beql Tryd.underlying4 rfl rfl) (v' := .bool (decide (accV (withS (minV d) (p : Int)) l = accV (withS (minV d) (q : Int)) l))) (congrArg Value.bool (show (accV (withS (minV d) (p : Int)) l == accV (withS (minV d) (q : Int)) l) = decide (accV (withS (minV d) (p : Int)) l = accV (withS (minV d) (q : Int)) l) by cases accV (withS (minV d) (p : Int)) l <;> cases accV (withS (minV d) (q : Int)) l <;> rfl))) (decide_eq_true hxy)) ?_)
              refine TO.guarded rfl rfl rfl (LT.of_quiet rfl rfl (q_pick0 rfl rfl) ?_)
              refine TO.guarded rfl rfl rfl (LT.of_quiet rfl rfl (q_move rfl) ?_)
              refine TO.passed rfl rfl ?_
              refine TO.passed rfl rfl ?_
              refine TO.passed rfl rfl ?_
              refine TO.passed rfl rfl ?_
              refine TO.guarded rfl rfl rfl (LT.of_quiet rfl rfl (q_pick1 rfl rfl) ?_)
              refine TO.quiet (q_pick1 rfl rfl) ?_
              refine TO.quiet (q_assign rfl) ?_
              refine TO.nil ?_
              refine T.ret ?_
              refine Res.drop ?_
              refine Res.one (.bool true) Tryd.results9 rfl ?_
              exact ⟨[], Sub.of (List.nil_sublist _), rfl, rfl⟩
            · refine TO.guarded rfl rfl rfl (LT.of_quiet rfl rfl (QT.toB (QT.cast (q_beql Tryd.underlying4 rfl rfl) (v' := .bool (decide (accV (withS (minV d) (p : Int)) l = accV (withS (minV d) (q : Int)) l))) (congrArg Value.bool (show (accV (withS (minV d) (p : Int)) l == accV (withS (minV d) (q : Int)) l) = decide (accV (withS (minV d) (p : Int)) l = accV (withS (minV d) (q : Int)) l) by cases accV (withS (minV d) (p : Int)) l <;> cases accV (withS (minV d) (q : Int)) l <;> rfl))) (decide_eq_false hxy)) ?_)
              refine TO.guarded rfl rfl rfl (LT.of_quiet rfl rfl (q_pick0 rfl rfl) ?_)
              refine TO.guarded rfl rfl rfl (LT.of_quiet rfl rfl (q_move rfl) ?_)
              refine TO.guarded rfl rfl rfl (LT.of_quiet rfl rfl (q_move rfl) ?_)
              refine TO.guarded rfl rfl rfl (LT.of_quiet rfl rfl (q_move rfl) ?_)
              have hk159 := fun (w1 : World) (hI : Inv w ([rowI nb5 nc5 33 1 (vals qs5), rowI fb5 fc5 4 1 (bools (minV d).final), rowI nb4 nc4 33 1 (vals qs4), rowI fb4 fc4 4 1 (bools (minV d).final), rowI nb3 nc3 33 1 (vals qs3), rowI fb3 fc3 4 1 (bools (minV d).final), rowI nb2 nc2 33 1 (vals qs2), rowI fb2 fc2 4 1 (bools (minV d).final), rowI ub uc 5 1 (byts (res.getD [])), objI z3 (.cells (List.toArray [(.int .i64 (minV d).vars), (.int .i64 (minV d).start), (.slice nb1 ((minV d).next.length) nc1), (.slice fb1 ((minV d).final.length) fc1)]) 25 (0, 0)), rowI nb1 nc1 33 1 (vals qs1), rowI fb1 fc1 4 1 (bools (minV d).final), objI z1 (.cells (List.toArray [(.int .i64 d.vars), (.int .i64 d.start), (.slice nb d.next.length nc), (.slice fb d.final.length fc)]) 25 (0, 0))] ++ ((itms 3 qs5) ++ ((itms 3 qs4) ++ ((itms 3 qs3) ++ ((itms 3 qs2) ++ (itms 3 qs1)))))) w1) => cmpW w1 ub wb uc wc (res.getD []) l (hI.slOf (List.mem_of_getElem? (i := 8) rfl)) (hI.sl hW) hwb hu64 (hl64 hi) (hcd hi hxy)
              refine TO.guarded rfl rfl rfl (l_call ent35 (CallT.of_pure hk159) rfl ?_)
              clear hk159
              rintro v O' ⟨N, rfl, cc9, rfl, hcc, rfl⟩
              refine TO.guarded rfl rfl rfl (LT.of_quiet rfl rfl (QT.toB (q_leq rfl rfl) (decide_eq_true hcc)) ?_)
              refine TO.guarded rfl rfl rfl (LT.of_quiet rfl rfl (q_pick0 rfl rfl) ?_)
              refine TO.quiet (q_pick1 rfl rfl) ?_
              refine TO.quiet (q_assign rfl) ?_
              refine TO.nil ?_
              refine T.ret ?_
              refine Res.drop ?_
              refine Res.one (.bool true) Tryd.results9 rfl ?_
              exact ⟨[], Sub.of (List.nil_sublist _), rfl, rfl⟩
        · refine TO.quiet (QT.toB (QT.cast (q_move rfl) (v' := .bool (decide (res.isSome = true))) (show Value.bool res.isSome = _ from congrArg Value.bool (by simp))) (decide_eq_false his)) ?_
          refine TO.quiet (q_not rfl) ?_
          refine TO.nil ?_
          refine T.cond1 rfl ?_
          refine T.seq ?_
          refine T.region ?_
          refine TO.quiet (q_move rfl) ?_
          refine TO.quiet (q_len Tryd.underlying42 rfl) ?_
          refine TO.quiet (QT.toB (q_eql rfl rfl) (decide_eq_true (by rw [hnone his]; rfl))) ?_
          refine TO.quiet (q_assign rfl) ?_
          refine TO.nil ?_
          refine T.ret ?_
          refine Res.drop ?_
          refine Res.one (.bool true) Tryd.results9 rfl ?_
          exact ⟨[], Sub.of (List.nil_sublist _), rfl, rfl⟩
end Go.Proofs.YthfemndklplpbaaDoor
