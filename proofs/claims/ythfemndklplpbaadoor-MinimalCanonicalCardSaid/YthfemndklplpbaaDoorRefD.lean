/- Contracts of functions of the program (RefD): what each call answers and that it leaves memory as it was. Conditions: those each theorem names. -/
import Derived.Test.YthfemndklplpbaaDoorDiff
import Derived.Test.YthfemndklplpbaaDoorTell
import Derived.Test.YthfemndklplpbaaDoorGre
set_option linter.unusedSectionVars false
set_option linter.unusedSimpArgs false
set_option linter.unusedVariables false
set_option linter.unnecessarySimpa false
namespace Go.Proofs.YthfemndklplpbaaDoor
open Go.Lx Go.RowKit
set_option linter.unusedVariables false
set_option linter.unusedSimpArgs false

set_option maxHeartbeats 1000000 in
set_option maxRecDepth 20000 in
theorem rDistBad (w : World) (d : DFA) (nb fb : Option Addr) (nc fc : Nat) (vs : List Value) (h : DfaAt w d nb vs fb) (hb : d.next.length < 9223372036854775807) (hbr : ∀ r ∈ d.next, r.length < 9223372036854775807) (hbf : d.final.length < 9223372036854775807) (he : checkD d ≠ 0) (s t : Int) :
    PureT Tryd.prog 26 [.agg (dfaCells d nb nc fb fc).toArray, .int .i64 s, .int .i64 t] w fun v N => v = .tuple #[.slice none 0 0, .bool false, .int .i64 (checkD d : Int)] ∧ N = [] := by
  refine CallT.enter Tryd.func26 rfl Tryd.ntmps26 rfl ?_
  refine T.seq ?_
  refine T.region ?_
  refine TO.loud rfl (l_box (v := (.agg #[(.int .i64 d.vars), (.int .i64 d.start), (.slice nb d.next.length nc), (.slice fb d.final.length fc)])) (cs := [(.int .i64 d.vars), (.int .i64 d.start), (.slice nb d.next.length nc), (.slice fb d.final.length fc)]) rfl rfl (fun b1 => ?_))
  refine TO.quiet (q_assign rfl) ?_
  refine TO.quiet (q_assign rfl) ?_
  refine TO.quiet (q_assign rfl) ?_
  refine TO.nil ?_
  refine T.seq ?_
  refine T.region ?_
  refine TO.quiet (q_load_boxAgg 0 Tryd.underlying25 rfl inf25 rfl rfl rfl) ?_
  have hk14 := fun (w1 : World) (hI : Inv w [objI b1 (.cells (List.toArray [(.int .i64 d.vars), (.int .i64 d.start), (.slice nb d.next.length nc), (.slice fb d.final.length fc)]) 25 (0, 0))] w1) => refCheck w1 d nb fb nc fc vs (hI.dfa h) hb hbr hbf
  refine TO.loud rfl (l_call ent11 (CallT.of_pure hk14) rfl ?_)
  clear hk14
  rintro v O' ⟨N, rfl, rfl, rfl⟩
  refine TO.quiet (q_assign rfl) ?_
  refine TO.nil ?_
  refine T.seq ?_
  refine T.seq ?_
  refine T.region ?_
  refine TO.quiet (q_move rfl) ?_
  refine TO.quiet (QT.toB (q_neq rfl rfl) (decide_eq_true (by omega))) ?_
  refine TO.nil ?_
  refine T.cond1 rfl ?_
  refine T.seq ?_
  refine T.region ?_
  refine TO.quiet (q_move rfl) ?_
  refine TO.quiet (q_assign rfl) ?_
  refine TO.quiet (q_assign rfl) ?_
  refine TO.quiet (q_assign rfl) ?_
  refine TO.nil ?_
  refine T.ret ?_
  refine Res.drop ?_
  refine Res.three (.slice none 0 0) (.bool false) (.int .i64 (checkD d : Int)) Tryd.results26 rfl rfl rfl ?_
  exact ⟨[], Sub.of (List.nil_sublist _), rfl, rfl⟩

set_option maxHeartbeats 1000000 in
set_option maxRecDepth 20000 in
theorem rDistOut (w : World) (d : DFA) (nb fb : Option Addr) (nc fc : Nat) (vs : List Value) (h : DfaAt w d nb vs fb) (hv : Valid d) (s t : Int) (hst : s < 0 ∨ t < 0 ∨ (d.next.length : Int) ≤ s ∨ (d.next.length : Int) ≤ t) :
    PureT Tryd.prog 26 [.agg (dfaCells d nb nc fb fc).toArray, .int .i64 s, .int .i64 t] w fun v N => v = .tuple #[.slice none 0 0, .bool false, .int .i64 8] ∧ N = [] := by
  refine CallT.enter Tryd.func26 rfl Tryd.ntmps26 rfl ?_
  have he := checkD_zero.2 hv
  have hb : d.next.length < 9223372036854775807 := by have := hv.n4; omega
  have hbr : ∀ r ∈ d.next, r.length < 9223372036854775807 := hv.bound
  have hbf : d.final.length < 9223372036854775807 := by have := hv.fin; omega
  refine T.seq ?_
  refine T.region ?_
  refine TO.loud rfl (l_box (v := (.agg #[(.int .i64 d.vars), (.int .i64 d.start), (.slice nb d.next.length nc), (.slice fb d.final.length fc)])) (cs := [(.int .i64 d.vars), (.int .i64 d.start), (.slice nb d.next.length nc), (.slice fb d.final.length fc)]) rfl rfl (fun b1 => ?_))
  refine TO.quiet (q_assign rfl) ?_
  refine TO.quiet (q_assign rfl) ?_
  refine TO.quiet (q_assign rfl) ?_
  refine TO.nil ?_
  refine T.seq ?_
  refine T.region ?_
  refine TO.quiet (q_load_boxAgg 0 Tryd.underlying25 rfl inf25 rfl rfl rfl) ?_
  have hk14 := fun (w1 : World) (hI : Inv w [objI b1 (.cells (List.toArray [(.int .i64 d.vars), (.int .i64 d.start), (.slice nb d.next.length nc), (.slice fb d.final.length fc)]) 25 (0, 0))] w1) => refCheck w1 d nb fb nc fc vs (hI.dfa h) hb hbr hbf
  refine TO.loud rfl (l_call ent11 (CallT.of_pure hk14) rfl ?_)
  clear hk14
  rintro v O' ⟨N, rfl, rfl, rfl⟩
  rw [he]
  refine TO.quiet (q_assign rfl) ?_
  refine TO.nil ?_
  refine T.seq ?_
  refine T.seq ?_
  refine T.region ?_
  refine TO.quiet (q_move rfl) ?_
  refine TO.quiet (q_neq rfl rfl) ?_
  refine TO.nil ?_
  refine T.cond0 rfl ?_
  refine T.skip ?_
  refine T.seq ?_
  refine T.seq ?_
  refine T.region ?_
  refine TO.quiet (q_move rfl) ?_
  by_cases h1 : s < 0
  · refine TO.quiet (QT.toB (q_lss rfl rfl) (decide_eq_true h1)) ?_
    refine TO.quiet (q_move rfl) ?_
    refine TO.passed rfl rfl ?_
    refine TO.passed rfl rfl ?_
    refine TO.passed rfl rfl ?_
    refine TO.passed rfl rfl ?_
    refine TO.passed rfl rfl ?_
    refine TO.quiet (q_pick1 rfl rfl) ?_
    refine TO.quiet (q_move rfl) ?_
    refine TO.passed rfl rfl ?_
    refine TO.passed rfl rfl ?_
    refine TO.quiet (q_pick1 rfl rfl) ?_
    refine TO.quiet (q_move rfl) ?_
    refine TO.passed rfl rfl ?_
    refine TO.passed rfl rfl ?_
    refine TO.passed rfl rfl ?_
    refine TO.passed rfl rfl ?_
    refine TO.passed rfl rfl ?_
    refine TO.quiet (q_pick1 rfl rfl) ?_
    refine TO.nil ?_
    refine T.cond1 rfl ?_
    refine T.seq ?_
    refine T.region ?_
    refine TO.quiet (q_assign rfl) ?_
    refine TO.quiet (q_assign rfl) ?_
    refine TO.quiet (q_assign rfl) ?_
    refine TO.nil ?_
    refine T.ret ?_
    refine Res.drop ?_
    refine Res.three (.slice none 0 0) (.bool false) (.int .i64 8) Tryd.results26 rfl rfl rfl ?_
    exact ⟨[], Sub.of (List.nil_sublist _), rfl, rfl⟩
  · refine TO.quiet (QT.toB (q_lss rfl rfl) (decide_eq_false h1)) ?_
    refine TO.quiet (q_move rfl) ?_
    refine TO.guarded rfl rfl rfl (LT.of_quiet rfl rfl (q_move rfl) ?_)
    refine TO.guarded rfl rfl rfl (LT.of_quiet rfl rfl (q_fieldAddr Tryd.underlying25 rfl inf22 rfl rfl) ?_)
    refine TO.guarded rfl rfl rfl (LT.of_quiet rfl rfl (q_load_box 0 Tryd.underlying22 rfl rfl rfl rfl) ?_)
    refine TO.guarded rfl rfl rfl (LT.of_quiet rfl rfl (q_len Tryd.underlying22 rfl) ?_)
    by_cases h2 : s ≥ (d.next.length : Int)
    · refine TO.guarded rfl rfl rfl (LT.of_quiet rfl rfl (QT.toB (q_geq rfl rfl) (decide_eq_true h2)) ?_)
      refine TO.quiet (q_pick0 rfl rfl) ?_
      refine TO.quiet (q_move rfl) ?_
      refine TO.passed rfl rfl ?_
      refine TO.passed rfl rfl ?_
      refine TO.quiet (q_pick1 rfl rfl) ?_
      refine TO.quiet (q_move rfl) ?_
      refine TO.passed rfl rfl ?_
      refine TO.passed rfl rfl ?_
      refine TO.passed rfl rfl ?_
      refine TO.passed rfl rfl ?_
      refine TO.passed rfl rfl ?_
      refine TO.quiet (q_pick1 rfl rfl) ?_
      refine TO.nil ?_
      refine T.cond1 rfl ?_
      refine T.seq ?_
      refine T.region ?_
      refine TO.quiet (q_assign rfl) ?_
      refine TO.quiet (q_assign rfl) ?_
      refine TO.quiet (q_assign rfl) ?_
      refine TO.nil ?_
      refine T.ret ?_
      refine Res.drop ?_
      refine Res.three (.slice none 0 0) (.bool false) (.int .i64 8) Tryd.results26 rfl rfl rfl ?_
      exact ⟨[], Sub.of (List.nil_sublist _), rfl, rfl⟩
    · refine TO.guarded rfl rfl rfl (LT.of_quiet rfl rfl (QT.toB (q_geq rfl rfl) (decide_eq_false h2)) ?_)
      refine TO.quiet (q_pick0 rfl rfl) ?_
      refine TO.quiet (q_move rfl) ?_
      refine TO.guarded rfl rfl rfl (LT.of_quiet rfl rfl (q_move rfl) ?_)
      by_cases h3 : t < 0
      · refine TO.guarded rfl rfl rfl (LT.of_quiet rfl rfl (QT.toB (q_lss rfl rfl) (decide_eq_true h3)) ?_)
        refine TO.quiet (q_pick0 rfl rfl) ?_
        refine TO.quiet (q_move rfl) ?_
        refine TO.passed rfl rfl ?_
        refine TO.passed rfl rfl ?_
        refine TO.passed rfl rfl ?_
        refine TO.passed rfl rfl ?_
        refine TO.passed rfl rfl ?_
        refine TO.quiet (q_pick1 rfl rfl) ?_
        refine TO.nil ?_
        refine T.cond1 rfl ?_
        refine T.seq ?_
        refine T.region ?_
        refine TO.quiet (q_assign rfl) ?_
        refine TO.quiet (q_assign rfl) ?_
        refine TO.quiet (q_assign rfl) ?_
        refine TO.nil ?_
        refine T.ret ?_
        refine Res.drop ?_
        refine Res.three (.slice none 0 0) (.bool false) (.int .i64 8) Tryd.results26 rfl rfl rfl ?_
        exact ⟨[], Sub.of (List.nil_sublist _), rfl, rfl⟩
      · refine TO.guarded rfl rfl rfl (LT.of_quiet rfl rfl (QT.toB (q_lss rfl rfl) (decide_eq_false h3)) ?_)
        refine TO.quiet (q_pick0 rfl rfl) ?_
        refine TO.quiet (q_move rfl) ?_
        refine TO.guarded rfl rfl rfl (LT.of_quiet rfl rfl (q_move rfl) ?_)
        refine TO.guarded rfl rfl rfl (LT.of_quiet rfl rfl (q_fieldAddr Tryd.underlying25 rfl inf22 rfl rfl) ?_)
        refine TO.guarded rfl rfl rfl (LT.of_quiet rfl rfl (q_load_box 0 Tryd.underlying22 rfl rfl rfl rfl) ?_)
        refine TO.guarded rfl rfl rfl (LT.of_quiet rfl rfl (q_len Tryd.underlying22 rfl) ?_)
        refine TO.guarded rfl rfl rfl (LT.of_quiet rfl rfl (QT.toB (q_geq rfl rfl) (decide_eq_true (by omega))) ?_)
        refine TO.quiet (q_pick0 rfl rfl) ?_
        refine TO.nil ?_
        refine T.cond1 rfl ?_
        refine T.seq ?_
        refine T.region ?_
        refine TO.quiet (q_assign rfl) ?_
        refine TO.quiet (q_assign rfl) ?_
        refine TO.quiet (q_assign rfl) ?_
        refine TO.nil ?_
        refine T.ret ?_
        refine Res.drop ?_
        refine Res.three (.slice none 0 0) (.bool false) (.int .i64 8) Tryd.results26 rfl rfl rfl ?_
        exact ⟨[], Sub.of (List.nil_sublist _), rfl, rfl⟩

set_option maxHeartbeats 4000000 in
set_option maxRecDepth 20000 in
theorem rDistOk (w : World) (d : DFA) (nb fb : Option Addr) (nc fc : Nat) (vs : List Value) (h : DfaAt w d nb vs fb) (hv : Valid d) (hn : d.next.length < 100) (s t : Nat) (hs : s < d.next.length) (ht : t < d.next.length) :
    PureT Tryd.prog 26 [.agg (dfaCells d nb nc fb fc).toArray, .int .i64 (s : Int), .int .i64 (t : Int)] w fun v N => ∃ res, Tell d s t res ∧ TellV 5 v N res := by
  refine CallT.enter Tryd.func26 rfl Tryd.ntmps26 rfl ?_
  have he := checkD_zero.2 hv
  have hb : d.next.length < 9223372036854775807 := by have := hv.n4; omega
  have hbr : ∀ r ∈ d.next, r.length < 9223372036854775807 := hv.bound
  have hbf : d.final.length < 9223372036854775807 := by have := hv.fin; omega
  have hvl := h.rows.1
  have hww := hv.width
  refine T.seq ?_
  refine T.region ?_
  refine TO.loud rfl (l_box (v := (.agg #[(.int .i64 d.vars), (.int .i64 d.start), (.slice nb d.next.length nc), (.slice fb d.final.length fc)])) (cs := [(.int .i64 d.vars), (.int .i64 d.start), (.slice nb d.next.length nc), (.slice fb d.final.length fc)]) rfl rfl (fun z1 => ?_))
  refine TO.quiet (q_assign rfl) ?_
  refine TO.quiet (q_assign rfl) ?_
  refine TO.quiet (q_assign rfl) ?_
  refine TO.nil ?_
  refine T.seq ?_
  refine T.region ?_
  refine TO.quiet (q_load_boxAgg 0 Tryd.underlying25 rfl inf25 rfl rfl rfl) ?_
  have hk14 := fun (w1 : World) (hI : Inv w [objI z1 (.cells (List.toArray [(.int .i64 d.vars), (.int .i64 d.start), (.slice nb d.next.length nc), (.slice fb d.final.length fc)]) 25 (0, 0))] w1) => refCheck w1 d nb fb nc fc vs (hI.dfa h) hb hbr hbf
  refine TO.loud rfl (l_call ent11 (CallT.of_pure hk14) rfl ?_)
  clear hk14
  rintro v O' ⟨N, rfl, rfl, rfl⟩
  rw [he]
  refine TO.quiet (q_assign rfl) ?_
  refine TO.nil ?_
  refine T.seq ?_
  refine T.seq ?_
  refine T.region ?_
  refine TO.quiet (q_move rfl) ?_
  refine TO.quiet (q_neq rfl rfl) ?_
  refine TO.nil ?_
  refine T.cond0 rfl ?_
  refine T.skip ?_
  refine T.seq ?_
  refine T.seq ?_
  refine T.region ?_
  refine TO.quiet (q_move rfl) ?_
  refine TO.quiet (QT.toB (q_lss rfl rfl) (decide_eq_false (by omega))) ?_
  refine TO.quiet (q_move rfl) ?_
  refine TO.guarded rfl rfl rfl (LT.of_quiet rfl rfl (q_move rfl) ?_)
  refine TO.guarded rfl rfl rfl (LT.of_quiet rfl rfl (q_fieldAddr Tryd.underlying25 rfl inf22 rfl rfl) ?_)
  refine TO.guarded rfl rfl rfl (LT.of_quiet rfl rfl (q_load_box 0 Tryd.underlying22 rfl rfl rfl rfl) ?_)
  refine TO.guarded rfl rfl rfl (LT.of_quiet rfl rfl (q_len Tryd.underlying22 rfl) ?_)
  refine TO.guarded rfl rfl rfl (LT.of_quiet rfl rfl (QT.toB (q_geq rfl rfl) (decide_eq_false (by omega))) ?_)
  refine TO.quiet (q_pick0 rfl rfl) ?_
  refine TO.quiet (q_move rfl) ?_
  refine TO.guarded rfl rfl rfl (LT.of_quiet rfl rfl (q_move rfl) ?_)
  refine TO.guarded rfl rfl rfl (LT.of_quiet rfl rfl (QT.toB (q_lss rfl rfl) (decide_eq_false (by omega))) ?_)
  refine TO.quiet (q_pick0 rfl rfl) ?_
  refine TO.quiet (q_move rfl) ?_
  refine TO.guarded rfl rfl rfl (LT.of_quiet rfl rfl (q_move rfl) ?_)
  refine TO.guarded rfl rfl rfl (LT.of_quiet rfl rfl (q_fieldAddr Tryd.underlying25 rfl inf22 rfl rfl) ?_)
  refine TO.guarded rfl rfl rfl (LT.of_quiet rfl rfl (q_load_box 0 Tryd.underlying22 rfl rfl rfl rfl) ?_)
  refine TO.guarded rfl rfl rfl (LT.of_quiet rfl rfl (q_len Tryd.underlying22 rfl) ?_)
  refine TO.guarded rfl rfl rfl (LT.of_quiet rfl rfl (QT.toB (q_geq rfl rfl) (decide_eq_false (by omega))) ?_)
  refine TO.quiet (q_pick0 rfl rfl) ?_
  refine TO.nil ?_
  refine T.cond0 rfl ?_
  refine T.skip ?_
  refine T.seq ?_
  refine T.region ?_
  refine TO.quiet (q_assign rfl) ?_
  refine TO.nil ?_
  refine T.seq ?_
  refine T.block ?_
  refine T.loop (fun (k : Nat) ρ O => O = [objI z1 (.cells (List.toArray [(.int .i64 d.vars), (.int .i64 d.start), (.slice nb d.next.length nc), (.slice fb d.final.length fc)]) 25 (0, 0))] ∧ k ≤ d.next.length + 1 ∧ (∀ j, j < k → dif d j s t = false) ∧ Heads [(0, (.agg #[(.int .i64 d.vars), (.int .i64 d.start), (.slice nb d.next.length nc), (.slice fb d.final.length fc)])), (1, .int .i64 (s : Int)), (2, .int .i64 (t : Int)), (3, (.pointer (some ⟨z1, 0, none⟩))), (6, (.slice none 0 0)), (7, .bool false), (8, .int .i64 0), (9, .int .i64 ((0 : Nat) : Int)), (10, .int .i64 (k : Int))] ρ) (fun k => d.next.length + 1 - k) 0 ?_ ?_
  · exact ⟨rfl, Nat.zero_le _, fun j hj => absurd hj (by omega), ⟨rfl, rfl, rfl, rfl, rfl, rfl, rfl, rfl, rfl, trivial⟩⟩
  · rintro k ρ O ⟨rfl, hk, hkj, hH⟩
    obtain ⟨ρ0, rfl⟩ := hH.elim
    clear hH
    refine T.seq ?_
    refine T.seq ?_
    refine T.region ?_
    refine TO.quiet (q_move rfl) ?_
    refine TO.quiet (q_fieldAddr Tryd.underlying25 rfl inf22 rfl rfl) ?_
    refine TO.quiet (q_load_box 0 Tryd.underlying22 rfl rfl rfl rfl) ?_
    refine TO.quiet (q_len Tryd.underlying22 rfl) ?_
    by_cases hkn : (k : Int) ≤ (d.next.length : Int)
    · refine TO.quiet (QT.toB (q_leq rfl rfl) (decide_eq_true hkn)) ?_
      refine TO.quiet (q_move rfl) ?_
      refine TO.guarded rfl rfl rfl (LT.of_quiet rfl rfl (q_load_boxAgg 0 Tryd.underlying25 rfl inf25 rfl rfl rfl) ?_)
      refine TO.guarded rfl rfl rfl (LT.of_quiet rfl rfl (q_move rfl) ?_)
      have hk46 := fun (w1 : World) (hI : Inv w [objI z1 (.cells (List.toArray [(.int .i64 d.vars), (.int .i64 d.start), (.slice nb d.next.length nc), (.slice fb d.final.length fc)]) 25 (0, 0))] w1) => differC w1 d nb fb nc fc vs (hI.dfa h) hv hn k
      refine TO.guarded rfl rfl rfl (l_call ent41 (CallT.of_pure hk46) rfl ?_)
      clear hk46
      rintro v O' ⟨N, rfl, mb, mc, qs, rfl, rfl, hM⟩
      rw [show min ((k : Int)).toNat d.next.length = k by omega] at hM
      obtain ⟨qa, ma, ga, la, ea⟩ := hM.get hs
      refine TO.sub (O' := ([rowI mb mc 23 1 (bvals qs), objI z1 (.cells (List.toArray [(.int .i64 d.vars), (.int .i64 d.start), (.slice nb d.next.length nc), (.slice fb d.final.length fc)]) 25 (0, 0))] ++ (bitms 4 qs))) (Sub.cnt [] (by intro a; simp only [itms, List.set_cons_zero, List.set_cons_succ, putL, List.cons_append, List.nil_append, List.append_nil, List.append_assoc, List.map_append, List.map_cons, List.map_nil, cnt_append, cnt_cons, cnt_nil] <;> omega)) ?_
      refine TO.guarded rfl rfl rfl (LT.of_quiet rfl rfl (q_move rfl) ?_)
      refine TO.guarded rfl rfl rfl (LT.of_quiet rfl rfl (q_ix (i := s) Tryd.underlying63 inf23 rfl rfl (rowO (List.mem_of_getElem? (i := 0) rfl)) hs (by rw [List.length_map, hM.len]; exact hs)) ?_)
      refine TO.guarded rfl rfl rfl (LT.of_quiet rfl rfl (q_ld Tryd.underlying23 rfl rfl (rowO (List.mem_of_getElem? (i := 0) rfl)) ga) ?_)
      refine TO.guarded rfl rfl rfl (LT.of_quiet rfl rfl (q_move rfl) ?_)
      refine TO.guarded rfl rfl rfl (LT.of_quiet rfl rfl (q_ix (i := t) Tryd.underlying23 inf4 rfl rfl (fun w hI => hI.slOf (T := 4) (k := 1) (List.mem_append_right _ (List.mem_map_of_mem (f := BRec.itm 4) ma))) ht (la ▸ ht)) ?_)
      refine TO.guarded rfl rfl rfl (LT.of_quiet rfl rfl (q_ld Tryd.underlying4 rfl rfl (fun w hI => hI.slOf (T := 4) (k := 1) (List.mem_append_right _ (List.mem_map_of_mem (f := BRec.itm 4) ma))) (ea t ht)) ?_)
      refine TO.guarded rfl rfl rfl (LT.of_quiet rfl rfl (q_not rfl) ?_)
      refine TO.quiet (q_pick1 rfl rfl) ?_
      refine TO.nil ?_
      refine T.cond rfl (fun hc => ?_) (fun hc => ?_)
      · have hkd : dif d k s t = false := by simpa using hc
        refine T.skip ?_
        refine T.block ?_
        refine T.region ?_
        refine TO.quiet (q_move rfl) ?_
        refine TO.quiet (q_inc rfl rfl (by omega)) ?_
        refine TO.quiet (q_assign rfl) ?_
        refine TO.sub (O' := [objI z1 (.cells (List.toArray [(.int .i64 d.vars), (.int .i64 d.start), (.slice nb d.next.length nc), (.slice fb d.final.length fc)]) 25 (0, 0))]) (Sub.cnt ([rowI mb mc 23 1 (bvals qs)] ++ bitms 4 qs) (by intro a; simp only [itms, List.set_cons_zero, List.set_cons_succ, putL, List.cons_append, List.nil_append, List.append_nil, List.append_assoc, List.map_append, List.map_cons, List.map_nil, cnt_append, cnt_cons, cnt_nil] <;> omega)) ?_
        refine TO.nil ?_
        refine ⟨k + 1, by omega, rfl, by omega, fun j h9 => ?_, ⟨rfl, rfl, rfl, rfl, rfl, rfl, rfl, rfl, rfl, trivial⟩⟩
        by_cases e : j = k
        · subst e; exact hkd
        · exact hkj j (by omega)
      · have hkd : dif d k s t = true := by simpa using hc
        refine T.exit ?_
        refine T.seq ?_
        refine T.seq ?_
        refine T.sub (O' := [objI z1 (.cells (List.toArray [(.int .i64 d.vars), (.int .i64 d.start), (.slice nb d.next.length nc), (.slice fb d.final.length fc)]) 25 (0, 0))]) (Sub.cnt ([rowI mb mc 23 1 (bvals qs)] ++ bitms 4 qs) (by intro a; simp only [itms, List.set_cons_zero, List.set_cons_succ, putL, List.cons_append, List.nil_append, List.append_nil, List.append_assoc, List.map_append, List.map_cons, List.map_nil, cnt_append, cnt_cons, cnt_nil] <;> omega)) ?_
        refine T.region ?_
        refine TO.quiet (q_move rfl) ?_
        refine TO.quiet (q_fieldAddr Tryd.underlying25 rfl inf22 rfl rfl) ?_
        refine TO.quiet (q_load_box 0 Tryd.underlying22 rfl rfl rfl rfl) ?_
        refine TO.quiet (q_len Tryd.underlying22 rfl) ?_
        by_cases hbig : (k : Int) > (d.next.length : Int)
        · refine TO.quiet (QT.toB (q_gtr rfl rfl) (decide_eq_true hbig)) ?_
          refine TO.nil ?_
          refine T.cond1 rfl ?_
          refine T.seq ?_
          refine T.region ?_
          refine TO.quiet (q_assign rfl) ?_
          refine TO.quiet (q_assign rfl) ?_
          refine TO.quiet (q_assign rfl) ?_
          refine TO.nil ?_
          refine T.ret ?_
          refine Res.drop ?_
          refine Res.three (.slice none 0 0) (.bool false) (.int .i64 0) Tryd.results26 rfl rfl rfl ?_
          exact ⟨[], Sub.of (List.nil_sublist _), none, tell_none hv hs ht (fun j hj => hkj j (by omega)), rfl, rfl⟩
        · refine TO.quiet (QT.toB (q_gtr rfl rfl) (decide_eq_false hbig)) ?_
          refine TO.nil ?_
          refine T.cond0 rfl ?_
          refine T.skip ?_
          refine T.seq ?_
          have hkd : dif d k s t = true := by first | assumption | (exfalso; omega)
          have hkn9 : k ≤ d.next.length := by omega
          refine T.region ?_
          refine TO.quiet (q_assign rfl) ?_
          refine TO.nil ?_
          refine T.seq ?_
          refine T.block ?_
          refine T.nilRow 5 1 ?_
          refine T.loop (fun (m : Nat) ρ O => ∃ (a b : Nat) (wb : Option Addr) (wc wl : Nat) (u : List Nat), O = [rowI wb wc 5 1 (byts u), objI z1 (.cells (List.toArray [(.int .i64 d.vars), (.int .i64 d.start), (.slice nb d.next.length nc), (.slice fb d.final.length fc)]) 25 (0, 0))] ∧ a < d.next.length ∧ b < d.next.length ∧ wl + m ≤ d.next.length ∧ wl = u.length ∧ dif d m a b = true ∧ (∀ j, j < m → dif d j a b = false) ∧ (∀ v, IsLeast d a b v → IsLeast d s t (u ++ v)) ∧ Heads [(0, (.agg #[(.int .i64 d.vars), (.int .i64 d.start), (.slice nb d.next.length nc), (.slice fb d.final.length fc)])), (1, .int .i64 (a : Int)), (2, .int .i64 (b : Int)), (3, (.pointer (some ⟨z1, 0, none⟩))), (6, (.slice none 0 0)), (7, .bool false), (8, .int .i64 0), (9, .int .i64 ((0 : Nat) : Int)), (10, .int .i64 (m : Int)), (11, (.slice wb wl wc))] ρ) (fun m => m) k ?_ ?_
          · exact ⟨s, t, none, 0, 0, [], rfl, hs, ht, by omega, rfl, hkd, hkj, fun v h => h, ⟨rfl, rfl, rfl, rfl, rfl, rfl, rfl, rfl, rfl, rfl, trivial⟩⟩
          · rintro m ρ O ⟨a, b, wb, wc, wl, u, rfl, ha, hb9, hul, hwl, hma, hmj, hle, hH⟩
            obtain ⟨ρ0, rfl⟩ := hH.elim
            clear hH
            refine T.seq ?_
            refine T.seq ?_
            refine T.region ?_
            refine TO.quiet (q_move rfl) ?_
            refine TO.quiet (q_gtr rfl rfl) ?_
            refine TO.nil ?_
            refine T.condP rfl (fun hc => ?_) (fun hc => ?_)
            · have hlt63 : m > 0 := by omega
              refine T.skip ?_
              refine T.block ?_
              refine T.seq ?_
              obtain ⟨m1, rfl⟩ : ∃ m1, m = m1 + 1 := ⟨m - 1, by omega⟩
              obtain ⟨x0, hx0, hxd0⟩ := dif_letter hma (hmj m1 (by omega))
              obtain ⟨vb1, vc1, g1, s1⟩ := h.rows.get ha
              obtain ⟨vb2, vc2, g2, s2⟩ := h.rows.get hb9
              have hl1 : d.next[a].length = 2 ^ d.vars.toNat := hv.len _ (List.getElem_mem ha)
              have hl2 : d.next[b].length = 2 ^ d.vars.toNat := hv.len _ (List.getElem_mem hb9)
              refine T.region ?_
              refine TO.quiet (q_assign rfl) ?_
              refine TO.nil ?_
              refine T.seq ?_
              refine T.block ?_
              refine T.loop (fun (x : Nat) ρ O => O = [rowI wb wc 5 1 (byts u), objI z1 (.cells (List.toArray [(.int .i64 d.vars), (.int .i64 d.start), (.slice nb d.next.length nc), (.slice fb d.final.length fc)]) 25 (0, 0))] ∧ x ≤ x0 ∧ (∀ y, y < x → dif d m1 (toN d a y) (toN d b y) = false) ∧ Heads [(0, (.agg #[(.int .i64 d.vars), (.int .i64 d.start), (.slice nb d.next.length nc), (.slice fb d.final.length fc)])), (1, .int .i64 (a : Int)), (2, .int .i64 (b : Int)), (3, (.pointer (some ⟨z1, 0, none⟩))), (6, (.slice none 0 0)), (7, .bool false), (8, .int .i64 0), (9, .int .i64 ((0 : Nat) : Int)), (10, .int .i64 ((m1 + 1 : Nat) : Int)), (11, (.slice wb wl wc)), (12, .int .i64 (x : Int))] ρ) (fun x => x0 - x) 0 ?_ ?_
              · exact ⟨rfl, Nat.zero_le _, fun y hy => absurd hy (by omega), ⟨rfl, rfl, rfl, rfl, rfl, rfl, rfl, rfl, rfl, rfl, rfl, trivial⟩⟩
              · rintro x ρ O ⟨rfl, hx, hxj, hH⟩
                obtain ⟨ρ0, rfl⟩ := hH.elim
                clear hH
                have hlx : x < 2 ^ d.vars.toNat := by unfold letN at hx0; omega
                obtain ⟨hta, _, hxk1, hx1⟩ := hv.toN_lt ha hlx
                obtain ⟨htb, _, hxk2, hx2⟩ := hv.toN_lt hb9 hlx
                have hx1 : (ints d.next[a])[x]? = some (.int .i64 ((toN d a x : Nat) : Int)) := by rw [ints_get hxk1, hx1]
                have hx2 : (ints d.next[b])[x]? = some (.int .i64 ((toN d b x : Nat) : Int)) := by rw [ints_get hxk2, hx2]
                refine T.seq ?_
                refine T.cut (fun ρ O => O = [rowI wb wc 5 1 (byts u), objI z1 (.cells (List.toArray [(.int .i64 d.vars), (.int .i64 d.start), (.slice nb d.next.length nc), (.slice fb d.final.length fc)]) 25 (0, 0))] ∧ Heads [(0, (.agg #[(.int .i64 d.vars), (.int .i64 d.start), (.slice nb d.next.length nc), (.slice fb d.final.length fc)])), (1, .int .i64 (a : Int)), (2, .int .i64 (b : Int)), (3, (.pointer (some ⟨z1, 0, none⟩))), (6, (.slice none 0 0)), (7, .bool false), (8, .int .i64 0), (9, .int .i64 ((0 : Nat) : Int)), (10, .int .i64 ((m1 + 1 : Nat) : Int)), (11, (.slice wb wl wc)), (12, .int .i64 (x : Int)), (88, .bool (!(dif d m1 (toN d a x) (toN d b x))))] ρ) ?_ ?_
                · refine T.tree [objI z1 (.cells (List.toArray [(.int .i64 d.vars), (.int .i64 d.start), (.slice nb d.next.length nc), (.slice fb d.final.length fc)]) 25 (0, 0))] 25 mixed rfl (Sub.pick [1] rfl) (fun _ _ _ h => h) ?_
                  refine RO.quietT 0 rfl (by kernel_rfl) (q_load_boxAgg 0 Tryd.underlying25 rfl inf25 rfl rfl rfl) ?_
                  refine RO.quietT 1 rfl (by kernel_rfl) (q_move rfl) ?_
                  refine RO.quietT 2 rfl (by kernel_rfl) (q_sub64 rfl rfl (by omega)) ?_
                  refine RO.quietT 4 rfl (by kernel_rfl) (q_fieldAddr Tryd.underlying25 rfl inf22 rfl rfl) ?_
                  refine RO.quietT 5 rfl (by kernel_rfl) (q_load_box 0 Tryd.underlying22 rfl rfl rfl rfl) ?_
                  refine RO.quietT 6 rfl (by kernel_rfl) (q_move rfl) ?_
                  refine RO.quietT 7 rfl (by kernel_rfl) (q_ix (i := a) Tryd.underlying22 inf33 rfl rfl (Sl.o h.outer) ha (hvl ▸ ha)) ?_
                  refine RO.quietT 8 rfl (by kernel_rfl) (q_ld Tryd.underlying33 rfl rfl (Sl.o h.outer) g1) ?_
                  refine RO.quietT 9 rfl (by kernel_rfl) (q_move rfl) ?_
                  refine RO.quietT 10 rfl (by kernel_rfl) (q_ix (i := x) Tryd.underlying33 inf3 rfl rfl (Sl.o s1) (by rw [hl1]; exact hlx) (by rw [List.length_map, hl1]; exact hlx)) ?_
                  refine RO.quietT 11 rfl (by kernel_rfl) (q_ld Tryd.underlying3 rfl rfl (Sl.o s1) hx1) ?_
                  refine RO.quietT 14 rfl (by kernel_rfl) (q_fieldAddr Tryd.underlying25 rfl inf22 rfl rfl) ?_
                  refine RO.quietT 15 rfl (by kernel_rfl) (q_load_box 0 Tryd.underlying22 rfl rfl rfl rfl) ?_
                  refine RO.quietT 16 rfl (by kernel_rfl) (q_move rfl) ?_
                  refine RO.quietT 17 rfl (by kernel_rfl) (q_ix (i := b) Tryd.underlying22 inf33 rfl rfl (Sl.o h.outer) hb9 (hvl ▸ hb9)) ?_
                  refine RO.quietT 18 rfl (by kernel_rfl) (q_ld Tryd.underlying33 rfl rfl (Sl.o h.outer) g2) ?_
                  refine RO.quietT 19 rfl (by kernel_rfl) (q_move rfl) ?_
                  refine RO.quietT 20 rfl (by kernel_rfl) (q_ix (i := x) Tryd.underlying33 inf3 rfl rfl (Sl.o s2) (by rw [hl2]; exact hlx) (by rw [List.length_map, hl2]; exact hlx)) ?_
                  refine RO.quietT 21 rfl (by kernel_rfl) (q_ld Tryd.underlying3 rfl rfl (Sl.o s2) hx2) ?_
                  have hk67 := fun (w1 : World) (hI : Inv w [rowI wb wc 5 1 (byts u), objI z1 (.cells (List.toArray [(.int .i64 d.vars), (.int .i64 d.start), (.slice nb d.next.length nc), (.slice fb d.final.length fc)]) 25 (0, 0))] w1) => differC w1 d nb fb nc fc vs (hI.dfa h) hv hn (((m1 + 1 : Nat) : Int) - 1)
                  refine RO.fork [3] (by kernel_rfl) rfl ⟨⟨_, rfl, rfl, l_call ent41 (CallT.of_pure hk67) rfl ?_⟩, trivial⟩
                  clear hk67
                  rintro v O' ⟨N, rfl, mb, mc, qs, rfl, rfl, hM⟩
                  rw [show min (((m1 + 1 : Nat) : Int) - 1).toNat d.next.length = m1 by omega] at hM
                  obtain ⟨qc, mc9, gc, lc, ec⟩ := hM.get hta
                  refine ⟨Sub.cnt ([rowI mb mc 23 1 (bvals qs), rowI wb wc 5 1 (byts u)] ++ (bitms 4 qs)) (by intro a; simp only [itms, List.set_cons_zero, List.set_cons_succ, putL, List.cons_append, List.nil_append, List.append_nil, List.append_assoc, List.map_append, List.map_cons, List.map_nil, cnt_append, cnt_cons, cnt_nil] <;> omega), ?_⟩
                  refine RO.sub (O' := ([rowI mb mc 23 1 (bvals qs), rowI wb wc 5 1 (byts u), objI z1 (.cells (List.toArray [(.int .i64 d.vars), (.int .i64 d.start), (.slice nb d.next.length nc), (.slice fb d.final.length fc)]) 25 (0, 0))] ++ (bitms 4 qs))) (Sub.cnt [] (by intro a; simp only [itms, List.set_cons_zero, List.set_cons_succ, putL, List.cons_append, List.nil_append, List.append_nil, List.append_assoc, List.map_append, List.map_cons, List.map_nil, cnt_append, cnt_cons, cnt_nil] <;> omega)) ?_
                  refine RO.fork [12] (by kernel_rfl) rfl ⟨⟨_, rfl, rfl, LT.of_quiet rfl rfl (q_ix (i := (toN d a x)) Tryd.underlying63 inf23 rfl rfl (rowO (List.mem_of_getElem? (i := 0) rfl)) hta (by rw [List.length_map, hM.len]; exact hta)) ⟨Sub.pick0 [2] [rowI mb mc 23 1 (bvals qs), rowI wb wc 5 1 (byts u), objI z1 (.cells (List.toArray [(.int .i64 d.vars), (.int .i64 d.start), (.slice nb d.next.length nc), (.slice fb d.final.length fc)]) 25 (0, 0))] (bitms 4 qs) rfl rfl, ?_⟩⟩, trivial⟩
                  refine RO.fork [13] (by kernel_rfl) rfl ⟨⟨_, rfl, rfl, LT.of_quiet rfl rfl (q_ld Tryd.underlying23 rfl rfl (rowO (List.mem_of_getElem? (i := 0) rfl)) gc) ⟨Sub.pick0 [2] [rowI mb mc 23 1 (bvals qs), rowI wb wc 5 1 (byts u), objI z1 (.cells (List.toArray [(.int .i64 d.vars), (.int .i64 d.start), (.slice nb d.next.length nc), (.slice fb d.final.length fc)]) 25 (0, 0))] (bitms 4 qs) rfl rfl, ?_⟩⟩, trivial⟩
                  refine RO.fork [22] (by kernel_rfl) rfl ⟨⟨_, rfl, rfl, LT.of_quiet rfl rfl (q_ix (i := (toN d b x)) Tryd.underlying23 inf4 rfl rfl (fun w hI => hI.slOf (T := 4) (k := 1) (List.mem_append_right _ (List.mem_map_of_mem (f := BRec.itm 4) mc9))) htb (lc ▸ htb)) ⟨Sub.pick0 [2] [rowI mb mc 23 1 (bvals qs), rowI wb wc 5 1 (byts u), objI z1 (.cells (List.toArray [(.int .i64 d.vars), (.int .i64 d.start), (.slice nb d.next.length nc), (.slice fb d.final.length fc)]) 25 (0, 0))] (bitms 4 qs) rfl rfl, ?_⟩⟩, trivial⟩
                  refine RO.fork [23] (by kernel_rfl) rfl ⟨⟨_, rfl, rfl, LT.of_quiet rfl rfl (q_ld Tryd.underlying4 rfl rfl (fun w hI => hI.slOf (T := 4) (k := 1) (List.mem_append_right _ (List.mem_map_of_mem (f := BRec.itm 4) mc9))) (ec _ htb)) ⟨Sub.pick0 [2] [rowI mb mc 23 1 (bvals qs), rowI wb wc 5 1 (byts u), objI z1 (.cells (List.toArray [(.int .i64 d.vars), (.int .i64 d.start), (.slice nb d.next.length nc), (.slice fb d.final.length fc)]) 25 (0, 0))] (bitms 4 qs) rfl rfl, ?_⟩⟩, trivial⟩
                  refine RO.fork [24] (by kernel_rfl) rfl ⟨⟨_, rfl, rfl, LT.of_quiet rfl rfl (q_not rfl) ⟨Sub.pick0 [2] [rowI mb mc 23 1 (bvals qs), rowI wb wc 5 1 (byts u), objI z1 (.cells (List.toArray [(.int .i64 d.vars), (.int .i64 d.start), (.slice nb d.next.length nc), (.slice fb d.final.length fc)]) 25 (0, 0))] (bitms 4 qs) rfl rfl, ?_⟩⟩, trivial⟩
                  exact RO.sub (O' := [rowI wb wc 5 1 (byts u), objI z1 (.cells (List.toArray [(.int .i64 d.vars), (.int .i64 d.start), (.slice nb d.next.length nc), (.slice fb d.final.length fc)]) 25 (0, 0))]) (Sub.cnt ([rowI mb mc 23 1 (bvals qs)] ++ bitms 4 qs) (by intro a; simp only [itms, List.set_cons_zero, List.set_cons_succ, putL, List.cons_append, List.nil_append, List.append_nil, List.append_assoc, List.map_append, List.map_cons, List.map_nil, cnt_append, cnt_cons, cnt_nil] <;> omega)) (RO.done (by kernel_rfl) ⟨rfl, ⟨rfl, rfl, rfl, rfl, rfl, rfl, rfl, rfl, rfl, rfl, rfl, rfl, trivial⟩⟩)
                · rintro ρ O ⟨rfl, hH⟩
                  obtain ⟨ρ0, rfl⟩ := hH.elim
                  clear hH
                  refine T.cond rfl (fun hc => ?_) (fun hc => ?_)
                  · have hxd : dif d m1 (toN d a x) (toN d b x) = false := by simpa using hc
                    have hxn : x ≠ x0 := fun e => by subst e; rw [hxd0] at hxd; cases hxd
                    refine T.skip ?_
                    refine T.block ?_
                    refine T.region ?_
                    refine TO.quiet (q_move rfl) ?_
                    refine TO.quiet (q_inc rfl rfl (by omega)) ?_
                    refine TO.quiet (q_assign rfl) ?_
                    refine TO.nil ?_
                    refine ⟨x + 1, by omega, rfl, by omega, fun y hy => ?_, ⟨rfl, rfl, rfl, rfl, rfl, rfl, rfl, rfl, rfl, rfl, rfl, trivial⟩⟩
                    by_cases e : y = x
                    · subst e; exact hxd
                    · exact hxj y (by omega)
                  · have hxd : dif d m1 (toN d a x) (toN d b x) = true := by simpa using hc
                    refine T.exit ?_
                    refine T.seq ?_
                    refine T.region ?_
                    refine TO.quiet (q_move rfl) ?_
                    refine TO.quiet (q_move rfl) ?_
                    refine TO.quiet (q_conv_id Tryd.underlying3 Tryd.underlying5 rfl (wrap8 (by omega))) ?_
                    refine TO.loud rfl (l_build1 (v := .int .u8 (x : Int)) Tryd.underlying42 inf5 rfl rfl rfl (fun z2 => ?_))
                    refine TO.loud rfl (l_append 1 Tryd.underlying42 Tryd.underlying42 inf5 rfl rfl rfl rfl (by rw [List.length_map, Nat.mul_one]; exact hwl.symm) (by decide) (Src.row (j := 0) rfl (by simp)) (by simp [oneB]) (by omega) (by decide) (by decide) (fun z3 zc4 => ?_))
                    refine TO.quiet (q_assign rfl) ?_
                    refine TO.nil ?_
                    refine T.seq ?_
                    refine T.draws _ [(0, 0), (1, 0), (2, 0), (3, 0), (4, 0), (5, 0), (6, 0), (7, 0), (8, 0), (9, 0), (10, 0), (11, 0), (12, 0), (13, 0), (14, 0), (15, 0), (16, 0), (17, 0)] mixed (by kernel_rfl) (Sub.of (List.Sublist.refl _)) (fun _ _ _ h => h) ?_
                    refine DO.quiet rfl (q_fieldAddr Tryd.underlying25 rfl inf22 rfl rfl) ?_
                    refine DO.quiet rfl (q_load_box 2 Tryd.underlying22 rfl rfl rfl rfl) ?_
                    refine DO.quiet rfl (q_move rfl) ?_
                    refine DO.quiet rfl (q_ix (i := a) Tryd.underlying22 inf33 rfl rfl (Sl.o h.outer) ha (hvl ▸ ha)) ?_
                    refine DO.quiet rfl (q_ld Tryd.underlying33 rfl rfl (Sl.o h.outer) g1) ?_
                    refine DO.quiet rfl (q_move rfl) ?_
                    refine DO.quiet rfl (q_ix (i := x) Tryd.underlying33 inf3 rfl rfl (Sl.o s1) (by rw [hl1]; exact hlx) (by rw [List.length_map, hl1]; exact hlx)) ?_
                    refine DO.quiet rfl (q_ld Tryd.underlying3 rfl rfl (Sl.o s1) hx1) ?_
                    refine DO.quiet rfl (q_fieldAddr Tryd.underlying25 rfl inf22 rfl rfl) ?_
                    refine DO.quiet rfl (q_load_box 2 Tryd.underlying22 rfl rfl rfl rfl) ?_
                    refine DO.quiet rfl (q_move rfl) ?_
                    refine DO.quiet rfl (q_ix (i := b) Tryd.underlying22 inf33 rfl rfl (Sl.o h.outer) hb9 (hvl ▸ hb9)) ?_
                    refine DO.quiet rfl (q_ld Tryd.underlying33 rfl rfl (Sl.o h.outer) g2) ?_
                    refine DO.quiet rfl (q_move rfl) ?_
                    refine DO.quiet rfl (q_ix (i := x) Tryd.underlying33 inf3 rfl rfl (Sl.o s2) (by rw [hl2]; exact hlx) (by rw [List.length_map, hl2]; exact hlx)) ?_
                    refine DO.quiet rfl (q_ld Tryd.underlying3 rfl rfl (Sl.o s2) hx2) ?_
                    refine DO.quiet rfl (q_assign rfl) ?_
                    refine DO.quiet rfl (q_assign rfl) ?_
                    refine DO.done ?_
                    refine T.region ?_
                    refine TO.quiet (q_move rfl) ?_
                    refine TO.quiet (QT.cast (q_sub64 rfl rfl (by omega)) (v' := .int .i64 (m1 : Int)) (by rw [show ((m1 + 1 : Nat) : Int) - 1 = (m1 : Int) by omega])) ?_
                    refine TO.quiet (q_assign rfl) ?_
                    refine TO.sub (O' := [rowI z3 zc4 5 1 ((byts u) ++ [.int .u8 (x : Int)]), objI z1 (.cells (List.toArray [(.int .i64 d.vars), (.int .i64 d.start), (.slice nb d.next.length nc), (.slice fb d.final.length fc)]) 25 (0, 0))]) (Sub.pick [1, 1] rfl) ?_
                    refine TO.nil ?_
                    exact ⟨m1, by omega, toN d a x, toN d b x, z3, zc4, wl + 1, u ++ [x], by simp, hta, htb, by omega, by simp [hwl], hxd, dif_no_prev hv hmj hlx, fun v h9 => by rw [List.append_assoc]; exact hle _ (least_cons hv hmj hlx hxd hxj h9), ⟨rfl, rfl, rfl, rfl, rfl, rfl, rfl, rfl, rfl, rfl, trivial⟩⟩
            · have hge63 : ¬ m > 0 := by omega
              refine T.exit ?_
              refine T.seq ?_
              refine T.region ?_
              refine TO.quiet (q_move rfl) ?_
              refine TO.quiet (q_assign rfl) ?_
              refine TO.quiet (q_assign rfl) ?_
              refine TO.quiet (q_assign rfl) ?_
              refine TO.nil ?_
              refine T.ret ?_
              refine Res.drop ?_
              refine Res.three (.slice wb wl wc) (.bool true) (.int .i64 0) Tryd.results26 rfl rfl rfl ?_
              have hm0 : m = 0 := by omega
              rw [hm0] at hma
              exact ⟨[rowI wb wc 5 1 (byts u)], (Sub.pick [0] rfl), some u, by have := hle [] (least_nil hma); rwa [List.append_nil] at this, wb, wc, by rw [hwl], rfl⟩
    · refine TO.quiet (QT.toB (q_leq rfl rfl) (decide_eq_false hkn)) ?_
      refine TO.quiet (q_move rfl) ?_
      refine TO.passed rfl rfl ?_
      refine TO.passed rfl rfl ?_
      refine TO.passed rfl rfl ?_
      refine TO.passed rfl rfl ?_
      refine TO.passed rfl rfl ?_
      refine TO.passed rfl rfl ?_
      refine TO.passed rfl rfl ?_
      refine TO.passed rfl rfl ?_
      refine TO.passed rfl rfl ?_
      refine TO.passed rfl rfl ?_
      refine TO.quiet (q_pick0 rfl rfl) ?_
      refine TO.nil ?_
      refine T.cond0 rfl ?_
      refine T.exit ?_
      refine T.seq ?_
      refine T.seq ?_
      skip
      refine T.region ?_
      refine TO.quiet (q_move rfl) ?_
      refine TO.quiet (q_fieldAddr Tryd.underlying25 rfl inf22 rfl rfl) ?_
      refine TO.quiet (q_load_box 0 Tryd.underlying22 rfl rfl rfl rfl) ?_
      refine TO.quiet (q_len Tryd.underlying22 rfl) ?_
      by_cases hbig : (k : Int) > (d.next.length : Int)
      · refine TO.quiet (QT.toB (q_gtr rfl rfl) (decide_eq_true hbig)) ?_
        refine TO.nil ?_
        refine T.cond1 rfl ?_
        refine T.seq ?_
        refine T.region ?_
        refine TO.quiet (q_assign rfl) ?_
        refine TO.quiet (q_assign rfl) ?_
        refine TO.quiet (q_assign rfl) ?_
        refine TO.nil ?_
        refine T.ret ?_
        refine Res.drop ?_
        refine Res.three (.slice none 0 0) (.bool false) (.int .i64 0) Tryd.results26 rfl rfl rfl ?_
        exact ⟨[], Sub.of (List.nil_sublist _), none, tell_none hv hs ht (fun j hj => hkj j (by omega)), rfl, rfl⟩
      · refine TO.quiet (QT.toB (q_gtr rfl rfl) (decide_eq_false hbig)) ?_
        refine TO.nil ?_
        refine T.cond0 rfl ?_
        refine T.skip ?_
        refine T.seq ?_
        have hkd : dif d k s t = true := by first | assumption | (exfalso; omega)
        have hkn9 : k ≤ d.next.length := by omega
        refine T.region ?_
        refine TO.quiet (q_assign rfl) ?_
        refine TO.nil ?_
        refine T.seq ?_
        refine T.block ?_
        refine T.nilRow 5 1 ?_
        refine T.loop (fun (m : Nat) ρ O => ∃ (a b : Nat) (wb : Option Addr) (wc wl : Nat) (u : List Nat), O = [rowI wb wc 5 1 (byts u), objI z1 (.cells (List.toArray [(.int .i64 d.vars), (.int .i64 d.start), (.slice nb d.next.length nc), (.slice fb d.final.length fc)]) 25 (0, 0))] ∧ a < d.next.length ∧ b < d.next.length ∧ wl + m ≤ d.next.length ∧ wl = u.length ∧ dif d m a b = true ∧ (∀ j, j < m → dif d j a b = false) ∧ (∀ v, IsLeast d a b v → IsLeast d s t (u ++ v)) ∧ Heads [(0, (.agg #[(.int .i64 d.vars), (.int .i64 d.start), (.slice nb d.next.length nc), (.slice fb d.final.length fc)])), (1, .int .i64 (a : Int)), (2, .int .i64 (b : Int)), (3, (.pointer (some ⟨z1, 0, none⟩))), (6, (.slice none 0 0)), (7, .bool false), (8, .int .i64 0), (9, .int .i64 ((0 : Nat) : Int)), (10, .int .i64 (m : Int)), (11, (.slice wb wl wc))] ρ) (fun m => m) k ?_ ?_
        · exact ⟨s, t, none, 0, 0, [], rfl, hs, ht, by omega, rfl, hkd, hkj, fun v h => h, ⟨rfl, rfl, rfl, rfl, rfl, rfl, rfl, rfl, rfl, rfl, trivial⟩⟩
        · rintro m ρ O ⟨a, b, wb, wc, wl, u, rfl, ha, hb9, hul, hwl, hma, hmj, hle, hH⟩
          obtain ⟨ρ0, rfl⟩ := hH.elim
          clear hH
          refine T.seq ?_
          refine T.seq ?_
          refine T.region ?_
          refine TO.quiet (q_move rfl) ?_
          refine TO.quiet (q_gtr rfl rfl) ?_
          refine TO.nil ?_
          refine T.condP rfl (fun hc => ?_) (fun hc => ?_)
          · have hlt63 : m > 0 := by omega
            refine T.skip ?_
            refine T.block ?_
            refine T.seq ?_
            obtain ⟨m1, rfl⟩ : ∃ m1, m = m1 + 1 := ⟨m - 1, by omega⟩
            obtain ⟨x0, hx0, hxd0⟩ := dif_letter hma (hmj m1 (by omega))
            obtain ⟨vb1, vc1, g1, s1⟩ := h.rows.get ha
            obtain ⟨vb2, vc2, g2, s2⟩ := h.rows.get hb9
            have hl1 : d.next[a].length = 2 ^ d.vars.toNat := hv.len _ (List.getElem_mem ha)
            have hl2 : d.next[b].length = 2 ^ d.vars.toNat := hv.len _ (List.getElem_mem hb9)
            refine T.region ?_
            refine TO.quiet (q_assign rfl) ?_
            refine TO.nil ?_
            refine T.seq ?_
            refine T.block ?_
            refine T.loop (fun (x : Nat) ρ O => O = [rowI wb wc 5 1 (byts u), objI z1 (.cells (List.toArray [(.int .i64 d.vars), (.int .i64 d.start), (.slice nb d.next.length nc), (.slice fb d.final.length fc)]) 25 (0, 0))] ∧ x ≤ x0 ∧ (∀ y, y < x → dif d m1 (toN d a y) (toN d b y) = false) ∧ Heads [(0, (.agg #[(.int .i64 d.vars), (.int .i64 d.start), (.slice nb d.next.length nc), (.slice fb d.final.length fc)])), (1, .int .i64 (a : Int)), (2, .int .i64 (b : Int)), (3, (.pointer (some ⟨z1, 0, none⟩))), (6, (.slice none 0 0)), (7, .bool false), (8, .int .i64 0), (9, .int .i64 ((0 : Nat) : Int)), (10, .int .i64 ((m1 + 1 : Nat) : Int)), (11, (.slice wb wl wc)), (12, .int .i64 (x : Int))] ρ) (fun x => x0 - x) 0 ?_ ?_
            · exact ⟨rfl, Nat.zero_le _, fun y hy => absurd hy (by omega), ⟨rfl, rfl, rfl, rfl, rfl, rfl, rfl, rfl, rfl, rfl, rfl, trivial⟩⟩
            · rintro x ρ O ⟨rfl, hx, hxj, hH⟩
              obtain ⟨ρ0, rfl⟩ := hH.elim
              clear hH
              have hlx : x < 2 ^ d.vars.toNat := by unfold letN at hx0; omega
              obtain ⟨hta, _, hxk1, hx1⟩ := hv.toN_lt ha hlx
              obtain ⟨htb, _, hxk2, hx2⟩ := hv.toN_lt hb9 hlx
              have hx1 : (ints d.next[a])[x]? = some (.int .i64 ((toN d a x : Nat) : Int)) := by rw [ints_get hxk1, hx1]
              have hx2 : (ints d.next[b])[x]? = some (.int .i64 ((toN d b x : Nat) : Int)) := by rw [ints_get hxk2, hx2]
              refine T.seq ?_
              refine T.cut (fun ρ O => O = [rowI wb wc 5 1 (byts u), objI z1 (.cells (List.toArray [(.int .i64 d.vars), (.int .i64 d.start), (.slice nb d.next.length nc), (.slice fb d.final.length fc)]) 25 (0, 0))] ∧ Heads [(0, (.agg #[(.int .i64 d.vars), (.int .i64 d.start), (.slice nb d.next.length nc), (.slice fb d.final.length fc)])), (1, .int .i64 (a : Int)), (2, .int .i64 (b : Int)), (3, (.pointer (some ⟨z1, 0, none⟩))), (6, (.slice none 0 0)), (7, .bool false), (8, .int .i64 0), (9, .int .i64 ((0 : Nat) : Int)), (10, .int .i64 ((m1 + 1 : Nat) : Int)), (11, (.slice wb wl wc)), (12, .int .i64 (x : Int)), (88, .bool (!(dif d m1 (toN d a x) (toN d b x))))] ρ) ?_ ?_
              · refine T.tree [objI z1 (.cells (List.toArray [(.int .i64 d.vars), (.int .i64 d.start), (.slice nb d.next.length nc), (.slice fb d.final.length fc)]) 25 (0, 0))] 25 mixed rfl (Sub.pick [1] rfl) (fun _ _ _ h => h) ?_
                refine RO.quietT 0 rfl (by kernel_rfl) (q_load_boxAgg 0 Tryd.underlying25 rfl inf25 rfl rfl rfl) ?_
                refine RO.quietT 1 rfl (by kernel_rfl) (q_move rfl) ?_
                refine RO.quietT 2 rfl (by kernel_rfl) (q_sub64 rfl rfl (by omega)) ?_
                refine RO.quietT 4 rfl (by kernel_rfl) (q_fieldAddr Tryd.underlying25 rfl inf22 rfl rfl) ?_
                refine RO.quietT 5 rfl (by kernel_rfl) (q_load_box 0 Tryd.underlying22 rfl rfl rfl rfl) ?_
                refine RO.quietT 6 rfl (by kernel_rfl) (q_move rfl) ?_
                refine RO.quietT 7 rfl (by kernel_rfl) (q_ix (i := a) Tryd.underlying22 inf33 rfl rfl (Sl.o h.outer) ha (hvl ▸ ha)) ?_
                refine RO.quietT 8 rfl (by kernel_rfl) (q_ld Tryd.underlying33 rfl rfl (Sl.o h.outer) g1) ?_
                refine RO.quietT 9 rfl (by kernel_rfl) (q_move rfl) ?_
                refine RO.quietT 10 rfl (by kernel_rfl) (q_ix (i := x) Tryd.underlying33 inf3 rfl rfl (Sl.o s1) (by rw [hl1]; exact hlx) (by rw [List.length_map, hl1]; exact hlx)) ?_
                refine RO.quietT 11 rfl (by kernel_rfl) (q_ld Tryd.underlying3 rfl rfl (Sl.o s1) hx1) ?_
                refine RO.quietT 14 rfl (by kernel_rfl) (q_fieldAddr Tryd.underlying25 rfl inf22 rfl rfl) ?_
                refine RO.quietT 15 rfl (by kernel_rfl) (q_load_box 0 Tryd.underlying22 rfl rfl rfl rfl) ?_
                refine RO.quietT 16 rfl (by kernel_rfl) (q_move rfl) ?_
                refine RO.quietT 17 rfl (by kernel_rfl) (q_ix (i := b) Tryd.underlying22 inf33 rfl rfl (Sl.o h.outer) hb9 (hvl ▸ hb9)) ?_
                refine RO.quietT 18 rfl (by kernel_rfl) (q_ld Tryd.underlying33 rfl rfl (Sl.o h.outer) g2) ?_
                refine RO.quietT 19 rfl (by kernel_rfl) (q_move rfl) ?_
                refine RO.quietT 20 rfl (by kernel_rfl) (q_ix (i := x) Tryd.underlying33 inf3 rfl rfl (Sl.o s2) (by rw [hl2]; exact hlx) (by rw [List.length_map, hl2]; exact hlx)) ?_
                refine RO.quietT 21 rfl (by kernel_rfl) (q_ld Tryd.underlying3 rfl rfl (Sl.o s2) hx2) ?_
                have hk67 := fun (w1 : World) (hI : Inv w [rowI wb wc 5 1 (byts u), objI z1 (.cells (List.toArray [(.int .i64 d.vars), (.int .i64 d.start), (.slice nb d.next.length nc), (.slice fb d.final.length fc)]) 25 (0, 0))] w1) => differC w1 d nb fb nc fc vs (hI.dfa h) hv hn (((m1 + 1 : Nat) : Int) - 1)
                refine RO.fork [3] (by kernel_rfl) rfl ⟨⟨_, rfl, rfl, l_call ent41 (CallT.of_pure hk67) rfl ?_⟩, trivial⟩
                clear hk67
                rintro v O' ⟨N, rfl, mb, mc, qs, rfl, rfl, hM⟩
                rw [show min (((m1 + 1 : Nat) : Int) - 1).toNat d.next.length = m1 by omega] at hM
                obtain ⟨qc, mc9, gc, lc, ec⟩ := hM.get hta
                refine ⟨Sub.cnt ([rowI mb mc 23 1 (bvals qs), rowI wb wc 5 1 (byts u)] ++ (bitms 4 qs)) (by intro a; simp only [itms, List.set_cons_zero, List.set_cons_succ, putL, List.cons_append, List.nil_append, List.append_nil, List.append_assoc, List.map_append, List.map_cons, List.map_nil, cnt_append, cnt_cons, cnt_nil] <;> omega), ?_⟩
                refine RO.sub (O' := ([rowI mb mc 23 1 (bvals qs), rowI wb wc 5 1 (byts u), objI z1 (.cells (List.toArray [(.int .i64 d.vars), (.int .i64 d.start), (.slice nb d.next.length nc), (.slice fb d.final.length fc)]) 25 (0, 0))] ++ (bitms 4 qs))) (Sub.cnt [] (by intro a; simp only [itms, List.set_cons_zero, List.set_cons_succ, putL, List.cons_append, List.nil_append, List.append_nil, List.append_assoc, List.map_append, List.map_cons, List.map_nil, cnt_append, cnt_cons, cnt_nil] <;> omega)) ?_
                refine RO.fork [12] (by kernel_rfl) rfl ⟨⟨_, rfl, rfl, LT.of_quiet rfl rfl (q_ix (i := (toN d a x)) Tryd.underlying63 inf23 rfl rfl (rowO (List.mem_of_getElem? (i := 0) rfl)) hta (by rw [List.length_map, hM.len]; exact hta)) ⟨Sub.pick0 [2] [rowI mb mc 23 1 (bvals qs), rowI wb wc 5 1 (byts u), objI z1 (.cells (List.toArray [(.int .i64 d.vars), (.int .i64 d.start), (.slice nb d.next.length nc), (.slice fb d.final.length fc)]) 25 (0, 0))] (bitms 4 qs) rfl rfl, ?_⟩⟩, trivial⟩
                refine RO.fork [13] (by kernel_rfl) rfl ⟨⟨_, rfl, rfl, LT.of_quiet rfl rfl (q_ld Tryd.underlying23 rfl rfl (rowO (List.mem_of_getElem? (i := 0) rfl)) gc) ⟨Sub.pick0 [2] [rowI mb mc 23 1 (bvals qs), rowI wb wc 5 1 (byts u), objI z1 (.cells (List.toArray [(.int .i64 d.vars), (.int .i64 d.start), (.slice nb d.next.length nc), (.slice fb d.final.length fc)]) 25 (0, 0))] (bitms 4 qs) rfl rfl, ?_⟩⟩, trivial⟩
                refine RO.fork [22] (by kernel_rfl) rfl ⟨⟨_, rfl, rfl, LT.of_quiet rfl rfl (q_ix (i := (toN d b x)) Tryd.underlying23 inf4 rfl rfl (fun w hI => hI.slOf (T := 4) (k := 1) (List.mem_append_right _ (List.mem_map_of_mem (f := BRec.itm 4) mc9))) htb (lc ▸ htb)) ⟨Sub.pick0 [2] [rowI mb mc 23 1 (bvals qs), rowI wb wc 5 1 (byts u), objI z1 (.cells (List.toArray [(.int .i64 d.vars), (.int .i64 d.start), (.slice nb d.next.length nc), (.slice fb d.final.length fc)]) 25 (0, 0))] (bitms 4 qs) rfl rfl, ?_⟩⟩, trivial⟩
                refine RO.fork [23] (by kernel_rfl) rfl ⟨⟨_, rfl, rfl, LT.of_quiet rfl rfl (q_ld Tryd.underlying4 rfl rfl (fun w hI => hI.slOf (T := 4) (k := 1) (List.mem_append_right _ (List.mem_map_of_mem (f := BRec.itm 4) mc9))) (ec _ htb)) ⟨Sub.pick0 [2] [rowI mb mc 23 1 (bvals qs), rowI wb wc 5 1 (byts u), objI z1 (.cells (List.toArray [(.int .i64 d.vars), (.int .i64 d.start), (.slice nb d.next.length nc), (.slice fb d.final.length fc)]) 25 (0, 0))] (bitms 4 qs) rfl rfl, ?_⟩⟩, trivial⟩
                refine RO.fork [24] (by kernel_rfl) rfl ⟨⟨_, rfl, rfl, LT.of_quiet rfl rfl (q_not rfl) ⟨Sub.pick0 [2] [rowI mb mc 23 1 (bvals qs), rowI wb wc 5 1 (byts u), objI z1 (.cells (List.toArray [(.int .i64 d.vars), (.int .i64 d.start), (.slice nb d.next.length nc), (.slice fb d.final.length fc)]) 25 (0, 0))] (bitms 4 qs) rfl rfl, ?_⟩⟩, trivial⟩
                exact RO.sub (O' := [rowI wb wc 5 1 (byts u), objI z1 (.cells (List.toArray [(.int .i64 d.vars), (.int .i64 d.start), (.slice nb d.next.length nc), (.slice fb d.final.length fc)]) 25 (0, 0))]) (Sub.cnt ([rowI mb mc 23 1 (bvals qs)] ++ bitms 4 qs) (by intro a; simp only [itms, List.set_cons_zero, List.set_cons_succ, putL, List.cons_append, List.nil_append, List.append_nil, List.append_assoc, List.map_append, List.map_cons, List.map_nil, cnt_append, cnt_cons, cnt_nil] <;> omega)) (RO.done (by kernel_rfl) ⟨rfl, ⟨rfl, rfl, rfl, rfl, rfl, rfl, rfl, rfl, rfl, rfl, rfl, rfl, trivial⟩⟩)
              · rintro ρ O ⟨rfl, hH⟩
                obtain ⟨ρ0, rfl⟩ := hH.elim
                clear hH
                refine T.cond rfl (fun hc => ?_) (fun hc => ?_)
                · have hxd : dif d m1 (toN d a x) (toN d b x) = false := by simpa using hc
                  have hxn : x ≠ x0 := fun e => by subst e; rw [hxd0] at hxd; cases hxd
                  refine T.skip ?_
                  refine T.block ?_
                  refine T.region ?_
                  refine TO.quiet (q_move rfl) ?_
                  refine TO.quiet (q_inc rfl rfl (by omega)) ?_
                  refine TO.quiet (q_assign rfl) ?_
                  refine TO.nil ?_
                  refine ⟨x + 1, by omega, rfl, by omega, fun y hy => ?_, ⟨rfl, rfl, rfl, rfl, rfl, rfl, rfl, rfl, rfl, rfl, rfl, trivial⟩⟩
                  by_cases e : y = x
                  · subst e; exact hxd
                  · exact hxj y (by omega)
                · have hxd : dif d m1 (toN d a x) (toN d b x) = true := by simpa using hc
                  refine T.exit ?_
                  refine T.seq ?_
                  refine T.region ?_
                  refine TO.quiet (q_move rfl) ?_
                  refine TO.quiet (q_move rfl) ?_
                  refine TO.quiet (q_conv_id Tryd.underlying3 Tryd.underlying5 rfl (wrap8 (by omega))) ?_
                  refine TO.loud rfl (l_build1 (v := .int .u8 (x : Int)) Tryd.underlying42 inf5 rfl rfl rfl (fun z5 => ?_))
                  refine TO.loud rfl (l_append 1 Tryd.underlying42 Tryd.underlying42 inf5 rfl rfl rfl rfl (by rw [List.length_map, Nat.mul_one]; exact hwl.symm) (by decide) (Src.row (j := 0) rfl (by simp)) (by simp [oneB]) (by omega) (by decide) (by decide) (fun z6 zc7 => ?_))
                  refine TO.quiet (q_assign rfl) ?_
                  refine TO.nil ?_
                  refine T.seq ?_
                  refine T.draws _ [(0, 0), (1, 0), (2, 0), (3, 0), (4, 0), (5, 0), (6, 0), (7, 0), (8, 0), (9, 0), (10, 0), (11, 0), (12, 0), (13, 0), (14, 0), (15, 0), (16, 0), (17, 0)] mixed (by kernel_rfl) (Sub.of (List.Sublist.refl _)) (fun _ _ _ h => h) ?_
                  refine DO.quiet rfl (q_fieldAddr Tryd.underlying25 rfl inf22 rfl rfl) ?_
                  refine DO.quiet rfl (q_load_box 2 Tryd.underlying22 rfl rfl rfl rfl) ?_
                  refine DO.quiet rfl (q_move rfl) ?_
                  refine DO.quiet rfl (q_ix (i := a) Tryd.underlying22 inf33 rfl rfl (Sl.o h.outer) ha (hvl ▸ ha)) ?_
                  refine DO.quiet rfl (q_ld Tryd.underlying33 rfl rfl (Sl.o h.outer) g1) ?_
                  refine DO.quiet rfl (q_move rfl) ?_
                  refine DO.quiet rfl (q_ix (i := x) Tryd.underlying33 inf3 rfl rfl (Sl.o s1) (by rw [hl1]; exact hlx) (by rw [List.length_map, hl1]; exact hlx)) ?_
                  refine DO.quiet rfl (q_ld Tryd.underlying3 rfl rfl (Sl.o s1) hx1) ?_
                  refine DO.quiet rfl (q_fieldAddr Tryd.underlying25 rfl inf22 rfl rfl) ?_
                  refine DO.quiet rfl (q_load_box 2 Tryd.underlying22 rfl rfl rfl rfl) ?_
                  refine DO.quiet rfl (q_move rfl) ?_
                  refine DO.quiet rfl (q_ix (i := b) Tryd.underlying22 inf33 rfl rfl (Sl.o h.outer) hb9 (hvl ▸ hb9)) ?_
                  refine DO.quiet rfl (q_ld Tryd.underlying33 rfl rfl (Sl.o h.outer) g2) ?_
                  refine DO.quiet rfl (q_move rfl) ?_
                  refine DO.quiet rfl (q_ix (i := x) Tryd.underlying33 inf3 rfl rfl (Sl.o s2) (by rw [hl2]; exact hlx) (by rw [List.length_map, hl2]; exact hlx)) ?_
                  refine DO.quiet rfl (q_ld Tryd.underlying3 rfl rfl (Sl.o s2) hx2) ?_
                  refine DO.quiet rfl (q_assign rfl) ?_
                  refine DO.quiet rfl (q_assign rfl) ?_
                  refine DO.done ?_
                  refine T.region ?_
                  refine TO.quiet (q_move rfl) ?_
                  refine TO.quiet (QT.cast (q_sub64 rfl rfl (by omega)) (v' := .int .i64 (m1 : Int)) (by rw [show ((m1 + 1 : Nat) : Int) - 1 = (m1 : Int) by omega])) ?_
                  refine TO.quiet (q_assign rfl) ?_
                  refine TO.sub (O' := [rowI z6 zc7 5 1 ((byts u) ++ [.int .u8 (x : Int)]), objI z1 (.cells (List.toArray [(.int .i64 d.vars), (.int .i64 d.start), (.slice nb d.next.length nc), (.slice fb d.final.length fc)]) 25 (0, 0))]) (Sub.pick [1, 1] rfl) ?_
                  refine TO.nil ?_
                  exact ⟨m1, by omega, toN d a x, toN d b x, z6, zc7, wl + 1, u ++ [x], by simp, hta, htb, by omega, by simp [hwl], hxd, dif_no_prev hv hmj hlx, fun v h9 => by rw [List.append_assoc]; exact hle _ (least_cons hv hmj hlx hxd hxj h9), ⟨rfl, rfl, rfl, rfl, rfl, rfl, rfl, rfl, rfl, rfl, trivial⟩⟩
          · have hge63 : ¬ m > 0 := by omega
            refine T.exit ?_
            refine T.seq ?_
            refine T.region ?_
            refine TO.quiet (q_move rfl) ?_
            refine TO.quiet (q_assign rfl) ?_
            refine TO.quiet (q_assign rfl) ?_
            refine TO.quiet (q_assign rfl) ?_
            refine TO.nil ?_
            refine T.ret ?_
            refine Res.drop ?_
            refine Res.three (.slice wb wl wc) (.bool true) (.int .i64 0) Tryd.results26 rfl rfl rfl ?_
            have hm0 : m = 0 := by omega
            rw [hm0] at hma
            exact ⟨[rowI wb wc 5 1 (byts u)], (Sub.pick [0] rfl), some u, by have := hle [] (least_nil hma); rwa [List.append_nil] at this, wb, wc, by rw [hwl], rfl⟩
end Go.Proofs.YthfemndklplpbaaDoor
