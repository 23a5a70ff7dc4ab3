/- Contracts of functions of the program (LawR): what each call answers and that it leaves memory as it was. Conditions: those each theorem names. -/
import Derived.Test.YthfemndklplpbaaDoorAwk
import Derived.Test.YthfemndklplpbaaDoorRnd
set_option linter.unusedSectionVars false
set_option linter.unusedSimpArgs false
set_option linter.unusedVariables false
set_option linter.unnecessarySimpa false
namespace Go.Proofs.YthfemndklplpbaaDoor
open Go.Lx Go.RowKit
set_option linter.unusedVariables false
set_option linter.unusedSimpArgs false

theorem equalNatsE (w : World) (b1 b2 : Option Addr) (c1 c2 m n : Nat) (xs ys : List Nat) (hm : m = xs.length) (hn : n = ys.length) (he : xs = ys) (h1 : Sl w b1 (nats xs)) (h2 : Sl w b2 (nats ys)) (hb : xs.length < 9223372036854775807) :
    PureT Tryd.prog 21 [.slice b1 m c1, .slice b2 n c2] w fun v N => v = .bool true ∧ N = [] := by
  subst he; exact equalNatsT w b1 b2 c1 c2 m n xs hm hn h1 h2 hb

theorem equalNatsB (w : World) (b1 b2 : Option Addr) (c1 c2 m n : Nat) (xs ys : List Nat) (hm : m = xs.length) (hn : n = ys.length) (h1 : Sl w b1 (nats xs)) (h2 : Sl w b2 (nats ys)) (hb : xs.length < 9223372036854775807) {β : Bool} (hβ : decide (xs = ys) = β) :
    PureT Tryd.prog 21 [.slice b1 m c1, .slice b2 n c2] w fun v N => v = .bool β ∧ N = [] := by
  subst hβ; exact equalNats w b1 b2 c1 c2 m n xs ys hm hn h1 h2 hb

set_option maxHeartbeats 4000000 in
set_option maxRecDepth 20000 in
theorem roundsLaw (w : World) (d : DFA) (nb fb : Option Addr) (nc fc : Nat) (vs : List Value) (h : DfaAt w d nb vs fb) (hb : d.next.length < 9223372036854775807) (hbr : ∀ r ∈ d.next, r.length < 9223372036854775807) (hbf : d.final.length < 9223372036854775807) (k : Int) (hkk : 0 ≤ k ∧ k < 256) (s t : Int) :
    PureT Tryd.prog 4 [.agg (dfaCells d nb nc fb fc).toArray, .int .u8 k, .int .i64 s, .int .i64 t] w fun v N => v = .bool true ∧ N = [] := by
  refine CallT.enter Tryd.func4 rfl Tryd.ntmps4 rfl ?_
  have hk0 : 0 ≤ k.tmod 8 := Int.tmod_nonneg 8 hkk.1
  have hk8 : k.tmod 8 < 8 := Int.tmod_lt_of_pos k (by decide)
  refine T.seq ?_
  refine T.region ?_
  refine TO.loud rfl (l_box (v := (.agg #[(.int .i64 d.vars), (.int .i64 d.start), (.slice nb d.next.length nc), (.slice fb d.final.length fc)])) (cs := [(.int .i64 d.vars), (.int .i64 d.start), (.slice nb d.next.length nc), (.slice fb d.final.length fc)]) rfl rfl (fun z1 => ?_))
  refine TO.quiet (q_assign rfl) ?_
  refine TO.nil ?_
  refine T.seq ?_
  refine T.seq ?_
  refine T.region ?_
  refine TO.quiet (q_load_boxAgg 0 Tryd.underlying25 rfl inf25 rfl rfl rfl) ?_
  refine TO.loud rfl (l_buildSlice (m := 1) (parts := [(0, _)]) (cs := [(.int .i64 d.vars), (.int .i64 d.start), (.slice nb d.next.length nc), (.slice fb d.final.length fc)]) Tryd.underlying58 inf25 (by decide) (by kernel_rfl) rfl (fun z2 => ?_))
  by_cases hlong : longD d = true
  · have hk23 := fun (w1 : World) (hI : Inv w [rowI (some ⟨z2, 0, none⟩) 1 25 4 [(.int .i64 d.vars), (.int .i64 d.start), (.slice nb d.next.length nc), (.slice fb d.final.length fc)], objI z1 (.cells (List.toArray [(.int .i64 d.vars), (.int .i64 d.start), (.slice nb d.next.length nc), (.slice fb d.final.length fc)]) 25 (0, 0))] w1) => long1 w1 (some ⟨z2, 0, none⟩) 1 d nb fb nc fc vs (hI.slOf (List.mem_of_getElem? (i := 0) rfl)) (hI.dfa h) hb
    refine TO.loud rfl (l_call ent10 (CallT.of_pure hk23) rfl ?_)
    clear hk23
    rintro v O' ⟨N, rfl, rfl, rfl⟩
    rw [decide_eq_true hlong]
    refine TO.quiet (q_move rfl) ?_
    refine TO.passed rfl rfl ?_
    refine TO.passed rfl rfl ?_
    refine TO.quiet (q_pick1 rfl rfl) ?_
    refine TO.sub (O' := [objI z1 (.cells (List.toArray [(.int .i64 d.vars), (.int .i64 d.start), (.slice nb d.next.length nc), (.slice fb d.final.length fc)]) 25 (0, 0))]) (Sub.pick [1] rfl) ?_
    refine TO.nil ?_
    refine T.cond1 rfl ?_
    refine T.seq ?_
    refine T.region ?_
    have hk28 := fun (w1 : World) (hI : Inv w [objI z1 (.cells (List.toArray [(.int .i64 d.vars), (.int .i64 d.start), (.slice nb d.next.length nc), (.slice fb d.final.length fc)]) 25 (0, 0))] w1) => awakeC w1
    refine TO.loud rfl (l_call ent12 (CallT.of_pure hk28) rfl ?_)
    clear hk28
    rintro v O' ⟨N, rfl, rfl, rfl⟩
    refine TO.quiet (q_assign rfl) ?_
    refine TO.nil ?_
    refine T.ret ?_
    refine Res.drop ?_
    refine Res.one (.bool true) Tryd.results4 rfl ?_
    exact ⟨[], Sub.of (List.nil_sublist _), rfl, rfl⟩
  · have hk23 := fun (w1 : World) (hI : Inv w [rowI (some ⟨z2, 0, none⟩) 1 25 4 [(.int .i64 d.vars), (.int .i64 d.start), (.slice nb d.next.length nc), (.slice fb d.final.length fc)], objI z1 (.cells (List.toArray [(.int .i64 d.vars), (.int .i64 d.start), (.slice nb d.next.length nc), (.slice fb d.final.length fc)]) 25 (0, 0))] w1) => long1 w1 (some ⟨z2, 0, none⟩) 1 d nb fb nc fc vs (hI.slOf (List.mem_of_getElem? (i := 0) rfl)) (hI.dfa h) hb
    refine TO.loud rfl (l_call ent10 (CallT.of_pure hk23) rfl ?_)
    clear hk23
    rintro v O' ⟨N, rfl, rfl, rfl⟩
    rw [decide_eq_false hlong]
    refine TO.quiet (q_move rfl) ?_
    have hk25 := fun (w1 : World) (hI : Inv w [rowI (some ⟨z2, 0, none⟩) 1 25 4 [(.int .i64 d.vars), (.int .i64 d.start), (.slice nb d.next.length nc), (.slice fb d.final.length fc)], objI z1 (.cells (List.toArray [(.int .i64 d.vars), (.int .i64 d.start), (.slice nb d.next.length nc), (.slice fb d.final.length fc)]) 25 (0, 0))] w1) => awakeC w1
    refine TO.guarded rfl rfl rfl (l_call ent12 (CallT.of_pure hk25) rfl ?_)
    clear hk25
    rintro v O' ⟨N, rfl, rfl, rfl⟩
    refine TO.guarded rfl rfl rfl (LT.of_quiet rfl rfl (q_not rfl) ?_)
    refine TO.quiet (q_pick0 rfl rfl) ?_
    refine TO.sub (O' := [objI z1 (.cells (List.toArray [(.int .i64 d.vars), (.int .i64 d.start), (.slice nb d.next.length nc), (.slice fb d.final.length fc)]) 25 (0, 0))]) (Sub.pick [1] rfl) ?_
    refine TO.nil ?_
    refine T.cond0 rfl ?_
    refine T.skip ?_
    refine T.seq ?_
    obtain ⟨hB1, hB2, hB3⟩ := longD_false hlong
    have hN : Valid d → d.next.length < 100 := fun _ => by omega
    refine T.region ?_
    refine TO.quiet (q_move rfl) ?_
    refine TO.quiet (q_rem rfl rfl (by decide)) ?_
    refine TO.quiet (q_conv_id Tryd.underlying5 Tryd.underlying3 rfl (wrap64_id ⟨by omega, by omega⟩)) ?_
    refine TO.quiet (q_assign rfl) ?_
    refine TO.nil ?_
    refine T.seq ?_
    refine T.region ?_
    refine TO.quiet (q_load_boxAgg 0 Tryd.underlying25 rfl inf25 rfl rfl rfl) ?_
    refine TO.quiet (q_move rfl) ?_
    have hk35 := fun (w1 : World) (hI : Inv w [objI z1 (.cells (List.toArray [(.int .i64 d.vars), (.int .i64 d.start), (.slice nb d.next.length nc), (.slice fb d.final.length fc)]) 25 (0, 0))] w1) => roundsA w1 d nb fb nc fc vs (hI.dfa h) hb hbr hbf hN (k.tmod 8) (by omega)
    refine TO.loud rfl (l_call ent19 (CallT.of_pure hk35) rfl ?_)
    clear hk35
    rintro v O' ⟨N, rfl, la, lac, rfl, rfl⟩
    refine TO.quiet (q_move rfl) ?_
    refine TO.quiet (q_extract (vs := _) rfl rfl) ?_
    refine TO.quiet (q_extract (vs := _) rfl rfl) ?_
    refine TO.quiet (q_assign rfl) ?_
    refine TO.quiet (q_assign rfl) ?_
    refine TO.nil ?_
    refine T.seq ?_
    refine T.region ?_
    refine TO.quiet (q_load_boxAgg 1 Tryd.underlying25 rfl inf25 rfl rfl rfl) ?_
    refine TO.quiet (q_move rfl) ?_
    refine TO.quiet (q_add64 rfl rfl (by omega)) ?_
    have hk42 := fun (w1 : World) (hI : Inv w [rowI la lac 3 1 (nats (rndsV d (k.tmod 8))), objI z1 (.cells (List.toArray [(.int .i64 d.vars), (.int .i64 d.start), (.slice nb d.next.length nc), (.slice fb d.final.length fc)]) 25 (0, 0))] w1) => roundsA w1 d nb fb nc fc vs (hI.dfa h) hb hbr hbf hN ((k.tmod 8) + 1) (by omega)
    refine TO.loud rfl (l_call ent19 (CallT.of_pure hk42) rfl ?_)
    clear hk42
    rintro v O' ⟨N, rfl, lb, lbc, rfl, rfl⟩
    refine TO.quiet (q_move rfl) ?_
    refine TO.quiet (q_extract (vs := _) rfl rfl) ?_
    refine TO.quiet (q_extract (vs := _) rfl rfl) ?_
    refine TO.quiet (q_assign rfl) ?_
    refine TO.quiet (q_assign rfl) ?_
    refine TO.nil ?_
    refine T.seq ?_
    refine T.region ?_
    refine TO.quiet (q_load_boxAgg 2 Tryd.underlying25 rfl inf25 rfl rfl rfl) ?_
    have hk47 := fun (w1 : World) (hI : Inv w [rowI lb lbc 3 1 (nats (rndsV d ((k.tmod 8) + 1))), rowI la lac 3 1 (nats (rndsV d (k.tmod 8))), objI z1 (.cells (List.toArray [(.int .i64 d.vars), (.int .i64 d.start), (.slice nb d.next.length nc), (.slice fb d.final.length fc)]) 25 (0, 0))] w1) => classesA w1 d nb fb nc fc vs (hI.dfa h) hb hbr hbf hN
    refine TO.loud rfl (l_call ent18 (CallT.of_pure hk47) rfl ?_)
    clear hk47
    rintro v O' ⟨N, rfl, lc, lcc, rfl, rfl⟩
    refine TO.quiet (q_move rfl) ?_
    refine TO.quiet (q_extract (vs := _) rfl rfl) ?_
    refine TO.quiet (q_extract (vs := _) rfl rfl) ?_
    refine TO.quiet (q_assign rfl) ?_
    refine TO.quiet (q_assign rfl) ?_
    refine TO.nil ?_
    refine T.seq ?_
    refine T.seq ?_
    refine T.region ?_
    refine TO.quiet (q_move rfl) ?_
    by_cases hE : (checkD d : Int) ≠ 0
    · refine TO.quiet (QT.toB (q_neq rfl rfl) (decide_eq_true hE)) ?_
      refine TO.nil ?_
      refine T.cond1 rfl ?_
      refine T.seq ?_
      refine T.region ?_
      refine TO.quiet (q_move rfl) ?_
      refine TO.quiet (q_move rfl) ?_
      refine TO.quiet (QT.toB (q_eql rfl rfl) (decide_eq_true rfl)) ?_
      refine TO.quiet (q_move rfl) ?_
      refine TO.guarded rfl rfl rfl (LT.of_quiet rfl rfl (q_move rfl) ?_)
      refine TO.guarded rfl rfl rfl (LT.of_quiet rfl rfl (q_move rfl) ?_)
      refine TO.guarded rfl rfl rfl (LT.of_quiet rfl rfl (QT.toB (q_eql rfl rfl) (decide_eq_true rfl)) ?_)
      refine TO.quiet (q_pick1 rfl rfl) ?_
      refine TO.quiet (q_move rfl) ?_
      refine TO.guarded rfl rfl rfl (LT.of_quiet rfl rfl (q_load_boxAgg 3 Tryd.underlying25 rfl inf25 rfl rfl rfl) ?_)
      have hk62 := fun (w1 : World) (hI : Inv w [rowI lc lcc 3 1 (nats (rndsV d d.next.length)), rowI lb lbc 3 1 (nats (rndsV d ((k.tmod 8) + 1))), rowI la lac 3 1 (nats (rndsV d (k.tmod 8))), objI z1 (.cells (List.toArray [(.int .i64 d.vars), (.int .i64 d.start), (.slice nb d.next.length nc), (.slice fb d.final.length fc)]) 25 (0, 0))] w1) => subsetCheck w1 d nb fb nc fc vs (hI.dfa h) hb hbr hbf
      refine TO.guarded rfl rfl rfl (l_call ent24 (CallT.of_pure hk62) rfl ?_)
      clear hk62
      rintro v O' ⟨N, rfl, rfl, rfl⟩
      refine TO.guarded rfl rfl rfl (LT.of_quiet rfl rfl (q_move rfl) ?_)
      refine TO.guarded rfl rfl rfl (LT.of_quiet rfl rfl (QT.toB (q_eql rfl rfl) (decide_eq_true rfl)) ?_)
      refine TO.quiet (q_pick1 rfl rfl) ?_
      refine TO.quiet (q_assign rfl) ?_
      refine TO.nil ?_
      refine T.ret ?_
      refine Res.drop ?_
      refine Res.one (.bool true) Tryd.results4 rfl ?_
      exact ⟨[], Sub.of (List.nil_sublist _), rfl, rfl⟩
    · refine TO.quiet (QT.toB (q_neq rfl rfl) (decide_eq_false hE)) ?_
      refine TO.nil ?_
      refine T.cond0 rfl ?_
      refine T.skip ?_
      refine T.seq ?_
      refine T.seq ?_
      have hv : Valid d := checkD_zero.1 (by omega)
      have hla := rndsV_len hv (k.tmod 8)
      have hlb := rndsV_len hv ((k.tmod 8) + 1)
      have hlc := rndsV_len hv d.next.length
      refine T.region ?_
      refine TO.quiet (q_move rfl) ?_
      refine TO.quiet (QT.toB (q_neq rfl rfl) (decide_eq_false hE)) ?_
      refine TO.quiet (q_move rfl) ?_
      refine TO.guarded rfl rfl rfl (LT.of_quiet rfl rfl (q_move rfl) ?_)
      refine TO.guarded rfl rfl rfl (LT.of_quiet rfl rfl (QT.toB (q_neq rfl rfl) (decide_eq_false hE)) ?_)
      refine TO.quiet (q_pick0 rfl rfl) ?_
      refine TO.quiet (q_move rfl) ?_
      refine TO.guarded rfl rfl rfl (LT.of_quiet rfl rfl (q_move rfl) ?_)
      refine TO.guarded rfl rfl rfl (LT.of_quiet rfl rfl (q_len Tryd.underlying33 rfl) ?_)
      refine TO.guarded rfl rfl rfl (LT.of_quiet rfl rfl (q_fieldAddr Tryd.underlying25 rfl inf22 rfl rfl) ?_)
      refine TO.guarded rfl rfl rfl (LT.of_quiet rfl rfl (q_load_box 3 Tryd.underlying22 rfl rfl rfl rfl) ?_)
      refine TO.guarded rfl rfl rfl (LT.of_quiet rfl rfl (q_len Tryd.underlying22 rfl) ?_)
      refine TO.guarded rfl rfl rfl (LT.of_quiet rfl rfl (QT.toB (q_neq rfl rfl) (decide_eq_false (by omega))) ?_)
      refine TO.quiet (q_pick0 rfl rfl) ?_
      refine TO.quiet (q_move rfl) ?_
      refine TO.guarded rfl rfl rfl (LT.of_quiet rfl rfl (q_move rfl) ?_)
      refine TO.guarded rfl rfl rfl (LT.of_quiet rfl rfl (q_len Tryd.underlying33 rfl) ?_)
      refine TO.guarded rfl rfl rfl (LT.of_quiet rfl rfl (q_move rfl) ?_)
      refine TO.guarded rfl rfl rfl (LT.of_quiet rfl rfl (q_len Tryd.underlying33 rfl) ?_)
      refine TO.guarded rfl rfl rfl (LT.of_quiet rfl rfl (QT.toB (q_neq rfl rfl) (decide_eq_false (by omega))) ?_)
      refine TO.quiet (q_pick0 rfl rfl) ?_
      refine TO.quiet (q_move rfl) ?_
      refine TO.guarded rfl rfl rfl (LT.of_quiet rfl rfl (q_move rfl) ?_)
      refine TO.guarded rfl rfl rfl (LT.of_quiet rfl rfl (q_len Tryd.underlying33 rfl) ?_)
      refine TO.guarded rfl rfl rfl (LT.of_quiet rfl rfl (q_move rfl) ?_)
      refine TO.guarded rfl rfl rfl (LT.of_quiet rfl rfl (q_len Tryd.underlying33 rfl) ?_)
      refine TO.guarded rfl rfl rfl (LT.of_quiet rfl rfl (QT.toB (q_neq rfl rfl) (decide_eq_false (by omega))) ?_)
      refine TO.quiet (q_pick0 rfl rfl) ?_
      refine TO.nil ?_
      refine T.cond0 rfl ?_
      refine T.skip ?_
      refine T.seq ?_
      refine T.seq ?_
      
      refine T.region ?_
      refine TO.quiet (q_move rfl) ?_
      refine TO.quiet (q_move rfl) ?_
      by_cases hab : rndsV d (k.tmod 8) = rndsV d ((k.tmod 8) + 1)
      · have hk96 := fun (w1 : World) (hI : Inv w [rowI lc lcc 3 1 (nats (rndsV d d.next.length)), rowI lb lbc 3 1 (nats (rndsV d ((k.tmod 8) + 1))), rowI la lac 3 1 (nats (rndsV d (k.tmod 8))), objI z1 (.cells (List.toArray [(.int .i64 d.vars), (.int .i64 d.start), (.slice nb d.next.length nc), (.slice fb d.final.length fc)]) 25 (0, 0))] w1) => equalNatsB w1 la lb lac lbc _ _ (rndsV d (k.tmod 8)) (rndsV d ((k.tmod 8) + 1)) rfl rfl (hI.slOf (List.mem_of_getElem? (i := 2) rfl)) (hI.slOf (List.mem_of_getElem? (i := 1) rfl)) (by omega) (decide_eq_true hab)
        refine TO.loud rfl (l_call ent21 (CallT.of_pure hk96) rfl ?_)
        clear hk96
        rintro v O' ⟨N, rfl, rfl, rfl⟩
        refine TO.quiet (q_move rfl) ?_
        refine TO.guarded rfl rfl rfl (LT.of_quiet rfl rfl (q_move rfl) ?_)
        refine TO.guarded rfl rfl rfl (LT.of_quiet rfl rfl (q_move rfl) ?_)
        have hk100 := fun (w1 : World) (hI : Inv w [rowI lc lcc 3 1 (nats (rndsV d d.next.length)), rowI lb lbc 3 1 (nats (rndsV d ((k.tmod 8) + 1))), rowI la lac 3 1 (nats (rndsV d (k.tmod 8))), objI z1 (.cells (List.toArray [(.int .i64 d.vars), (.int .i64 d.start), (.slice nb d.next.length nc), (.slice fb d.final.length fc)]) 25 (0, 0))] w1) => equalNatsE w1 la lc lac lcc _ _ (rndsV d (k.tmod 8)) (rndsV d d.next.length) rfl rfl (rnds_stable hv hk0 hab) (hI.slOf (List.mem_of_getElem? (i := 2) rfl)) (hI.slOf (List.mem_of_getElem? (i := 0) rfl)) (by omega)
        refine TO.guarded rfl rfl rfl (l_call ent21 (CallT.of_pure hk100) rfl ?_)
        clear hk100
        rintro v O' ⟨N, rfl, rfl, rfl⟩
        refine TO.guarded rfl rfl rfl (LT.of_quiet rfl rfl (q_not rfl) ?_)
        refine TO.quiet (q_pick1 rfl rfl) ?_
        refine TO.nil ?_
        refine T.cond0 rfl ?_
        refine T.skip ?_
        refine T.seq ?_
        refine T.seq ?_
        refine T.region ?_
        refine TO.quiet (q_assign rfl) ?_
        refine TO.nil ?_
        refine T.block ?_
        refine T.loop (fun (i : Nat) ρ O => O = [rowI lc lcc 3 1 (nats (rndsV d d.next.length)), rowI lb lbc 3 1 (nats (rndsV d ((k.tmod 8) + 1))), rowI la lac 3 1 (nats (rndsV d (k.tmod 8))), objI z1 (.cells (List.toArray [(.int .i64 d.vars), (.int .i64 d.start), (.slice nb d.next.length nc), (.slice fb d.final.length fc)]) 25 (0, 0))] ∧ i ≤ d.next.length ∧ Heads [(0, (.agg #[(.int .i64 d.vars), (.int .i64 d.start), (.slice nb d.next.length nc), (.slice fb d.final.length fc)])), (1, .int .u8 k), (2, .int .i64 s), (3, .int .i64 t), (4, (.pointer (some ⟨z1, 0, none⟩))), (9, .int .i64 (k.tmod 8)), (10, (.slice la ((rndsV d (k.tmod 8)).length) lac)), (11, .int .i64 (checkD d : Int)), (12, (.slice lb ((rndsV d ((k.tmod 8) + 1)).length) lbc)), (13, .int .i64 (checkD d : Int)), (14, (.slice lc ((rndsV d d.next.length).length) lcc)), (15, .int .i64 (checkD d : Int)), (16, .int .i64 (i : Int))] ρ) (fun i => d.next.length - i) 0 ?_ ?_
        · exact ⟨rfl, Nat.zero_le _, ⟨rfl, rfl, rfl, rfl, rfl, rfl, rfl, rfl, rfl, rfl, rfl, rfl, rfl, trivial⟩⟩
        · rintro i ρ O ⟨rfl, hi, hH⟩
          obtain ⟨ρ0, rfl⟩ := hH.elim
          clear hH
          refine T.seq ?_
          refine T.seq ?_
          refine T.region ?_
          refine TO.quiet (q_move rfl) ?_
          refine TO.quiet (q_move rfl) ?_
          refine TO.quiet (q_len Tryd.underlying33 rfl) ?_
          refine TO.quiet (q_lss rfl rfl) ?_
          refine TO.nil ?_
          refine T.condP rfl (fun hc => ?_) (fun hc => ?_)
          · have hlt106 : i < (rndsV d (k.tmod 8)).length := by omega
            have hia : i < (rndsV d (k.tmod 8)).length := by omega
            have hib : i < (rndsV d ((k.tmod 8) + 1)).length := by omega
            refine T.skip ?_
            refine T.seq ?_
            refine T.block ?_
            refine T.seq ?_
            refine T.region ?_
            refine TO.quiet (q_assign rfl) ?_
            refine TO.nil ?_
            refine T.block ?_
            refine T.loop (fun (j : Nat) ρ O => O = [rowI lc lcc 3 1 (nats (rndsV d d.next.length)), rowI lb lbc 3 1 (nats (rndsV d ((k.tmod 8) + 1))), rowI la lac 3 1 (nats (rndsV d (k.tmod 8))), objI z1 (.cells (List.toArray [(.int .i64 d.vars), (.int .i64 d.start), (.slice nb d.next.length nc), (.slice fb d.final.length fc)]) 25 (0, 0))] ∧ j ≤ d.next.length ∧ Heads [(0, (.agg #[(.int .i64 d.vars), (.int .i64 d.start), (.slice nb d.next.length nc), (.slice fb d.final.length fc)])), (1, .int .u8 k), (2, .int .i64 s), (3, .int .i64 t), (4, (.pointer (some ⟨z1, 0, none⟩))), (9, .int .i64 (k.tmod 8)), (10, (.slice la ((rndsV d (k.tmod 8)).length) lac)), (11, .int .i64 (checkD d : Int)), (12, (.slice lb ((rndsV d ((k.tmod 8) + 1)).length) lbc)), (13, .int .i64 (checkD d : Int)), (14, (.slice lc ((rndsV d d.next.length).length) lcc)), (15, .int .i64 (checkD d : Int)), (16, .int .i64 (i : Int)), (17, .int .i64 (j : Int))] ρ) (fun j => d.next.length - j) 0 ?_ ?_
            · exact ⟨rfl, Nat.zero_le _, ⟨rfl, rfl, rfl, rfl, rfl, rfl, rfl, rfl, rfl, rfl, rfl, rfl, rfl, rfl, trivial⟩⟩
            · rintro j ρ O ⟨rfl, hj, hH⟩
              obtain ⟨ρ0, rfl⟩ := hH.elim
              clear hH
              refine T.seq ?_
              refine T.seq ?_
              refine T.region ?_
              refine TO.quiet (q_move rfl) ?_
              refine TO.quiet (q_move rfl) ?_
              refine TO.quiet (q_len Tryd.underlying33 rfl) ?_
              refine TO.quiet (q_lss rfl rfl) ?_
              refine TO.nil ?_
              refine T.condP rfl (fun hc => ?_) (fun hc => ?_)
              · have hlt112 : j < (rndsV d (k.tmod 8)).length := by omega
                have hja : j < (rndsV d (k.tmod 8)).length := by omega
                have hjb : j < (rndsV d ((k.tmod 8) + 1)).length := by omega
                refine T.skip ?_
                refine T.seq ?_
                refine T.block ?_
                refine T.seq ?_
                refine T.draws _ [(0, 0), (1, 0), (2, 0), (3, 0), (4, 0), (5, 0), (6, 0), (7, 0), (8, 0), (9, 0), (10, 0), (11, 0), (12, 0), (13, 0), (14, 0), (15, 0), (16, 0), (17, 0), (18, 0), (19, 0)] mixed (by kernel_rfl) (Sub.of (List.Sublist.refl _)) (fun _ _ _ h => h) ?_
                refine DO.quiet rfl (q_move rfl) ?_
                refine DO.quiet rfl (q_move rfl) ?_
                refine DO.quiet rfl (q_ix (i := i) Tryd.underlying33 inf3 rfl rfl (rowO (List.mem_of_getElem? (i := 1) rfl)) hib (by rw [List.length_map]; exact hib)) ?_
                refine DO.quiet rfl (q_ld Tryd.underlying3 rfl rfl (rowO (List.mem_of_getElem? (i := 1) rfl)) (nats_get hib)) ?_
                refine DO.quiet rfl (q_move rfl) ?_
                refine DO.quiet rfl (q_move rfl) ?_
                refine DO.quiet rfl (q_ix (i := j) Tryd.underlying33 inf3 rfl rfl (rowO (List.mem_of_getElem? (i := 1) rfl)) hjb (by rw [List.length_map]; exact hjb)) ?_
                refine DO.quiet rfl (q_ld Tryd.underlying3 rfl rfl (rowO (List.mem_of_getElem? (i := 1) rfl)) (nats_get hjb)) ?_
                by_cases hbij : (((rndsV d ((k.tmod 8) + 1))[i] : Nat) : Int) = (((rndsV d ((k.tmod 8) + 1))[j] : Nat) : Int)
                · refine DO.quiet rfl (QT.toB (q_eql rfl rfl) (decide_eq_true hbij)) ?_
                  refine DO.quiet rfl (q_move rfl) ?_
                  refine DO.guarded rfl rfl rfl (q_move rfl) ?_
                  refine DO.guarded rfl rfl rfl (q_move rfl) ?_
                  refine DO.guarded rfl rfl rfl (q_ix (i := i) Tryd.underlying33 inf3 rfl rfl (rowO (List.mem_of_getElem? (i := 2) rfl)) hia (by rw [List.length_map]; exact hia)) ?_
                  refine DO.guarded rfl rfl rfl (q_ld Tryd.underlying3 rfl rfl (rowO (List.mem_of_getElem? (i := 2) rfl)) (nats_get hia)) ?_
                  refine DO.guarded rfl rfl rfl (q_move rfl) ?_
                  refine DO.guarded rfl rfl rfl (q_move rfl) ?_
                  refine DO.guarded rfl rfl rfl (q_ix (i := j) Tryd.underlying33 inf3 rfl rfl (rowO (List.mem_of_getElem? (i := 2) rfl)) hja (by rw [List.length_map]; exact hja)) ?_
                  refine DO.guarded rfl rfl rfl (q_ld Tryd.underlying3 rfl rfl (rowO (List.mem_of_getElem? (i := 2) rfl)) (nats_get hja)) ?_
                  refine DO.guarded rfl rfl rfl (QT.toB (q_neq rfl rfl) (decide_eq_false (fun h9 => h9 (congrArg (fun x : Nat => (x : Int)) (rnds_split hv hk0 hia hja hib hjb (by omega)))))) ?_
                  refine DO.quiet rfl (q_pick1 rfl rfl) ?_
                  refine DO.done ?_
                  refine T.cond0 rfl ?_
                  refine T.skip ?_
                  refine T.region ?_
                  refine TO.quiet (q_move rfl) ?_
                  refine TO.quiet (q_inc rfl rfl (by omega)) ?_
                  refine TO.quiet (q_assign rfl) ?_
                  refine TO.nil ?_
                  exact ⟨j + 1, by omega, rfl, by omega, ⟨rfl, rfl, rfl, rfl, rfl, rfl, rfl, rfl, rfl, rfl, rfl, rfl, rfl, rfl, trivial⟩⟩
                · refine DO.quiet rfl (QT.toB (q_eql rfl rfl) (decide_eq_false hbij)) ?_
                  refine DO.quiet rfl (q_move rfl) ?_
                  refine DO.passed rfl rfl rfl ?_
                  refine DO.passed rfl rfl rfl ?_
                  refine DO.passed rfl rfl rfl ?_
                  refine DO.passed rfl rfl rfl ?_
                  refine DO.passed rfl rfl rfl ?_
                  refine DO.passed rfl rfl rfl ?_
                  refine DO.passed rfl rfl rfl ?_
                  refine DO.passed rfl rfl rfl ?_
                  refine DO.passed rfl rfl rfl ?_
                  refine DO.quiet rfl (q_pick0 rfl rfl) ?_
                  refine DO.done ?_
                  refine T.cond0 rfl ?_
                  refine T.skip ?_
                  refine T.region ?_
                  refine TO.quiet (q_move rfl) ?_
                  refine TO.quiet (q_inc rfl rfl (by omega)) ?_
                  refine TO.quiet (q_assign rfl) ?_
                  refine TO.nil ?_
                  exact ⟨j + 1, by omega, rfl, by omega, ⟨rfl, rfl, rfl, rfl, rfl, rfl, rfl, rfl, rfl, rfl, rfl, rfl, rfl, rfl, trivial⟩⟩
              · have hge112 : ¬ j < (rndsV d (k.tmod 8)).length := by omega
                refine T.exit ?_
                refine T.region ?_
                refine TO.quiet (q_move rfl) ?_
                refine TO.quiet (q_inc rfl rfl (by omega)) ?_
                refine TO.quiet (q_assign rfl) ?_
                refine TO.nil ?_
                exact ⟨i + 1, by omega, rfl, by omega, ⟨rfl, rfl, rfl, rfl, rfl, rfl, rfl, rfl, rfl, rfl, rfl, rfl, rfl, trivial⟩⟩
          · have hge106 : ¬ i < (rndsV d (k.tmod 8)).length := by omega
            refine T.exit ?_
            refine T.seq ?_
            refine T.region ?_
            refine TO.quiet (q_load_boxAgg 3 Tryd.underlying25 rfl inf25 rfl rfl rfl) ?_
            refine TO.quiet (q_move rfl) ?_
            refine TO.quiet (q_move rfl) ?_
            have hk139 := fun (w1 : World) (hI : Inv w [rowI lc lcc 3 1 (nats (rndsV d d.next.length)), rowI lb lbc 3 1 (nats (rndsV d ((k.tmod 8) + 1))), rowI la lac 3 1 (nats (rndsV d (k.tmod 8))), objI z1 (.cells (List.toArray [(.int .i64 d.vars), (.int .i64 d.start), (.slice nb d.next.length nc), (.slice fb d.final.length fc)]) 25 (0, 0))] w1) => distA w1 d nb fb nc fc vs (hI.dfa h) hb hbr hbf hN s t
            refine TO.loud rfl (l_call ent25 (CallT.of_pure hk139) rfl ?_)
            clear hk139
            rintro v O' ⟨N, rfl, res, wb, wc, hT, rfl, rfl⟩
            refine TO.quiet (q_move rfl) ?_
            refine TO.quiet (q_extract (vs := _) rfl rfl) ?_
            refine TO.quiet (q_extract (vs := _) rfl rfl) ?_
            refine TO.quiet (q_extract (vs := _) rfl rfl) ?_
            refine TO.quiet (q_assign rfl) ?_
            refine TO.quiet (q_assign rfl) ?_
            refine TO.quiet (q_assign rfl) ?_
            refine TO.nil ?_
            refine T.seq ?_
            refine T.seq ?_
            refine T.region ?_
            refine TO.quiet (q_move rfl) ?_
            by_cases hE2 : (eD d s t : Int) ≠ 0
            · refine TO.quiet (QT.toB (q_neq rfl rfl) (decide_eq_true hE2)) ?_
              refine TO.nil ?_
              refine T.cond1 rfl ?_
              refine T.seq ?_
              refine T.region ?_
              refine TO.quiet (q_move rfl) ?_
              refine TO.quiet (QT.toB (q_eql rfl rfl) (decide_eq_true (by have := eD_eight (s := s) (t := t) hv (by omega); omega))) ?_
              refine TO.quiet (q_assign rfl) ?_
              refine TO.nil ?_
              refine T.ret ?_
              refine Res.drop ?_
              refine Res.one (.bool true) Tryd.results4 rfl ?_
              exact ⟨[], Sub.of (List.nil_sublist _), rfl, rfl⟩
            · refine TO.quiet (QT.toB (q_neq rfl rfl) (decide_eq_false hE2)) ?_
              refine TO.nil ?_
              refine T.cond0 rfl ?_
              refine T.skip ?_
              refine T.seq ?_
              have h0 : eD d s t = 0 := by omega
              obtain ⟨_, h1, h2, h3, h4⟩ := eD_zero.1 h0
              obtain ⟨sn, rfl⟩ : ∃ n : Nat, s = (n : Int) := ⟨s.toNat, by omega⟩
              obtain ⟨tn, rfl⟩ : ∃ n : Nat, t = (n : Int) := ⟨t.toNat, by omega⟩
              have hTl : Tell d sn tn res := hT.tell hv (by omega) (by omega)
              have hsa : sn < (rndsV d (k.tmod 8)).length := by omega
              have hta : tn < (rndsV d (k.tmod 8)).length := by omega
              have hsc : sn < (rndsV d d.next.length).length := by omega
              have htc : tn < (rndsV d d.next.length).length := by omega
              have hA := rnds_tell hv hk0 hsa hta hTl
              have hC := cls_tell hv hsc htc hTl
              refine T.draws _ [(0, 0), (1, 0), (2, 0), (3, 0), (4, 0), (5, 0), (6, 0), (7, 0), (8, 0), (9, 0), (10, 0), (11, 0), (12, 0), (13, 0), (14, 0), (15, 0), (16, 0), (17, 0), (18, 0), (19, 0), (20, 0), (21, 0), (22, 0), (23, 0), (24, 0), (25, 0), (26, 0), (27, 0), (28, 0), (29, 0), (30, 0)] mixed (by kernel_rfl) (Sub.of (List.Sublist.refl _)) (fun _ _ _ h => h) ?_
              refine DO.quiet rfl (q_move rfl) ?_
              refine DO.quiet rfl (q_move rfl) ?_
              refine DO.quiet rfl (q_ix (i := sn) Tryd.underlying33 inf3 rfl rfl (rowO (List.mem_of_getElem? (i := 3) rfl)) hsa (by rw [List.length_map]; exact hsa)) ?_
              refine DO.quiet rfl (q_ld Tryd.underlying3 rfl rfl (rowO (List.mem_of_getElem? (i := 3) rfl)) (nats_get hsa)) ?_
              refine DO.quiet rfl (q_move rfl) ?_
              refine DO.quiet rfl (q_move rfl) ?_
              refine DO.quiet rfl (q_ix (i := tn) Tryd.underlying33 inf3 rfl rfl (rowO (List.mem_of_getElem? (i := 3) rfl)) hta (by rw [List.length_map]; exact hta)) ?_
              refine DO.quiet rfl (q_ld Tryd.underlying3 rfl rfl (rowO (List.mem_of_getElem? (i := 3) rfl)) (nats_get hta)) ?_
              refine DO.quiet rfl (q_neq rfl rfl) ?_
              by_cases his : res.isSome = true
              · refine DO.quiet rfl (QT.toB (QT.cast (q_move rfl) (v' := .bool (decide (res.isSome = true))) (show Value.bool res.isSome = _ from congrArg Value.bool (by simp))) (decide_eq_true his)) ?_
                refine DO.quiet rfl (q_move rfl) ?_
                refine DO.guarded rfl rfl rfl (q_move rfl) ?_
                refine DO.guarded rfl rfl rfl (q_len Tryd.underlying42 rfl) ?_
                refine DO.guarded rfl rfl rfl (q_move rfl) ?_
                refine DO.guarded rfl rfl rfl (q_leq rfl rfl) ?_
                refine DO.quiet rfl (q_pick1 rfl rfl) ?_
                refine DO.quiet rfl (QT.cast (q_beql Tryd.underlying4 rfl rfl) (v' := .bool true) (by first | exact congrArg Value.bool (beq_iff_eq.2 (decide_eq_decide.2 (hA.trans ⟨fun h => h.2, fun h => ⟨his, h⟩⟩))) | exact congrArg Value.bool (beq_iff_eq.2 (decide_eq_false (fun h => his (hA.1 h).1))))) ?_
                refine DO.quiet rfl (q_move rfl) ?_
                refine DO.guarded rfl rfl rfl (q_move rfl) ?_
                refine DO.guarded rfl rfl rfl (q_move rfl) ?_
                refine DO.guarded rfl rfl rfl (q_ix (i := sn) Tryd.underlying33 inf3 rfl rfl (rowO (List.mem_of_getElem? (i := 1) rfl)) hsc (by rw [List.length_map]; exact hsc)) ?_
                refine DO.guarded rfl rfl rfl (q_ld Tryd.underlying3 rfl rfl (rowO (List.mem_of_getElem? (i := 1) rfl)) (nats_get hsc)) ?_
                refine DO.guarded rfl rfl rfl (q_move rfl) ?_
                refine DO.guarded rfl rfl rfl (q_move rfl) ?_
                refine DO.guarded rfl rfl rfl (q_ix (i := tn) Tryd.underlying33 inf3 rfl rfl (rowO (List.mem_of_getElem? (i := 1) rfl)) htc (by rw [List.length_map]; exact htc)) ?_
                refine DO.guarded rfl rfl rfl (q_ld Tryd.underlying3 rfl rfl (rowO (List.mem_of_getElem? (i := 1) rfl)) (nats_get htc)) ?_
                refine DO.guarded rfl rfl rfl (q_neq rfl rfl) ?_
                refine DO.guarded rfl rfl rfl (q_move rfl) ?_
                refine DO.guarded rfl rfl rfl (QT.cast (q_beql Tryd.underlying4 rfl rfl) (v' := .bool true) (by first | exact congrArg Value.bool (beq_iff_eq.2 ((decide_eq_true (hC.2 his)).trans his.symm)) | exact congrArg Value.bool (beq_iff_eq.2 ((decide_eq_false (fun h => his (hC.1 h))).trans (Bool.not_eq_true _ ▸ his).symm)))) ?_
                refine DO.quiet rfl (q_pick1 rfl rfl) ?_
                refine DO.quiet rfl (q_assign rfl) ?_
                refine DO.done ?_
                refine T.ret ?_
                refine Res.drop ?_
                refine Res.one (.bool true) Tryd.results4 rfl ?_
                exact ⟨[], Sub.of (List.nil_sublist _), rfl, rfl⟩
              · refine DO.quiet rfl (QT.toB (QT.cast (q_move rfl) (v' := .bool (decide (res.isSome = true))) (show Value.bool res.isSome = _ from congrArg Value.bool (by simp))) (decide_eq_false his)) ?_
                refine DO.quiet rfl (q_move rfl) ?_
                refine DO.passed rfl rfl rfl ?_
                refine DO.passed rfl rfl rfl ?_
                refine DO.passed rfl rfl rfl ?_
                refine DO.passed rfl rfl rfl ?_
                refine DO.quiet rfl (q_pick0 rfl rfl) ?_
                refine DO.quiet rfl (QT.cast (q_beql Tryd.underlying4 rfl rfl) (v' := .bool true) (by first | exact congrArg Value.bool (beq_iff_eq.2 (decide_eq_decide.2 (hA.trans ⟨fun h => h.2, fun h => ⟨his, h⟩⟩))) | exact congrArg Value.bool (beq_iff_eq.2 (decide_eq_false (fun h => his (hA.1 h).1))))) ?_
                refine DO.quiet rfl (q_move rfl) ?_
                refine DO.guarded rfl rfl rfl (q_move rfl) ?_
                refine DO.guarded rfl rfl rfl (q_move rfl) ?_
                refine DO.guarded rfl rfl rfl (q_ix (i := sn) Tryd.underlying33 inf3 rfl rfl (rowO (List.mem_of_getElem? (i := 1) rfl)) hsc (by rw [List.length_map]; exact hsc)) ?_
                refine DO.guarded rfl rfl rfl (q_ld Tryd.underlying3 rfl rfl (rowO (List.mem_of_getElem? (i := 1) rfl)) (nats_get hsc)) ?_
                refine DO.guarded rfl rfl rfl (q_move rfl) ?_
                refine DO.guarded rfl rfl rfl (q_move rfl) ?_
                refine DO.guarded rfl rfl rfl (q_ix (i := tn) Tryd.underlying33 inf3 rfl rfl (rowO (List.mem_of_getElem? (i := 1) rfl)) htc (by rw [List.length_map]; exact htc)) ?_
                refine DO.guarded rfl rfl rfl (q_ld Tryd.underlying3 rfl rfl (rowO (List.mem_of_getElem? (i := 1) rfl)) (nats_get htc)) ?_
                refine DO.guarded rfl rfl rfl (q_neq rfl rfl) ?_
                refine DO.guarded rfl rfl rfl (q_move rfl) ?_
                refine DO.guarded rfl rfl rfl (QT.cast (q_beql Tryd.underlying4 rfl rfl) (v' := .bool true) (by first | exact congrArg Value.bool (beq_iff_eq.2 ((decide_eq_true (hC.2 his)).trans his.symm)) | exact congrArg Value.bool (beq_iff_eq.2 ((decide_eq_false (fun h => his (hC.1 h))).trans (Bool.not_eq_true _ ▸ his).symm)))) ?_
                refine DO.quiet rfl (q_pick1 rfl rfl) ?_
                refine DO.quiet rfl (q_assign rfl) ?_
                refine DO.done ?_
                refine T.ret ?_
                refine Res.drop ?_
                refine Res.one (.bool true) Tryd.results4 rfl ?_
                exact ⟨[], Sub.of (List.nil_sublist _), rfl, rfl⟩
      · have hk96 := fun (w1 : World) (hI : Inv w [rowI lc lcc 3 1 (nats (rndsV d d.next.length)), rowI lb lbc 3 1 (nats (rndsV d ((k.tmod 8) + 1))), rowI la lac 3 1 (nats (rndsV d (k.tmod 8))), objI z1 (.cells (List.toArray [(.int .i64 d.vars), (.int .i64 d.start), (.slice nb d.next.length nc), (.slice fb d.final.length fc)]) 25 (0, 0))] w1) => equalNatsB w1 la lb lac lbc _ _ (rndsV d (k.tmod 8)) (rndsV d ((k.tmod 8) + 1)) rfl rfl (hI.slOf (List.mem_of_getElem? (i := 2) rfl)) (hI.slOf (List.mem_of_getElem? (i := 1) rfl)) (by omega) (decide_eq_false hab)
        refine TO.loud rfl (l_call ent21 (CallT.of_pure hk96) rfl ?_)
        clear hk96
        rintro v O' ⟨N, rfl, rfl, rfl⟩
        refine TO.quiet (q_move rfl) ?_
        refine TO.passed rfl rfl ?_
        refine TO.passed rfl rfl ?_
        refine TO.passed rfl rfl ?_
        refine TO.passed rfl rfl ?_
        refine TO.quiet (q_pick0 rfl rfl) ?_
        refine TO.nil ?_
        refine T.cond0 rfl ?_
        refine T.skip ?_
        refine T.seq ?_
        refine T.seq ?_
        refine T.region ?_
        refine TO.quiet (q_assign rfl) ?_
        refine TO.nil ?_
        refine T.block ?_
        refine T.loop (fun (i : Nat) ρ O => O = [rowI lc lcc 3 1 (nats (rndsV d d.next.length)), rowI lb lbc 3 1 (nats (rndsV d ((k.tmod 8) + 1))), rowI la lac 3 1 (nats (rndsV d (k.tmod 8))), objI z1 (.cells (List.toArray [(.int .i64 d.vars), (.int .i64 d.start), (.slice nb d.next.length nc), (.slice fb d.final.length fc)]) 25 (0, 0))] ∧ i ≤ d.next.length ∧ Heads [(0, (.agg #[(.int .i64 d.vars), (.int .i64 d.start), (.slice nb d.next.length nc), (.slice fb d.final.length fc)])), (1, .int .u8 k), (2, .int .i64 s), (3, .int .i64 t), (4, (.pointer (some ⟨z1, 0, none⟩))), (9, .int .i64 (k.tmod 8)), (10, (.slice la ((rndsV d (k.tmod 8)).length) lac)), (11, .int .i64 (checkD d : Int)), (12, (.slice lb ((rndsV d ((k.tmod 8) + 1)).length) lbc)), (13, .int .i64 (checkD d : Int)), (14, (.slice lc ((rndsV d d.next.length).length) lcc)), (15, .int .i64 (checkD d : Int)), (16, .int .i64 (i : Int))] ρ) (fun i => d.next.length - i) 0 ?_ ?_
        · exact ⟨rfl, Nat.zero_le _, ⟨rfl, rfl, rfl, rfl, rfl, rfl, rfl, rfl, rfl, rfl, rfl, rfl, rfl, trivial⟩⟩
        · rintro i ρ O ⟨rfl, hi, hH⟩
          obtain ⟨ρ0, rfl⟩ := hH.elim
          clear hH
          refine T.seq ?_
          refine T.seq ?_
          refine T.region ?_
          refine TO.quiet (q_move rfl) ?_
          refine TO.quiet (q_move rfl) ?_
          refine TO.quiet (q_len Tryd.underlying33 rfl) ?_
          refine TO.quiet (q_lss rfl rfl) ?_
          refine TO.nil ?_
          refine T.condP rfl (fun hc => ?_) (fun hc => ?_)
          · have hlt106 : i < (rndsV d (k.tmod 8)).length := by omega
            have hia : i < (rndsV d (k.tmod 8)).length := by omega
            have hib : i < (rndsV d ((k.tmod 8) + 1)).length := by omega
            refine T.skip ?_
            refine T.seq ?_
            refine T.block ?_
            refine T.seq ?_
            refine T.region ?_
            refine TO.quiet (q_assign rfl) ?_
            refine TO.nil ?_
            refine T.block ?_
            refine T.loop (fun (j : Nat) ρ O => O = [rowI lc lcc 3 1 (nats (rndsV d d.next.length)), rowI lb lbc 3 1 (nats (rndsV d ((k.tmod 8) + 1))), rowI la lac 3 1 (nats (rndsV d (k.tmod 8))), objI z1 (.cells (List.toArray [(.int .i64 d.vars), (.int .i64 d.start), (.slice nb d.next.length nc), (.slice fb d.final.length fc)]) 25 (0, 0))] ∧ j ≤ d.next.length ∧ Heads [(0, (.agg #[(.int .i64 d.vars), (.int .i64 d.start), (.slice nb d.next.length nc), (.slice fb d.final.length fc)])), (1, .int .u8 k), (2, .int .i64 s), (3, .int .i64 t), (4, (.pointer (some ⟨z1, 0, none⟩))), (9, .int .i64 (k.tmod 8)), (10, (.slice la ((rndsV d (k.tmod 8)).length) lac)), (11, .int .i64 (checkD d : Int)), (12, (.slice lb ((rndsV d ((k.tmod 8) + 1)).length) lbc)), (13, .int .i64 (checkD d : Int)), (14, (.slice lc ((rndsV d d.next.length).length) lcc)), (15, .int .i64 (checkD d : Int)), (16, .int .i64 (i : Int)), (17, .int .i64 (j : Int))] ρ) (fun j => d.next.length - j) 0 ?_ ?_
            · exact ⟨rfl, Nat.zero_le _, ⟨rfl, rfl, rfl, rfl, rfl, rfl, rfl, rfl, rfl, rfl, rfl, rfl, rfl, rfl, trivial⟩⟩
            · rintro j ρ O ⟨rfl, hj, hH⟩
              obtain ⟨ρ0, rfl⟩ := hH.elim
              clear hH
              refine T.seq ?_
              refine T.seq ?_
              refine T.region ?_
              refine TO.quiet (q_move rfl) ?_
              refine TO.quiet (q_move rfl) ?_
              refine TO.quiet (q_len Tryd.underlying33 rfl) ?_
              refine TO.quiet (q_lss rfl rfl) ?_
              refine TO.nil ?_
              refine T.condP rfl (fun hc => ?_) (fun hc => ?_)
              · have hlt112 : j < (rndsV d (k.tmod 8)).length := by omega
                have hja : j < (rndsV d (k.tmod 8)).length := by omega
                have hjb : j < (rndsV d ((k.tmod 8) + 1)).length := by omega
                refine T.skip ?_
                refine T.seq ?_
                refine T.block ?_
                refine T.seq ?_
                refine T.draws _ [(0, 0), (1, 0), (2, 0), (3, 0), (4, 0), (5, 0), (6, 0), (7, 0), (8, 0), (9, 0), (10, 0), (11, 0), (12, 0), (13, 0), (14, 0), (15, 0), (16, 0), (17, 0), (18, 0), (19, 0)] mixed (by kernel_rfl) (Sub.of (List.Sublist.refl _)) (fun _ _ _ h => h) ?_
                refine DO.quiet rfl (q_move rfl) ?_
                refine DO.quiet rfl (q_move rfl) ?_
                refine DO.quiet rfl (q_ix (i := i) Tryd.underlying33 inf3 rfl rfl (rowO (List.mem_of_getElem? (i := 1) rfl)) hib (by rw [List.length_map]; exact hib)) ?_
                refine DO.quiet rfl (q_ld Tryd.underlying3 rfl rfl (rowO (List.mem_of_getElem? (i := 1) rfl)) (nats_get hib)) ?_
                refine DO.quiet rfl (q_move rfl) ?_
                refine DO.quiet rfl (q_move rfl) ?_
                refine DO.quiet rfl (q_ix (i := j) Tryd.underlying33 inf3 rfl rfl (rowO (List.mem_of_getElem? (i := 1) rfl)) hjb (by rw [List.length_map]; exact hjb)) ?_
                refine DO.quiet rfl (q_ld Tryd.underlying3 rfl rfl (rowO (List.mem_of_getElem? (i := 1) rfl)) (nats_get hjb)) ?_
                by_cases hbij : (((rndsV d ((k.tmod 8) + 1))[i] : Nat) : Int) = (((rndsV d ((k.tmod 8) + 1))[j] : Nat) : Int)
                · refine DO.quiet rfl (QT.toB (q_eql rfl rfl) (decide_eq_true hbij)) ?_
                  refine DO.quiet rfl (q_move rfl) ?_
                  refine DO.guarded rfl rfl rfl (q_move rfl) ?_
                  refine DO.guarded rfl rfl rfl (q_move rfl) ?_
                  refine DO.guarded rfl rfl rfl (q_ix (i := i) Tryd.underlying33 inf3 rfl rfl (rowO (List.mem_of_getElem? (i := 2) rfl)) hia (by rw [List.length_map]; exact hia)) ?_
                  refine DO.guarded rfl rfl rfl (q_ld Tryd.underlying3 rfl rfl (rowO (List.mem_of_getElem? (i := 2) rfl)) (nats_get hia)) ?_
                  refine DO.guarded rfl rfl rfl (q_move rfl) ?_
                  refine DO.guarded rfl rfl rfl (q_move rfl) ?_
                  refine DO.guarded rfl rfl rfl (q_ix (i := j) Tryd.underlying33 inf3 rfl rfl (rowO (List.mem_of_getElem? (i := 2) rfl)) hja (by rw [List.length_map]; exact hja)) ?_
                  refine DO.guarded rfl rfl rfl (q_ld Tryd.underlying3 rfl rfl (rowO (List.mem_of_getElem? (i := 2) rfl)) (nats_get hja)) ?_
                  refine DO.guarded rfl rfl rfl (QT.toB (q_neq rfl rfl) (decide_eq_false (fun h9 => h9 (congrArg (fun x : Nat => (x : Int)) (rnds_split hv hk0 hia hja hib hjb (by omega)))))) ?_
                  refine DO.quiet rfl (q_pick1 rfl rfl) ?_
                  refine DO.done ?_
                  refine T.cond0 rfl ?_
                  refine T.skip ?_
                  refine T.region ?_
                  refine TO.quiet (q_move rfl) ?_
                  refine TO.quiet (q_inc rfl rfl (by omega)) ?_
                  refine TO.quiet (q_assign rfl) ?_
                  refine TO.nil ?_
                  exact ⟨j + 1, by omega, rfl, by omega, ⟨rfl, rfl, rfl, rfl, rfl, rfl, rfl, rfl, rfl, rfl, rfl, rfl, rfl, rfl, trivial⟩⟩
                · refine DO.quiet rfl (QT.toB (q_eql rfl rfl) (decide_eq_false hbij)) ?_
                  refine DO.quiet rfl (q_move rfl) ?_
                  refine DO.passed rfl rfl rfl ?_
                  refine DO.passed rfl rfl rfl ?_
                  refine DO.passed rfl rfl rfl ?_
                  refine DO.passed rfl rfl rfl ?_
                  refine DO.passed rfl rfl rfl ?_
                  refine DO.passed rfl rfl rfl ?_
                  refine DO.passed rfl rfl rfl ?_
                  refine DO.passed rfl rfl rfl ?_
                  refine DO.passed rfl rfl rfl ?_
                  refine DO.quiet rfl (q_pick0 rfl rfl) ?_
                  refine DO.done ?_
                  refine T.cond0 rfl ?_
                  refine T.skip ?_
                  refine T.region ?_
                  refine TO.quiet (q_move rfl) ?_
                  refine TO.quiet (q_inc rfl rfl (by omega)) ?_
                  refine TO.quiet (q_assign rfl) ?_
                  refine TO.nil ?_
                  exact ⟨j + 1, by omega, rfl, by omega, ⟨rfl, rfl, rfl, rfl, rfl, rfl, rfl, rfl, rfl, rfl, rfl, rfl, rfl, rfl, trivial⟩⟩
              · have hge112 : ¬ j < (rndsV d (k.tmod 8)).length := by omega
                refine T.exit ?_
                refine T.region ?_
                refine TO.quiet (q_move rfl) ?_
                refine TO.quiet (q_inc rfl rfl (by omega)) ?_
                refine TO.quiet (q_assign rfl) ?_
                refine TO.nil ?_
                exact ⟨i + 1, by omega, rfl, by omega, ⟨rfl, rfl, rfl, rfl, rfl, rfl, rfl, rfl, rfl, rfl, rfl, rfl, rfl, trivial⟩⟩
          · have hge106 : ¬ i < (rndsV d (k.tmod 8)).length := by omega
            refine T.exit ?_
            refine T.seq ?_
            refine T.region ?_
            refine TO.quiet (q_load_boxAgg 3 Tryd.underlying25 rfl inf25 rfl rfl rfl) ?_
            refine TO.quiet (q_move rfl) ?_
            refine TO.quiet (q_move rfl) ?_
            have hk139 := fun (w1 : World) (hI : Inv w [rowI lc lcc 3 1 (nats (rndsV d d.next.length)), rowI lb lbc 3 1 (nats (rndsV d ((k.tmod 8) + 1))), rowI la lac 3 1 (nats (rndsV d (k.tmod 8))), objI z1 (.cells (List.toArray [(.int .i64 d.vars), (.int .i64 d.start), (.slice nb d.next.length nc), (.slice fb d.final.length fc)]) 25 (0, 0))] w1) => distA w1 d nb fb nc fc vs (hI.dfa h) hb hbr hbf hN s t
            refine TO.loud rfl (l_call ent25 (CallT.of_pure hk139) rfl ?_)
            clear hk139
            rintro v O' ⟨N, rfl, res, wb, wc, hT, rfl, rfl⟩
            refine TO.quiet (q_move rfl) ?_
            refine TO.quiet (q_extract (vs := _) rfl rfl) ?_
            refine TO.quiet (q_extract (vs := _) rfl rfl) ?_
            refine TO.quiet (q_extract (vs := _) rfl rfl) ?_
            refine TO.quiet (q_assign rfl) ?_
            refine TO.quiet (q_assign rfl) ?_
            refine TO.quiet (q_assign rfl) ?_
            refine TO.nil ?_
            refine T.seq ?_
            refine T.seq ?_
            refine T.region ?_
            refine TO.quiet (q_move rfl) ?_
            by_cases hE2 : (eD d s t : Int) ≠ 0
            · refine TO.quiet (QT.toB (q_neq rfl rfl) (decide_eq_true hE2)) ?_
              refine TO.nil ?_
              refine T.cond1 rfl ?_
              refine T.seq ?_
              refine T.region ?_
              refine TO.quiet (q_move rfl) ?_
              refine TO.quiet (QT.toB (q_eql rfl rfl) (decide_eq_true (by have := eD_eight (s := s) (t := t) hv (by omega); omega))) ?_
              refine TO.quiet (q_assign rfl) ?_
              refine TO.nil ?_
              refine T.ret ?_
              refine Res.drop ?_
              refine Res.one (.bool true) Tryd.results4 rfl ?_
              exact ⟨[], Sub.of (List.nil_sublist _), rfl, rfl⟩
            · refine TO.quiet (QT.toB (q_neq rfl rfl) (decide_eq_false hE2)) ?_
              refine TO.nil ?_
              refine T.cond0 rfl ?_
              refine T.skip ?_
              refine T.seq ?_
              have h0 : eD d s t = 0 := by omega
              obtain ⟨_, h1, h2, h3, h4⟩ := eD_zero.1 h0
              obtain ⟨sn, rfl⟩ : ∃ n : Nat, s = (n : Int) := ⟨s.toNat, by omega⟩
              obtain ⟨tn, rfl⟩ : ∃ n : Nat, t = (n : Int) := ⟨t.toNat, by omega⟩
              have hTl : Tell d sn tn res := hT.tell hv (by omega) (by omega)
              have hsa : sn < (rndsV d (k.tmod 8)).length := by omega
              have hta : tn < (rndsV d (k.tmod 8)).length := by omega
              have hsc : sn < (rndsV d d.next.length).length := by omega
              have htc : tn < (rndsV d d.next.length).length := by omega
              have hA := rnds_tell hv hk0 hsa hta hTl
              have hC := cls_tell hv hsc htc hTl
              refine T.draws _ [(0, 0), (1, 0), (2, 0), (3, 0), (4, 0), (5, 0), (6, 0), (7, 0), (8, 0), (9, 0), (10, 0), (11, 0), (12, 0), (13, 0), (14, 0), (15, 0), (16, 0), (17, 0), (18, 0), (19, 0), (20, 0), (21, 0), (22, 0), (23, 0), (24, 0), (25, 0), (26, 0), (27, 0), (28, 0), (29, 0), (30, 0)] mixed (by kernel_rfl) (Sub.of (List.Sublist.refl _)) (fun _ _ _ h => h) ?_
              refine DO.quiet rfl (q_move rfl) ?_
              refine DO.quiet rfl (q_move rfl) ?_
              refine DO.quiet rfl (q_ix (i := sn) Tryd.underlying33 inf3 rfl rfl (rowO (List.mem_of_getElem? (i := 3) rfl)) hsa (by rw [List.length_map]; exact hsa)) ?_
              refine DO.quiet rfl (q_ld Tryd.underlying3 rfl rfl (rowO (List.mem_of_getElem? (i := 3) rfl)) (nats_get hsa)) ?_
              refine DO.quiet rfl (q_move rfl) ?_
              refine DO.quiet rfl (q_move rfl) ?_
              refine DO.quiet rfl (q_ix (i := tn) Tryd.underlying33 inf3 rfl rfl (rowO (List.mem_of_getElem? (i := 3) rfl)) hta (by rw [List.length_map]; exact hta)) ?_
              refine DO.quiet rfl (q_ld Tryd.underlying3 rfl rfl (rowO (List.mem_of_getElem? (i := 3) rfl)) (nats_get hta)) ?_
              refine DO.quiet rfl (q_neq rfl rfl) ?_
              by_cases his : res.isSome = true
              · refine DO.quiet rfl (QT.toB (QT.cast (q_move rfl) (v' := .bool (decide (res.isSome = true))) (show Value.bool res.isSome = _ from congrArg Value.bool (by simp))) (decide_eq_true his)) ?_
                refine DO.quiet rfl (q_move rfl) ?_
                refine DO.guarded rfl rfl rfl (q_move rfl) ?_
                refine DO.guarded rfl rfl rfl (q_len Tryd.underlying42 rfl) ?_
                refine DO.guarded rfl rfl rfl (q_move rfl) ?_
                refine DO.guarded rfl rfl rfl (q_leq rfl rfl) ?_
                refine DO.quiet rfl (q_pick1 rfl rfl) ?_
                refine DO.quiet rfl (QT.cast (q_beql Tryd.underlying4 rfl rfl) (v' := .bool true) (by first | exact congrArg Value.bool (beq_iff_eq.2 (decide_eq_decide.2 (hA.trans ⟨fun h => h.2, fun h => ⟨his, h⟩⟩))) | exact congrArg Value.bool (beq_iff_eq.2 (decide_eq_false (fun h => his (hA.1 h).1))))) ?_
                refine DO.quiet rfl (q_move rfl) ?_
                refine DO.guarded rfl rfl rfl (q_move rfl) ?_
                refine DO.guarded rfl rfl rfl (q_move rfl) ?_
                refine DO.guarded rfl rfl rfl (q_ix (i := sn) Tryd.underlying33 inf3 rfl rfl (rowO (List.mem_of_getElem? (i := 1) rfl)) hsc (by rw [List.length_map]; exact hsc)) ?_
                refine DO.guarded rfl rfl rfl (q_ld Tryd.underlying3 rfl rfl (rowO (List.mem_of_getElem? (i := 1) rfl)) (nats_get hsc)) ?_
                refine DO.guarded rfl rfl rfl (q_move rfl) ?_
                refine DO.guarded rfl rfl rfl (q_move rfl) ?_
                refine DO.guarded rfl rfl rfl (q_ix (i := tn) Tryd.underlying33 inf3 rfl rfl (rowO (List.mem_of_getElem? (i := 1) rfl)) htc (by rw [List.length_map]; exact htc)) ?_
                refine DO.guarded rfl rfl rfl (q_ld Tryd.underlying3 rfl rfl (rowO (List.mem_of_getElem? (i := 1) rfl)) (nats_get htc)) ?_
                refine DO.guarded rfl rfl rfl (q_neq rfl rfl) ?_
                refine DO.guarded rfl rfl rfl (q_move rfl) ?_
                refine DO.guarded rfl rfl rfl (QT.cast (q_beql Tryd.underlying4 rfl rfl) (v' := .bool true) (by first | exact congrArg Value.bool (beq_iff_eq.2 ((decide_eq_true (hC.2 his)).trans his.symm)) | exact congrArg Value.bool (beq_iff_eq.2 ((decide_eq_false (fun h => his (hC.1 h))).trans (Bool.not_eq_true _ ▸ his).symm)))) ?_
                refine DO.quiet rfl (q_pick1 rfl rfl) ?_
                refine DO.quiet rfl (q_assign rfl) ?_
                refine DO.done ?_
                refine T.ret ?_
                refine Res.drop ?_
                refine Res.one (.bool true) Tryd.results4 rfl ?_
                exact ⟨[], Sub.of (List.nil_sublist _), rfl, rfl⟩
              · refine DO.quiet rfl (QT.toB (QT.cast (q_move rfl) (v' := .bool (decide (res.isSome = true))) (show Value.bool res.isSome = _ from congrArg Value.bool (by simp))) (decide_eq_false his)) ?_
                refine DO.quiet rfl (q_move rfl) ?_
                refine DO.passed rfl rfl rfl ?_
                refine DO.passed rfl rfl rfl ?_
                refine DO.passed rfl rfl rfl ?_
                refine DO.passed rfl rfl rfl ?_
                refine DO.quiet rfl (q_pick0 rfl rfl) ?_
                refine DO.quiet rfl (QT.cast (q_beql Tryd.underlying4 rfl rfl) (v' := .bool true) (by first | exact congrArg Value.bool (beq_iff_eq.2 (decide_eq_decide.2 (hA.trans ⟨fun h => h.2, fun h => ⟨his, h⟩⟩))) | exact congrArg Value.bool (beq_iff_eq.2 (decide_eq_false (fun h => his (hA.1 h).1))))) ?_
                refine DO.quiet rfl (q_move rfl) ?_
                refine DO.guarded rfl rfl rfl (q_move rfl) ?_
                refine DO.guarded rfl rfl rfl (q_move rfl) ?_
                refine DO.guarded rfl rfl rfl (q_ix (i := sn) Tryd.underlying33 inf3 rfl rfl (rowO (List.mem_of_getElem? (i := 1) rfl)) hsc (by rw [List.length_map]; exact hsc)) ?_
                refine DO.guarded rfl rfl rfl (q_ld Tryd.underlying3 rfl rfl (rowO (List.mem_of_getElem? (i := 1) rfl)) (nats_get hsc)) ?_
                refine DO.guarded rfl rfl rfl (q_move rfl) ?_
                refine DO.guarded rfl rfl rfl (q_move rfl) ?_
                refine DO.guarded rfl rfl rfl (q_ix (i := tn) Tryd.underlying33 inf3 rfl rfl (rowO (List.mem_of_getElem? (i := 1) rfl)) htc (by rw [List.length_map]; exact htc)) ?_
                refine DO.guarded rfl rfl rfl (q_ld Tryd.underlying3 rfl rfl (rowO (List.mem_of_getElem? (i := 1) rfl)) (nats_get htc)) ?_
                refine DO.guarded rfl rfl rfl (q_neq rfl rfl) ?_
                refine DO.guarded rfl rfl rfl (q_move rfl) ?_
                refine DO.guarded rfl rfl rfl (QT.cast (q_beql Tryd.underlying4 rfl rfl) (v' := .bool true) (by first | exact congrArg Value.bool (beq_iff_eq.2 ((decide_eq_true (hC.2 his)).trans his.symm)) | exact congrArg Value.bool (beq_iff_eq.2 ((decide_eq_false (fun h => his (hC.1 h))).trans (Bool.not_eq_true _ ▸ his).symm)))) ?_
                refine DO.quiet rfl (q_pick1 rfl rfl) ?_
                refine DO.quiet rfl (q_assign rfl) ?_
                refine DO.done ?_
                refine T.ret ?_
                refine Res.drop ?_
                refine Res.one (.bool true) Tryd.results4 rfl ?_
                exact ⟨[], Sub.of (List.nil_sublist _), rfl, rfl⟩
end Go.Proofs.YthfemndklplpbaaDoor
