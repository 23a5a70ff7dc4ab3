/- Contracts of functions of the program (RefR): what each call answers and that it leaves memory as it was. Conditions: those each theorem names. -/
import Derived.Test.YthfemndklplpbaaDoorDiff
set_option linter.unusedSectionVars false
set_option linter.unusedSimpArgs false
set_option linter.unusedVariables false
set_option linter.unnecessarySimpa false
namespace Go.Proofs.YthfemndklplpbaaDoor
open Go.Lx Go.RowKit
set_option linter.unusedVariables false
set_option linter.unusedSimpArgs false

set_option maxHeartbeats 1000000 in
set_option maxRecDepth 20000 in
theorem rRoundsBad (w : World) (d : DFA) (nb fb : Option Addr) (nc fc : Nat) (vs : List Value) (h : DfaAt w d nb vs fb) (hb : d.next.length < 9223372036854775807) (hbr : ∀ r ∈ d.next, r.length < 9223372036854775807) (hbf : d.final.length < 9223372036854775807) (he : checkD d ≠ 0) (k : Int) :
    PureT Tryd.prog 16 [.agg (dfaCells d nb nc fb fc).toArray, .int .i64 k] w fun v N => v = .tuple #[.slice none 0 0, .int .i64 (checkD d : Int)] ∧ N = [] := by
  refine CallT.enter Tryd.func16 rfl Tryd.ntmps16 rfl ?_
  refine T.seq ?_
  refine T.region ?_
  refine TO.loud rfl (l_box (v := (.agg #[(.int .i64 d.vars), (.int .i64 d.start), (.slice nb d.next.length nc), (.slice fb d.final.length fc)])) (cs := [(.int .i64 d.vars), (.int .i64 d.start), (.slice nb d.next.length nc), (.slice fb d.final.length fc)]) rfl rfl (fun b1 => ?_))
  refine TO.quiet (q_assign rfl) ?_
  refine TO.quiet (q_assign rfl) ?_
  refine TO.nil ?_
  refine T.seq ?_
  refine T.region ?_
  refine TO.quiet (q_load_boxAgg 0 Tryd.underlying25 rfl inf25 rfl rfl rfl) ?_
  have hk13 := fun (w1 : World) (hI : Inv w [objI b1 (.cells (List.toArray [(.int .i64 d.vars), (.int .i64 d.start), (.slice nb d.next.length nc), (.slice fb d.final.length fc)]) 25 (0, 0))] w1) => refCheck w1 d nb fb nc fc vs (hI.dfa h) hb hbr hbf
  refine TO.loud rfl (l_call ent11 (CallT.of_pure hk13) rfl ?_)
  clear hk13
  rintro v O' ⟨N, rfl, rfl, rfl⟩
  refine TO.quiet (q_assign rfl) ?_
  refine TO.nil ?_
  refine T.seq ?_
  refine T.seq ?_
  refine T.region ?_
  refine TO.quiet (q_move rfl) ?_
  refine TO.quiet (QT.toB (q_neq rfl rfl) (decide_eq_true (by omega))) ?_
  refine TO.nil ?_
  refine T.cond1 rfl ?_
  refine T.seq ?_
  refine T.region ?_
  refine TO.quiet (q_move rfl) ?_
  refine TO.quiet (q_assign rfl) ?_
  refine TO.quiet (q_assign rfl) ?_
  refine TO.nil ?_
  refine T.ret ?_
  refine Res.drop ?_
  refine Res.two (.slice none 0 0) (.int .i64 (checkD d : Int)) Tryd.results16 rfl rfl ?_
  exact ⟨[], Sub.of (List.nil_sublist _), rfl, rfl⟩

set_option maxHeartbeats 1000000 in
set_option maxRecDepth 20000 in
theorem rRoundsOk (w : World) (d : DFA) (nb fb : Option Addr) (nc fc : Nat) (vs : List Value) (h : DfaAt w d nb vs fb) (hv : Valid d) (hn : d.next.length < 100) (k : Int) :
    PureT Tryd.prog 16 [.agg (dfaCells d nb nc fb fc).toArray, .int .i64 k] w fun v N => ∃ b c, v = .tuple #[.slice b d.next.length c, .int .i64 0] ∧ N = [rowI b c 3 1 (nats (itF d k.toNat))] := by
  refine CallT.enter Tryd.func16 rfl Tryd.ntmps16 rfl ?_
  have he := checkD_zero.2 hv
  have hb : d.next.length < 9223372036854775807 := by have := hv.n4; omega
  have hbr : ∀ r ∈ d.next, r.length < 9223372036854775807 := hv.bound
  have hbf : d.final.length < 9223372036854775807 := by have := hv.fin; omega
  refine T.seq ?_
  refine T.region ?_
  refine TO.loud rfl (l_box (v := (.agg #[(.int .i64 d.vars), (.int .i64 d.start), (.slice nb d.next.length nc), (.slice fb d.final.length fc)])) (cs := [(.int .i64 d.vars), (.int .i64 d.start), (.slice nb d.next.length nc), (.slice fb d.final.length fc)]) rfl rfl (fun z1 => ?_))
  refine TO.quiet (q_assign rfl) ?_
  refine TO.quiet (q_assign rfl) ?_
  refine TO.nil ?_
  refine T.seq ?_
  refine T.region ?_
  refine TO.quiet (q_load_boxAgg 0 Tryd.underlying25 rfl inf25 rfl rfl rfl) ?_
  have hk13 := fun (w1 : World) (hI : Inv w [objI z1 (.cells (List.toArray [(.int .i64 d.vars), (.int .i64 d.start), (.slice nb d.next.length nc), (.slice fb d.final.length fc)]) 25 (0, 0))] w1) => refCheck w1 d nb fb nc fc vs (hI.dfa h) hb hbr hbf
  refine TO.loud rfl (l_call ent11 (CallT.of_pure hk13) rfl ?_)
  clear hk13
  rintro v O' ⟨N, rfl, rfl, rfl⟩
  rw [he]
  refine TO.quiet (q_assign rfl) ?_
  refine TO.nil ?_
  refine T.seq ?_
  refine T.seq ?_
  refine T.region ?_
  refine TO.quiet (q_move rfl) ?_
  refine TO.quiet (q_neq rfl rfl) ?_
  refine TO.nil ?_
  refine T.cond0 rfl ?_
  refine T.skip ?_
  refine T.seq ?_
  refine T.region ?_
  refine TO.quiet (q_load_boxAgg 0 Tryd.underlying25 rfl inf25 rfl rfl rfl) ?_
  refine TO.quiet (q_move rfl) ?_
  have hk19 := fun (w1 : World) (hI : Inv w [objI z1 (.cells (List.toArray [(.int .i64 d.vars), (.int .i64 d.start), (.slice nb d.next.length nc), (.slice fb d.final.length fc)]) 25 (0, 0))] w1) => differC w1 d nb fb nc fc vs (hI.dfa h) hv hn k
  refine TO.loud rfl (l_call ent41 (CallT.of_pure hk19) rfl ?_)
  clear hk19
  rintro v O' ⟨N, rfl, mb, mc, qs, rfl, rfl, hM⟩
  refine TO.sub (O' := ([rowI mb mc 23 1 (bvals qs), objI z1 (.cells (List.toArray [(.int .i64 d.vars), (.int .i64 d.start), (.slice nb d.next.length nc), (.slice fb d.final.length fc)]) 25 (0, 0))] ++ (bitms 4 qs))) (Sub.cnt [] (by intro a; simp only [itms, List.set_cons_zero, List.set_cons_succ, putL, List.cons_append, List.nil_append, List.append_nil, List.append_assoc, List.map_append, List.map_cons, List.map_nil, cnt_append, cnt_cons, cnt_nil] <;> omega)) ?_
  refine TO.quiet (q_assign rfl) ?_
  refine TO.nil ?_
  refine T.seq ?_
  refine T.region ?_
  refine TO.quiet (q_assign rfl) ?_
  refine TO.nil ?_
  refine T.seq ?_
  refine T.region ?_
  refine TO.quiet (q_assign rfl) ?_
  refine TO.nil ?_
  refine T.seq ?_
  refine T.seq ?_
  refine T.region ?_
  refine TO.quiet (q_assign rfl) ?_
  refine TO.nil ?_
  refine T.block ?_
  refine T.nilRow 3 1 ?_
  refine T.loop (fun (s : Nat) ρ O => ∃ (lb : Option Addr) (lc : Nat), O = ([rowI lb lc 3 1 (nats (labD d (min k.toNat d.next.length) s).1), rowI mb mc 23 1 (bvals qs), objI z1 (.cells (List.toArray [(.int .i64 d.vars), (.int .i64 d.start), (.slice nb d.next.length nc), (.slice fb d.final.length fc)]) 25 (0, 0))] ++ (bitms 4 qs)) ∧ s ≤ d.next.length ∧ Heads [(0, (.agg #[(.int .i64 d.vars), (.int .i64 d.start), (.slice nb d.next.length nc), (.slice fb d.final.length fc)])), (1, .int .i64 k), (2, (.pointer (some ⟨z1, 0, none⟩))), (4, (.slice none 0 0)), (5, .int .i64 0), (6, .int .i64 ((0 : Nat) : Int)), (7, (.slice mb d.next.length mc)), (8, (.slice lb s lc)), (9, .int .i64 (((labD d (min k.toNat d.next.length) s).2 : Nat) : Int)), (10, .int .i64 (s : Int))] ρ) (fun s => d.next.length - s) 0 ?_ ?_
  · exact ⟨none, 0, rfl, Nat.zero_le _, ⟨rfl, rfl, rfl, rfl, rfl, rfl, rfl, rfl, rfl, rfl, trivial⟩⟩
  · rintro s ρ O ⟨lb, lc, rfl, hs, hH⟩
    obtain ⟨ρ0, rfl⟩ := hH.elim
    clear hH
    obtain ⟨hll, hlc⟩ := labD_len d (min k.toNat d.next.length) s
    refine T.seq ?_
    refine T.seq ?_
    refine T.region ?_
    refine TO.quiet (q_move rfl) ?_
    refine TO.quiet (q_move rfl) ?_
    refine TO.quiet (q_len Tryd.underlying63 rfl) ?_
    refine TO.quiet (q_lss rfl rfl) ?_
    refine TO.nil ?_
    refine T.condP rfl (fun hc => ?_) (fun hc => ?_)
    · have hlt23 : s < d.next.length := by omega
      obtain ⟨qa, ma, ga, la, ea⟩ := hM.get hlt23
      refine T.skip ?_
      refine T.seq ?_
      refine T.block ?_
      refine T.seq ?_
      refine T.region ?_
      refine TO.quiet (q_assign rfl) ?_
      refine TO.nil ?_
      refine T.seq ?_
      refine T.block ?_
      refine T.loop (fun (t : Nat) ρ O => O = ([rowI lb lc 3 1 (nats (labD d (min k.toNat d.next.length) s).1), rowI mb mc 23 1 (bvals qs), objI z1 (.cells (List.toArray [(.int .i64 d.vars), (.int .i64 d.start), (.slice nb d.next.length nc), (.slice fb d.final.length fc)]) 25 (0, 0))] ++ (bitms 4 qs)) ∧ t ≤ s ∧ (∀ t', t' < t → dif d (min k.toNat d.next.length) s t' = true) ∧ Heads [(0, (.agg #[(.int .i64 d.vars), (.int .i64 d.start), (.slice nb d.next.length nc), (.slice fb d.final.length fc)])), (1, .int .i64 k), (2, (.pointer (some ⟨z1, 0, none⟩))), (4, (.slice none 0 0)), (5, .int .i64 0), (6, .int .i64 ((0 : Nat) : Int)), (7, (.slice mb d.next.length mc)), (8, (.slice lb s lc)), (9, .int .i64 (((labD d (min k.toNat d.next.length) s).2 : Nat) : Int)), (10, .int .i64 (s : Int)), (11, .int .i64 (t : Int))] ρ) (fun t => s - t) 0 ?_ ?_
      · exact ⟨rfl, Nat.zero_le _, fun t' h => absurd h (by omega), ⟨rfl, rfl, rfl, rfl, rfl, rfl, rfl, rfl, rfl, rfl, rfl, trivial⟩⟩
      · rintro t ρ O ⟨rfl, ht, hdt, hH⟩
        obtain ⟨ρ0, rfl⟩ := hH.elim
        clear hH
        refine T.seq ?_
        refine T.seq ?_
        refine T.region ?_
        refine TO.quiet (q_move rfl) ?_
        refine TO.quiet (q_move rfl) ?_
        refine TO.quiet (q_ix (i := s) Tryd.underlying63 inf23 rfl rfl (rowO (List.mem_of_getElem? (i := 1) rfl)) hlt23 (by rw [List.length_map, hM.len]; exact hlt23)) ?_
        refine TO.quiet (q_ld Tryd.underlying23 rfl rfl (rowO (List.mem_of_getElem? (i := 1) rfl)) ga) ?_
        refine TO.quiet (q_move rfl) ?_
        refine TO.quiet (q_ix (i := t) Tryd.underlying23 inf4 rfl rfl (fun w hI => hI.slOf (T := 4) (k := 1) (List.mem_append_right _ (List.mem_map_of_mem (f := BRec.itm 4) ma))) (by omega) (by omega)) ?_
        refine TO.quiet (q_ld Tryd.underlying4 rfl rfl (fun w hI => hI.slOf (T := 4) (k := 1) (List.mem_append_right _ (List.mem_map_of_mem (f := BRec.itm 4) ma))) (ea t (by omega))) ?_
        refine TO.nil ?_
        refine T.cond rfl (fun hc => ?_) (fun hc => ?_)
        · have hts : t < s := by
            by_cases e : t = s
            · subst e; rw [dif_self] at hc; cases hc
            · omega
          refine T.skip ?_
          refine T.block ?_
          refine T.region ?_
          refine TO.quiet (q_move rfl) ?_
          refine TO.quiet (q_inc rfl rfl (by omega)) ?_
          refine TO.quiet (q_assign rfl) ?_
          refine TO.nil ?_
          exact ⟨t + 1, by omega, rfl, by omega, fun t' h9 => by
            by_cases e : t' = t
            · subst e; exact hc
            · exact hdt t' (by omega), ⟨rfl, rfl, rfl, rfl, rfl, rfl, rfl, rfl, rfl, rfl, rfl, trivial⟩⟩
        · have hc0 := hc
          refine T.exit ?_
          refine T.seq ?_
          refine T.region ?_
          refine TO.quiet (q_move rfl) ?_
          refine TO.quiet (q_move rfl) ?_
          refine TO.quiet (q_lss rfl rfl) ?_
          refine TO.nil ?_
          refine T.condP rfl (fun hc => ?_) (fun hc => ?_)
          · have hlt37 : t < s := by omega
            have hst := labD_old hlt37 hdt hc0
            refine T.region ?_
            refine TO.quiet (q_move rfl) ?_
            refine TO.quiet (q_move rfl) ?_
            refine TO.quiet (q_move rfl) ?_
            refine TO.quiet (q_ix (i := t) Tryd.underlying33 inf3 rfl rfl (rowO (List.mem_of_getElem? (i := 0) rfl)) hlt37 (by rw [List.length_map, hll]; exact hlt37)) ?_
            refine TO.quiet (q_ld Tryd.underlying3 rfl rfl (rowO (List.mem_of_getElem? (i := 0) rfl)) (show (nats (labD d (min k.toNat d.next.length) s).1)[t]? = some (.int .i64 (((labD d (min k.toNat d.next.length) s).1.getD t 0 : Nat) : Int)) by rw [nats_get (by rw [hll]; exact hlt37)]; simp [hll, hlt37])) ?_
            refine TO.loud rfl (l_build1 (v := .int .i64 (((labD d (min k.toNat d.next.length) s).1.getD t 0 : Nat) : Int)) Tryd.underlying33 inf3 rfl rfl rfl (fun z2 => ?_))
            refine TO.loud rfl (l_append 1 Tryd.underlying33 Tryd.underlying33 inf3 rfl rfl rfl rfl (by rw [List.length_map, hll, Nat.mul_one]) (by decide) (Src.row (j := 0) rfl (by simp)) (by simp [oneB]) (by omega) (by decide) (by decide) (fun z3 zc4 => ?_))
            refine TO.quiet (q_assign rfl) ?_
            refine TO.nil ?_
            refine T.region ?_
            refine TO.quiet (q_move rfl) ?_
            refine TO.quiet (q_inc rfl rfl (by omega)) ?_
            refine TO.quiet (q_assign rfl) ?_
            refine TO.sub (O' := ([rowI z3 zc4 3 1 ((nats (labD d (min k.toNat d.next.length) s).1) ++ [.int .i64 (((labD d (min k.toNat d.next.length) s).1.getD t 0 : Nat) : Int)]), rowI mb mc 23 1 (bvals qs), objI z1 (.cells (List.toArray [(.int .i64 d.vars), (.int .i64 d.start), (.slice nb d.next.length nc), (.slice fb d.final.length fc)]) 25 (0, 0))] ++ (bitms 4 qs))) (Sub.pickR [1, 1, 1] [rowI (some ⟨z2, 0, none⟩) 1 3 1 [.int .i64 (((labD d (min k.toNat d.next.length) s).1.getD t 0 : Nat) : Int)], rowI z3 zc4 3 1 ((nats (labD d (min k.toNat d.next.length) s).1) ++ [.int .i64 (((labD d (min k.toNat d.next.length) s).1.getD t 0 : Nat) : Int)]), rowI mb mc 23 1 (bvals qs), objI z1 (.cells (List.toArray [(.int .i64 d.vars), (.int .i64 d.start), (.slice nb d.next.length nc), (.slice fb d.final.length fc)]) 25 (0, 0))] (bitms 4 qs) rfl rfl) ?_
            refine TO.nil ?_
            refine ⟨s + 1, by omega, z3, zc4, ?_, by omega, ?_⟩
            · rw [hst, show nats ((labD d (min k.toNat d.next.length) s).1 ++ [(labD d (min k.toNat d.next.length) s).1.getD t 0]) = nats (labD d (min k.toNat d.next.length) s).1 ++ [.int .i64 (((labD d (min k.toNat d.next.length) s).1.getD t 0 : Nat) : Int)] from List.map_append]
            · rw [hst]; exact ⟨rfl, rfl, rfl, rfl, rfl, rfl, rfl, rfl, rfl, rfl, trivial⟩
          · have hge37 : ¬ t < s := by omega
            have hte : t = s := by omega
            have hst := labD_new (d := d) (k := (min k.toNat d.next.length)) (s := s) (fun t' h9 => hdt t' (by omega))
            refine T.seq ?_
            refine T.region ?_
            refine TO.quiet (q_move rfl) ?_
            refine TO.quiet (q_move rfl) ?_
            refine TO.loud rfl (l_build1 (v := .int .i64 (((labD d (min k.toNat d.next.length) s).2 : Nat) : Int)) Tryd.underlying33 inf3 rfl rfl rfl (fun z5 => ?_))
            refine TO.loud rfl (l_append 1 Tryd.underlying33 Tryd.underlying33 inf3 rfl rfl rfl rfl (by rw [List.length_map, hll, Nat.mul_one]) (by decide) (Src.row (j := 0) rfl (by simp)) (by simp [oneB]) (by omega) (by decide) (by decide) (fun z6 zc7 => ?_))
            refine TO.quiet (q_assign rfl) ?_
            refine TO.nil ?_
            refine T.region ?_
            refine TO.quiet (q_move rfl) ?_
            refine TO.quiet (q_inc rfl rfl (by omega)) ?_
            refine TO.quiet (q_assign rfl) ?_
            refine TO.nil ?_
            refine T.region ?_
            refine TO.quiet (q_move rfl) ?_
            refine TO.quiet (q_inc rfl rfl (by omega)) ?_
            refine TO.quiet (q_assign rfl) ?_
            refine TO.sub (O' := ([rowI z6 zc7 3 1 ((nats (labD d (min k.toNat d.next.length) s).1) ++ [.int .i64 (((labD d (min k.toNat d.next.length) s).2 : Nat) : Int)]), rowI mb mc 23 1 (bvals qs), objI z1 (.cells (List.toArray [(.int .i64 d.vars), (.int .i64 d.start), (.slice nb d.next.length nc), (.slice fb d.final.length fc)]) 25 (0, 0))] ++ (bitms 4 qs))) (Sub.pickR [1, 1, 1] [rowI (some ⟨z5, 0, none⟩) 1 3 1 [.int .i64 (((labD d (min k.toNat d.next.length) s).2 : Nat) : Int)], rowI z6 zc7 3 1 ((nats (labD d (min k.toNat d.next.length) s).1) ++ [.int .i64 (((labD d (min k.toNat d.next.length) s).2 : Nat) : Int)]), rowI mb mc 23 1 (bvals qs), objI z1 (.cells (List.toArray [(.int .i64 d.vars), (.int .i64 d.start), (.slice nb d.next.length nc), (.slice fb d.final.length fc)]) 25 (0, 0))] (bitms 4 qs) rfl rfl) ?_
            refine TO.nil ?_
            refine ⟨s + 1, by omega, z6, zc7, ?_, by omega, ?_⟩
            · rw [hst, show nats ((labD d (min k.toNat d.next.length) s).1 ++ [(labD d (min k.toNat d.next.length) s).2]) = nats (labD d (min k.toNat d.next.length) s).1 ++ [.int .i64 (((labD d (min k.toNat d.next.length) s).2 : Nat) : Int)] from List.map_append]
            · rw [hst]; exact ⟨rfl, rfl, rfl, rfl, rfl, rfl, rfl, rfl, rfl, rfl, trivial⟩
    · have hge23 : ¬ s < d.next.length := by omega
      refine T.exit ?_
      refine T.seq ?_
      refine T.region ?_
      refine TO.quiet (q_move rfl) ?_
      refine TO.quiet (q_assign rfl) ?_
      refine TO.quiet (q_assign rfl) ?_
      refine TO.nil ?_
      refine T.ret ?_
      refine Res.drop ?_
      refine Res.two (.slice lb s lc) (.int .i64 0) Tryd.results16 rfl rfl ?_
      have hse : s = d.next.length := by omega
      have hx : (labD d (min k.toNat d.next.length) s).1 = itF d k.toNat := by rw [hse]; exact labD_itF hv k.toNat
      exact ⟨[rowI lb lc 3 1 (nats (labD d (min k.toNat d.next.length) s).1)], Sub.cnt ([rowI mb mc 23 1 (bvals qs), objI z1 (.cells (List.toArray [(.int .i64 d.vars), (.int .i64 d.start), (.slice nb d.next.length nc), (.slice fb d.final.length fc)]) 25 (0, 0))] ++ bitms 4 qs) (by intro a; simp only [itms, bitms, List.set_cons_zero, List.set_cons_succ, putL, List.cons_append, List.nil_append, List.append_nil, List.append_assoc, List.map_append, List.map_cons, List.map_nil, cnt_append, cnt_cons, cnt_nil] <;> omega), lb, lc, by rw [hse], by rw [hx]⟩

set_option maxHeartbeats 1000000 in
set_option maxRecDepth 20000 in
theorem rClassesBad (w : World) (d : DFA) (nb fb : Option Addr) (nc fc : Nat) (vs : List Value) (h : DfaAt w d nb vs fb) (hb : d.next.length < 9223372036854775807) (hbr : ∀ r ∈ d.next, r.length < 9223372036854775807) (hbf : d.final.length < 9223372036854775807) (he : checkD d ≠ 0) :
    PureT Tryd.prog 15 [.agg (dfaCells d nb nc fb fc).toArray] w fun v N => v = .tuple #[.slice none 0 0, .int .i64 (checkD d : Int)] ∧ N = [] := by
  refine CallT.enter Tryd.func15 rfl Tryd.ntmps15 rfl ?_
  refine T.seq ?_
  refine T.region ?_
  refine TO.loud rfl (l_box (v := (.agg #[(.int .i64 d.vars), (.int .i64 d.start), (.slice nb d.next.length nc), (.slice fb d.final.length fc)])) (cs := [(.int .i64 d.vars), (.int .i64 d.start), (.slice nb d.next.length nc), (.slice fb d.final.length fc)]) rfl rfl (fun b1 => ?_))
  refine TO.quiet (q_assign rfl) ?_
  refine TO.quiet (q_assign rfl) ?_
  refine TO.nil ?_
  refine T.seq ?_
  refine T.region ?_
  refine TO.quiet (q_load_boxAgg 0 Tryd.underlying25 rfl inf25 rfl rfl rfl) ?_
  refine TO.quiet (q_fieldAddr Tryd.underlying25 rfl inf22 rfl rfl) ?_
  refine TO.quiet (q_load_box 0 Tryd.underlying22 rfl rfl rfl rfl) ?_
  refine TO.quiet (q_len Tryd.underlying22 rfl) ?_
  have hk8 := fun (w1 : World) (hI : Inv w [objI b1 (.cells (List.toArray [(.int .i64 d.vars), (.int .i64 d.start), (.slice nb d.next.length nc), (.slice fb d.final.length fc)]) 25 (0, 0))] w1) => rRoundsBad w1 d nb fb nc fc vs (hI.dfa h) hb hbr hbf he d.next.length
  refine TO.loud rfl (l_call ent16 (CallT.of_pure hk8) rfl ?_)
  clear hk8
  rintro v O' ⟨N, rfl, rfl, rfl⟩
  refine TO.quiet (q_extract (vs := _) rfl rfl) ?_
  refine TO.quiet (q_extract (vs := _) rfl rfl) ?_
  refine TO.quiet (q_assign rfl) ?_
  refine TO.quiet (q_assign rfl) ?_
  refine TO.nil ?_
  refine T.ret ?_
  refine Res.drop ?_
  refine Res.two (.slice none 0 0) (.int .i64 (checkD d : Int)) Tryd.results15 rfl rfl ?_
  exact ⟨[], Sub.of (List.nil_sublist _), rfl, rfl⟩

set_option maxHeartbeats 1000000 in
set_option maxRecDepth 20000 in
theorem rClassesOk (w : World) (d : DFA) (nb fb : Option Addr) (nc fc : Nat) (vs : List Value) (h : DfaAt w d nb vs fb) (hv : Valid d) (hn : d.next.length < 100) :
    PureT Tryd.prog 15 [.agg (dfaCells d nb nc fb fc).toArray] w fun v N => ∃ b c, v = .tuple #[.slice b d.next.length c, .int .i64 0] ∧ N = [rowI b c 3 1 (nats (itF d d.next.length))] := by
  refine CallT.enter Tryd.func15 rfl Tryd.ntmps15 rfl ?_
  refine T.seq ?_
  refine T.region ?_
  refine TO.loud rfl (l_box (v := (.agg #[(.int .i64 d.vars), (.int .i64 d.start), (.slice nb d.next.length nc), (.slice fb d.final.length fc)])) (cs := [(.int .i64 d.vars), (.int .i64 d.start), (.slice nb d.next.length nc), (.slice fb d.final.length fc)]) rfl rfl (fun b1 => ?_))
  refine TO.quiet (q_assign rfl) ?_
  refine TO.quiet (q_assign rfl) ?_
  refine TO.nil ?_
  refine T.seq ?_
  refine T.region ?_
  refine TO.quiet (q_load_boxAgg 0 Tryd.underlying25 rfl inf25 rfl rfl rfl) ?_
  refine TO.quiet (q_fieldAddr Tryd.underlying25 rfl inf22 rfl rfl) ?_
  refine TO.quiet (q_load_box 0 Tryd.underlying22 rfl rfl rfl rfl) ?_
  refine TO.quiet (q_len Tryd.underlying22 rfl) ?_
  have hk8 := fun (w1 : World) (hI : Inv w [objI b1 (.cells (List.toArray [(.int .i64 d.vars), (.int .i64 d.start), (.slice nb d.next.length nc), (.slice fb d.final.length fc)]) 25 (0, 0))] w1) => rRoundsOk w1 d nb fb nc fc vs (hI.dfa h) hv hn d.next.length
  refine TO.loud rfl (l_call ent16 (CallT.of_pure hk8) rfl ?_)
  clear hk8
  rintro v O' ⟨N, rfl, b, c, rfl, rfl⟩
  refine TO.quiet (q_extract (vs := _) rfl rfl) ?_
  refine TO.quiet (q_extract (vs := _) rfl rfl) ?_
  refine TO.quiet (q_assign rfl) ?_
  refine TO.quiet (q_assign rfl) ?_
  refine TO.nil ?_
  refine T.ret ?_
  refine Res.drop ?_
  refine Res.two (.slice b d.next.length c) (.int .i64 0) Tryd.results15 rfl rfl ?_
  exact ⟨[rowI b c 3 1 (nats (itF d d.next.length))], (Sub.pick [0] rfl), _, _, rfl, rfl⟩
end Go.Proofs.YthfemndklplpbaaDoor
