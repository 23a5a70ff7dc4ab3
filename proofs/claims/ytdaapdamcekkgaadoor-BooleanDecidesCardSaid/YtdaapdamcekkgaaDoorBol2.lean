/- Contracts of functions of the program (RefR, Ref7, RefM, RefD, Uni, DR, Myh, Rnd, Word, Wrd2, Bol, Dct, Can, Bol2): what each call answers and that it leaves memory as it was. Conditions: those each theorem names. -/
import Derived.Test.YtdaapdamcekkgaaDoorDiff
import Derived.Test.YtdaapdamcekkgaaDoorRen
import Derived.Test.YtdaapdamcekkgaaDoorCoreR
set_option linter.unusedSectionVars false
set_option linter.unusedSimpArgs false
set_option linter.unusedVariables false
set_option linter.unnecessarySimpa false
namespace Go.Proofs.YtdaapdamcekkgaaDoor
open Go.Lx Go.RowKit
set_option linter.unusedVariables false
set_option linter.unusedSimpArgs false
set_option maxHeartbeats 1000000 in
set_option maxRecDepth 20000 in
theorem rRoundsBad (w : World) (d : DFA) (nb fb : Option Addr) (nc fc : Nat) (vs : List Value) (h : DfaAt w d nb vs fb) (hb : d.next.length < 9223372036854775807) (hbr : ∀ r ∈ d.next, r.length < 9223372036854775807) (hbf : d.final.length < 9223372036854775807) (he : checkD d ≠ 0) (k : Int) :
    PureT Tryd.prog 84 [.agg (dfaCells d nb nc fb fc).toArray, .int .i64 k] w fun v N => v = .tuple #[.slice none 0 0, .int .i64 (checkD d : Int)] ∧ N = [] := by
  refine CallT.enter Tryd.func84 rfl Tryd.ntmps84 rfl ?_
  refine T.seq (T.region ?_)
  refine TO.loud rfl (l_box (v := (.agg #[(.int .i64 d.vars), (.int .i64 d.start), (.slice nb d.next.length nc), (.slice fb d.final.length fc)])) (cs := [(.int .i64 d.vars), (.int .i64 d.start), (.slice nb d.next.length nc), (.slice fb d.final.length fc)]) rfl rfl (fun b1 => ?_))
  refine TO.quiet (q_assign rfl) (TO.quiet (q_assign rfl) ?_)
  refine TO.nil (T.seq (T.region ?_))
  refine TO.quiet (q_load_boxAgg 0 Tryd.underlying25 rfl inf25 rfl rfl rfl) ?_
  have hk13 := fun (w1 : World) (hI : Inv w [oI b1 25 [(.int .i64 d.vars), (.int .i64 d.start), (.slice nb d.next.length nc), (.slice fb d.final.length fc)]] w1) => refCheck w1 d nb fb nc fc vs (hI.dfa h) hb hbr hbf
  refine TO.loud rfl (l_call ent37 (CallT.of_pure hk13) rfl ?_)
  clear hk13
  rintro v O' ⟨N, rfl, rfl, rfl⟩
  refine TO.quiet (q_assign rfl) ?_
  refine TO.nil (T.seq (T.seq (T.region ?_)))
  refine TO.quiet (q_move rfl) (TO.quiet (QT.toB (q_neq rfl rfl) (decide_eq_true (by omega))) ?_)
  refine TO.nil ?_
  refine T.cond1 rfl ?_
  refine T.seq (T.region ?_)
  refine TO.quiet (q_move rfl) (TO.quiet (q_assign rfl) (TO.quiet (q_assign rfl) ?_))
  refine TO.nil (T.ret (Res.drop ?_))
  refine Res.two (.slice none 0 0) (.int .i64 (checkD d : Int)) Tryd.results84 rfl rfl ?_
  exact ⟨[], Sub.of (List.nil_sublist _), rfl, rfl⟩
set_option maxHeartbeats 1000000 in
set_option maxRecDepth 20000 in
theorem rRoundsOk (w : World) (d : DFA) (nb fb : Option Addr) (nc fc : Nat) (vs : List Value) (h : DfaAt w d nb vs fb) (hv : Valid d) (hn : d.next.length < 100) (k : Int) :
    PureT Tryd.prog 84 [.agg (dfaCells d nb nc fb fc).toArray, .int .i64 k] w fun v N => ∃ b c, v = .tuple #[.slice b d.next.length c, .int .i64 0] ∧ N = [rowI b c 3 1 (nats (itF d k.toNat))] := by
  refine CallT.enter Tryd.func84 rfl Tryd.ntmps84 rfl ?_
  have he := checkD_zero.2 hv
  have hb : d.next.length < 9223372036854775807 := by have := hv.n4; omega
  have hbr : ∀ r ∈ d.next, r.length < 9223372036854775807 := hv.bound
  have hbf : d.final.length < 9223372036854775807 := by have := hv.fin; omega
  refine T.seq (T.region ?_)
  refine TO.loud rfl (l_box (v := (.agg #[(.int .i64 d.vars), (.int .i64 d.start), (.slice nb d.next.length nc), (.slice fb d.final.length fc)])) (cs := [(.int .i64 d.vars), (.int .i64 d.start), (.slice nb d.next.length nc), (.slice fb d.final.length fc)]) rfl rfl (fun z1 => ?_))
  refine TO.quiet (q_assign rfl) (TO.quiet (q_assign rfl) ?_)
  refine TO.nil (T.seq (T.region ?_))
  refine TO.quiet (q_load_boxAgg 0 Tryd.underlying25 rfl inf25 rfl rfl rfl) ?_
  have hk13 := fun (w1 : World) (hI : Inv w [oI z1 25 [(.int .i64 d.vars), (.int .i64 d.start), (.slice nb d.next.length nc), (.slice fb d.final.length fc)]] w1) => refCheck w1 d nb fb nc fc vs (hI.dfa h) hb hbr hbf
  refine TO.loud rfl (l_call ent37 (CallT.of_pure hk13) rfl ?_)
  clear hk13
  rintro v O' ⟨N, rfl, rfl, rfl⟩
  rw [he]
  refine TO.quiet (q_assign rfl) ?_
  refine TO.nil (T.seq (T.seq (T.region ?_)))
  refine TO.quiet (q_move rfl) (TO.quiet (q_neq rfl rfl) ?_)
  refine TO.nil ?_
  refine T.cond0 rfl ?_
  refine T.skip (T.seq (T.region ?_))
  refine TO.quiet (q_load_boxAgg 0 Tryd.underlying25 rfl inf25 rfl rfl rfl) (TO.quiet (q_move rfl) ?_)
  have hk19 := fun (w1 : World) (hI : Inv w [oI z1 25 [(.int .i64 d.vars), (.int .i64 d.start), (.slice nb d.next.length nc), (.slice fb d.final.length fc)]] w1) => differC w1 d nb fb nc fc vs (hI.dfa h) hv hn k
  refine TO.loud rfl (l_call ent83 (CallT.of_pure hk19) rfl ?_)
  clear hk19
  rintro v O' ⟨N, rfl, mb, mc, qs, rfl, rfl, hM⟩
  refine TO.sub (O' := ([rowI mb mc 23 1 (bvals qs), oI z1 25 [(.int .i64 d.vars), (.int .i64 d.start), (.slice nb d.next.length nc), (.slice fb d.final.length fc)]] ++ (bitms 4 qs))) (Sub.cnt [] (by intro a; simp only [itms, oI, List.set_cons_zero, List.set_cons_succ, putL, List.cons_append, List.nil_append, List.append_nil, List.append_assoc, List.map_append, List.map_cons, List.map_nil, cnt_append, cnt_cons, cnt_nil] <;> omega)) ?_
  refine TO.quiet (q_assign rfl) ?_
  refine TO.nil (T.seq (T.region ?_))
  refine TO.quiet (q_assign rfl) ?_
  refine TO.nil (T.seq (T.region ?_))
  refine TO.quiet (q_assign rfl) ?_
  refine TO.nil (T.seq (T.seq (T.region ?_)))
  refine TO.quiet (q_assign rfl) ?_
  refine TO.nil (T.block ?_)
  refine T.nilRow 3 1 ?_
  refine T.loop (fun (s : Nat) ρ O => ∃ (lb : Option Addr) (lc : Nat), O = ([rowI lb lc 3 1 (nats (labD d (min k.toNat d.next.length) s).1), rowI mb mc 23 1 (bvals qs), oI z1 25 [(.int .i64 d.vars), (.int .i64 d.start), (.slice nb d.next.length nc), (.slice fb d.final.length fc)]] ++ (bitms 4 qs)) ∧ s ≤ d.next.length ∧ Heads [(0, (.agg #[(.int .i64 d.vars), (.int .i64 d.start), (.slice nb d.next.length nc), (.slice fb d.final.length fc)])), (1, .int .i64 k), (2, (.pointer (some ⟨z1, 0, none⟩))), (4, (.slice none 0 0)), (5, .int .i64 0), (6, .int .i64 ((0 : Nat) : Int)), (7, (.slice mb d.next.length mc)), (8, (.slice lb s lc)), (9, .int .i64 (((labD d (min k.toNat d.next.length) s).2 : Nat) : Int)), (10, .int .i64 (s : Int))] ρ) (fun s => d.next.length - s) 0 ?_ ?_
  · exact ⟨none, 0, rfl, Nat.zero_le _, ⟨rfl, rfl, rfl, rfl, rfl, rfl, rfl, rfl, rfl, rfl, trivial⟩⟩
  rintro s ρ O ⟨lb, lc, rfl, hs, hH⟩
  obtain ⟨ρ0, rfl⟩ := hH.elim
  clear hH
  obtain ⟨hll, hlc⟩ := labD_len d (min k.toNat d.next.length) s
  refine T.seq (T.seq (T.region ?_))
  refine TO.quiet (q_move rfl) (TO.quiet (q_move rfl) (TO.quiet (q_len Tryd.underlying115 rfl) (TO.quiet (q_lss rfl rfl) ?_)))
  refine TO.nil ?_
  refine T.condP rfl (fun hc => ?_) (fun hc => ?_)
  · have hlt23 : s < d.next.length := by omega
    obtain ⟨qa, ma, ga, la, ea⟩ := hM.get hlt23
    refine T.skip (T.seq (T.block (T.seq (T.region ?_))))
    refine TO.quiet (q_assign rfl) ?_
    refine TO.nil (T.seq (T.block ?_))
    refine T.loop (fun (t : Nat) ρ O => O = ([rowI lb lc 3 1 (nats (labD d (min k.toNat d.next.length) s).1), rowI mb mc 23 1 (bvals qs), oI z1 25 [(.int .i64 d.vars), (.int .i64 d.start), (.slice nb d.next.length nc), (.slice fb d.final.length fc)]] ++ (bitms 4 qs)) ∧ t ≤ s ∧ (∀ t', t' < t → dif d (min k.toNat d.next.length) s t' = true) ∧ Heads [(0, (.agg #[(.int .i64 d.vars), (.int .i64 d.start), (.slice nb d.next.length nc), (.slice fb d.final.length fc)])), (1, .int .i64 k), (2, (.pointer (some ⟨z1, 0, none⟩))), (4, (.slice none 0 0)), (5, .int .i64 0), (6, .int .i64 ((0 : Nat) : Int)), (7, (.slice mb d.next.length mc)), (8, (.slice lb s lc)), (9, .int .i64 (((labD d (min k.toNat d.next.length) s).2 : Nat) : Int)), (10, .int .i64 (s : Int)), (11, .int .i64 (t : Int))] ρ) (fun t => s - t) 0 ?_ ?_
    · exact ⟨rfl, Nat.zero_le _, fun t' h => absurd h (by omega), ⟨rfl, rfl, rfl, rfl, rfl, rfl, rfl, rfl, rfl, rfl, rfl, trivial⟩⟩
    rintro t ρ O ⟨rfl, ht, hdt, hH⟩
    obtain ⟨ρ0, rfl⟩ := hH.elim
    clear hH
    refine T.seq (T.seq (T.region ?_))
    refine TO.quiet (q_move rfl) (TO.quiet (q_move rfl) (TO.quiet (q_ix (i := s) Tryd.underlying115 inf23 rfl rfl (rowO (List.mem_of_getElem? (i := 1) rfl)) hlt23 (by rw [List.length_map, hM.len]; exact hlt23)) (TO.quiet (q_ld Tryd.underlying23 rfl rfl (rowO (List.mem_of_getElem? (i := 1) rfl)) ga) ?_)))
    refine TO.quiet (q_move rfl) (TO.quiet (q_ix (i := t) Tryd.underlying23 inf4 rfl rfl (fun w hI => hI.slOf (T := 4) (k := 1) (List.mem_append_right _ (List.mem_map_of_mem (f := BRec.itm 4) ma))) (by omega) (by omega)) (TO.quiet (q_ld Tryd.underlying4 rfl rfl (fun w hI => hI.slOf (T := 4) (k := 1) (List.mem_append_right _ (List.mem_map_of_mem (f := BRec.itm 4) ma))) (ea t (by omega))) ?_))
    refine TO.nil ?_
    refine T.cond rfl (fun hc => ?_) (fun hc => ?_)
    · have hts : t < s := by
        by_cases e : t = s
        · subst e; rw [dif_self] at hc; cases hc
        · omega
      refine T.skip (T.block (T.region ?_))
      refine TO.quiet (q_move rfl) (TO.quiet (q_inc rfl rfl (by omega)) (TO.quiet (q_assign rfl) ?_))
      refine TO.nil ?_
      exact ⟨t + 1, by omega, rfl, by omega, fun t' h9 => by
        by_cases e : t' = t
        · subst e; exact hc
        · exact hdt t' (by omega), ⟨rfl, rfl, rfl, rfl, rfl, rfl, rfl, rfl, rfl, rfl, rfl, trivial⟩⟩
    have hc0 := hc
    refine T.exit ?_
    refine T.seq (T.region ?_)
    refine TO.quiet (q_move rfl) (TO.quiet (q_move rfl) (TO.quiet (q_lss rfl rfl) ?_))
    refine TO.nil ?_
    refine T.condP rfl (fun hc => ?_) (fun hc => ?_)
    · have hlt37 : t < s := by omega
      have hst := labD_old hlt37 hdt hc0
      refine T.region ?_
      refine TO.quiet (q_move rfl) (TO.quiet (q_move rfl) (TO.quiet (q_move rfl) (TO.quiet (q_ix (i := t) Tryd.underlying52 inf3 rfl rfl (rowO (List.mem_of_getElem? (i := 0) rfl)) hlt37 (by rw [List.length_map, hll]; exact hlt37)) ?_)))
      refine TO.quiet (q_ld Tryd.underlying3 rfl rfl (rowO (List.mem_of_getElem? (i := 0) rfl)) (show (nats (labD d (min k.toNat d.next.length) s).1)[t]? = some (.int .i64 (((labD d (min k.toNat d.next.length) s).1.getD t 0 : Nat) : Int)) by rw [nats_get (by rw [hll]; exact hlt37)]; simp [hll, hlt37])) ?_
      refine TO.loud rfl (l_build1 (v := .int .i64 (((labD d (min k.toNat d.next.length) s).1.getD t 0 : Nat) : Int)) Tryd.underlying52 inf3 rfl rfl rfl (fun z2 => ?_))
      refine TO.loud rfl (l_append 1 Tryd.underlying52 Tryd.underlying52 inf3 rfl rfl rfl rfl (by rw [List.length_map, hll, Nat.mul_one]) (by decide) (Src.row (j := 0) rfl (by simp)) (by simp [oneB]) (by omega) (by decide) (by decide) (fun z3 zc4 => ?_))
      refine TO.quiet (q_assign rfl) ?_
      refine TO.nil (T.region ?_)
      refine TO.quiet (q_move rfl) (TO.quiet (q_inc rfl rfl (by omega)) (TO.quiet (q_assign rfl) ?_))
      refine TO.sub (O' := ([rowI z3 zc4 3 1 ((nats (labD d (min k.toNat d.next.length) s).1) ++ [.int .i64 (((labD d (min k.toNat d.next.length) s).1.getD t 0 : Nat) : Int)]), rowI mb mc 23 1 (bvals qs), oI z1 25 [(.int .i64 d.vars), (.int .i64 d.start), (.slice nb d.next.length nc), (.slice fb d.final.length fc)]] ++ (bitms 4 qs))) (Sub.pickR [1, 1, 1] [rowI (some ⟨z2, 0, none⟩) 1 3 1 [.int .i64 (((labD d (min k.toNat d.next.length) s).1.getD t 0 : Nat) : Int)], rowI z3 zc4 3 1 ((nats (labD d (min k.toNat d.next.length) s).1) ++ [.int .i64 (((labD d (min k.toNat d.next.length) s).1.getD t 0 : Nat) : Int)]), rowI mb mc 23 1 (bvals qs), oI z1 25 [(.int .i64 d.vars), (.int .i64 d.start), (.slice nb d.next.length nc), (.slice fb d.final.length fc)]] (bitms 4 qs) rfl rfl) ?_
      refine TO.nil ?_
      refine ⟨s + 1, by omega, z3, zc4, ?_, by omega, ?_⟩
      · rw [hst, show nats ((labD d (min k.toNat d.next.length) s).1 ++ [(labD d (min k.toNat d.next.length) s).1.getD t 0]) = nats (labD d (min k.toNat d.next.length) s).1 ++ [.int .i64 (((labD d (min k.toNat d.next.length) s).1.getD t 0 : Nat) : Int)] from List.map_append]
      · rw [hst]; exact ⟨rfl, rfl, rfl, rfl, rfl, rfl, rfl, rfl, rfl, rfl, trivial⟩
    have hge37 : ¬ t < s := by omega
    have hte : t = s := by omega
    have hst := labD_new (d := d) (k := (min k.toNat d.next.length)) (s := s) (fun t' h9 => hdt t' (by omega))
    refine T.seq (T.region ?_)
    refine TO.quiet (q_move rfl) (TO.quiet (q_move rfl) ?_)
    refine TO.loud rfl (l_build1 (v := .int .i64 (((labD d (min k.toNat d.next.length) s).2 : Nat) : Int)) Tryd.underlying52 inf3 rfl rfl rfl (fun z5 => ?_))
    refine TO.loud rfl (l_append 1 Tryd.underlying52 Tryd.underlying52 inf3 rfl rfl rfl rfl (by rw [List.length_map, hll, Nat.mul_one]) (by decide) (Src.row (j := 0) rfl (by simp)) (by simp [oneB]) (by omega) (by decide) (by decide) (fun z6 zc7 => ?_))
    refine TO.quiet (q_assign rfl) ?_
    refine TO.nil (T.region ?_)
    refine TO.quiet (q_move rfl) (TO.quiet (q_inc rfl rfl (by omega)) (TO.quiet (q_assign rfl) ?_))
    refine TO.nil (T.region ?_)
    refine TO.quiet (q_move rfl) (TO.quiet (q_inc rfl rfl (by omega)) (TO.quiet (q_assign rfl) ?_))
    refine TO.sub (O' := ([rowI z6 zc7 3 1 ((nats (labD d (min k.toNat d.next.length) s).1) ++ [.int .i64 (((labD d (min k.toNat d.next.length) s).2 : Nat) : Int)]), rowI mb mc 23 1 (bvals qs), oI z1 25 [(.int .i64 d.vars), (.int .i64 d.start), (.slice nb d.next.length nc), (.slice fb d.final.length fc)]] ++ (bitms 4 qs))) (Sub.pickR [1, 1, 1] [rowI (some ⟨z5, 0, none⟩) 1 3 1 [.int .i64 (((labD d (min k.toNat d.next.length) s).2 : Nat) : Int)], rowI z6 zc7 3 1 ((nats (labD d (min k.toNat d.next.length) s).1) ++ [.int .i64 (((labD d (min k.toNat d.next.length) s).2 : Nat) : Int)]), rowI mb mc 23 1 (bvals qs), oI z1 25 [(.int .i64 d.vars), (.int .i64 d.start), (.slice nb d.next.length nc), (.slice fb d.final.length fc)]] (bitms 4 qs) rfl rfl) ?_
    refine TO.nil ?_
    refine ⟨s + 1, by omega, z6, zc7, ?_, by omega, ?_⟩
    · rw [hst, show nats ((labD d (min k.toNat d.next.length) s).1 ++ [(labD d (min k.toNat d.next.length) s).2]) = nats (labD d (min k.toNat d.next.length) s).1 ++ [.int .i64 (((labD d (min k.toNat d.next.length) s).2 : Nat) : Int)] from List.map_append]
    · rw [hst]; exact ⟨rfl, rfl, rfl, rfl, rfl, rfl, rfl, rfl, rfl, rfl, trivial⟩
  have hge23 : ¬ s < d.next.length := by omega
  refine T.exit ?_
  refine T.seq (T.region ?_)
  refine TO.quiet (q_move rfl) (TO.quiet (q_assign rfl) (TO.quiet (q_assign rfl) ?_))
  refine TO.nil (T.ret (Res.drop ?_))
  refine Res.two (.slice lb s lc) (.int .i64 0) Tryd.results84 rfl rfl ?_
  have hse : s = d.next.length := by omega
  have hx : (labD d (min k.toNat d.next.length) s).1 = itF d k.toNat := by rw [hse]; exact labD_itF hv k.toNat
  exact ⟨[rowI lb lc 3 1 (nats (labD d (min k.toNat d.next.length) s).1)], Sub.cnt ([rowI mb mc 23 1 (bvals qs), oI z1 25 [(.int .i64 d.vars), (.int .i64 d.start), (.slice nb d.next.length nc), (.slice fb d.final.length fc)]] ++ bitms 4 qs) (by intro a; simp only [itms, bitms, oI, List.set_cons_zero, List.set_cons_succ, putL, List.cons_append, List.nil_append, List.append_nil, List.append_assoc, List.map_append, List.map_cons, List.map_nil, cnt_append, cnt_cons, cnt_nil] <;> omega), lb, lc, by rw [hse], by rw [hx]⟩
set_option maxHeartbeats 1000000 in
set_option maxRecDepth 20000 in
theorem rClassesBad (w : World) (d : DFA) (nb fb : Option Addr) (nc fc : Nat) (vs : List Value) (h : DfaAt w d nb vs fb) (hb : d.next.length < 9223372036854775807) (hbr : ∀ r ∈ d.next, r.length < 9223372036854775807) (hbf : d.final.length < 9223372036854775807) (he : checkD d ≠ 0) :
    PureT Tryd.prog 67 [.agg (dfaCells d nb nc fb fc).toArray] w fun v N => v = .tuple #[.slice none 0 0, .int .i64 (checkD d : Int)] ∧ N = [] := by
  refine CallT.enter Tryd.func67 rfl Tryd.ntmps67 rfl ?_
  refine T.seq (T.region ?_)
  refine TO.loud rfl (l_box (v := (.agg #[(.int .i64 d.vars), (.int .i64 d.start), (.slice nb d.next.length nc), (.slice fb d.final.length fc)])) (cs := [(.int .i64 d.vars), (.int .i64 d.start), (.slice nb d.next.length nc), (.slice fb d.final.length fc)]) rfl rfl (fun b1 => ?_))
  refine TO.quiet (q_assign rfl) (TO.quiet (q_assign rfl) ?_)
  refine TO.nil (T.seq (T.region ?_))
  refine TO.quiet (q_load_boxAgg 0 Tryd.underlying25 rfl inf25 rfl rfl rfl) (TO.quiet (q_fieldAddr Tryd.underlying25 rfl inf22 rfl rfl) (TO.quiet (q_load_box 0 Tryd.underlying22 rfl rfl rfl rfl) (TO.quiet (q_len Tryd.underlying22 rfl) ?_)))
  have hk8 := fun (w1 : World) (hI : Inv w [oI b1 25 [(.int .i64 d.vars), (.int .i64 d.start), (.slice nb d.next.length nc), (.slice fb d.final.length fc)]] w1) => rRoundsBad w1 d nb fb nc fc vs (hI.dfa h) hb hbr hbf he d.next.length
  refine TO.loud rfl (l_call ent84 (CallT.of_pure hk8) rfl ?_)
  clear hk8
  rintro v O' ⟨N, rfl, rfl, rfl⟩
  refine TO.quiet (q_extract (vs := _) rfl rfl) (TO.quiet (q_extract (vs := _) rfl rfl) (TO.quiet (q_assign rfl) (TO.quiet (q_assign rfl) ?_)))
  refine TO.nil (T.ret (Res.drop ?_))
  refine Res.two (.slice none 0 0) (.int .i64 (checkD d : Int)) Tryd.results67 rfl rfl ?_
  exact ⟨[], Sub.of (List.nil_sublist _), rfl, rfl⟩
set_option maxHeartbeats 1000000 in
set_option maxRecDepth 20000 in
theorem rClassesOk (w : World) (d : DFA) (nb fb : Option Addr) (nc fc : Nat) (vs : List Value) (h : DfaAt w d nb vs fb) (hv : Valid d) (hn : d.next.length < 100) :
    PureT Tryd.prog 67 [.agg (dfaCells d nb nc fb fc).toArray] w fun v N => ∃ b c, v = .tuple #[.slice b d.next.length c, .int .i64 0] ∧ N = [rowI b c 3 1 (nats (itF d d.next.length))] := by
  refine CallT.enter Tryd.func67 rfl Tryd.ntmps67 rfl ?_
  refine T.seq (T.region ?_)
  refine TO.loud rfl (l_box (v := (.agg #[(.int .i64 d.vars), (.int .i64 d.start), (.slice nb d.next.length nc), (.slice fb d.final.length fc)])) (cs := [(.int .i64 d.vars), (.int .i64 d.start), (.slice nb d.next.length nc), (.slice fb d.final.length fc)]) rfl rfl (fun b1 => ?_))
  refine TO.quiet (q_assign rfl) (TO.quiet (q_assign rfl) ?_)
  refine TO.nil (T.seq (T.region ?_))
  refine TO.quiet (q_load_boxAgg 0 Tryd.underlying25 rfl inf25 rfl rfl rfl) (TO.quiet (q_fieldAddr Tryd.underlying25 rfl inf22 rfl rfl) (TO.quiet (q_load_box 0 Tryd.underlying22 rfl rfl rfl rfl) (TO.quiet (q_len Tryd.underlying22 rfl) ?_)))
  have hk8 := fun (w1 : World) (hI : Inv w [oI b1 25 [(.int .i64 d.vars), (.int .i64 d.start), (.slice nb d.next.length nc), (.slice fb d.final.length fc)]] w1) => rRoundsOk w1 d nb fb nc fc vs (hI.dfa h) hv hn d.next.length
  refine TO.loud rfl (l_call ent84 (CallT.of_pure hk8) rfl ?_)
  clear hk8
  rintro v O' ⟨N, rfl, b, c, rfl, rfl⟩
  refine TO.quiet (q_extract (vs := _) rfl rfl) (TO.quiet (q_extract (vs := _) rfl rfl) (TO.quiet (q_assign rfl) (TO.quiet (q_assign rfl) ?_)))
  refine TO.nil (T.ret (Res.drop ?_))
  refine Res.two (.slice b d.next.length c) (.int .i64 0) Tryd.results67 rfl rfl ?_
  exact ⟨[rowI b c 3 1 (nats (itF d d.next.length))], (Sub.pick [0] rfl), _, _, rfl, rfl⟩
end Go.Proofs.YtdaapdamcekkgaaDoor

namespace Go.Proofs.YtdaapdamcekkgaaDoor
open Go.Lx Go.RowKit
set_option linter.unusedVariables false
set_option linter.unusedSimpArgs false
theorem hasNat (w : World) (b : Option Addr) (c : Nat) (xs : List Nat) (x m : Nat) (hm : m = xs.length) (h : Sl w b (nats xs)) (hb : xs.length < 9223372036854775807) : PureT Tryd.prog 95 [.slice b m c, .int .i64 (x : Int)] w fun v N => v = .bool (decide (x ∈ xs)) ∧ N = [] := by
  subst hm
  have h1 := hasInt w b c (xs.map fun x : Nat => (x : Int)) x (by simpa [Function.comp_def] using h) (by simpa using hb)
  have e : decide ((x : Int) ∈ xs.map fun x : Nat => (x : Int)) = decide (x ∈ xs) := by
    apply decide_eq_decide.2
    simp only [List.mem_map]
    constructor
    · rintro ⟨y, hy, e⟩
      have : y = x := by omega
      exact this ▸ hy
    · exact fun h => ⟨x, h, rfl⟩
  rw [e, List.length_map] at h1
  exact h1
set_option maxHeartbeats 1000000 in
set_option maxRecDepth 20000 in
theorem numberC (w : World) (b : Option Addr) (c : Nat) (xs : List Nat) (x m : Nat) (hm : m = xs.length) (h : Sl w b (nats xs)) (hb : xs.length < 9223372036854775807) (hx : x ∈ xs) : PureT Tryd.prog 86 [.slice b m c, .int .i64 (x : Int)] w fun v N => v = .int .i64 ((ix x xs : Nat) : Int) ∧ N = [] := by
  refine CallT.enter Tryd.func86 rfl Tryd.ntmps86 rfl ?_
  have hix := ix_lt hx
  have hixg := ix_get hx
  refine T.seq (T.region ?_)
  refine TO.quiet (q_assign rfl) ?_
  refine TO.nil (T.seq (T.region ?_))
  refine TO.quiet (q_assign rfl) ?_
  refine TO.nil (T.seq (T.block ?_))
  refine T.loop (fun (k : Nat) ρ O => O = [] ∧ k ≤ ix x xs ∧ Heads [(0, (.slice b m c)), (1, .int .i64 (x : Int)), (4, .int .i64 0), (5, .int .i64 (k : Int))] ρ) (fun k => xs.length - k) 0 ?_ ?_
  · exact ⟨rfl, Nat.zero_le _, ⟨rfl, rfl, rfl, rfl, trivial⟩⟩
  rintro k ρ O ⟨rfl, hk, hH⟩
  obtain ⟨ρ0, rfl⟩ := hH.elim
  clear hH
  have hk9 : k < xs.length := by omega
  refine T.seq (T.seq (T.region ?_))
  refine TO.quiet (q_move rfl) (TO.quiet (q_move rfl) (TO.quiet (q_ix (i := k) Tryd.underlying52 inf3 rfl rfl (Sl.o h) (by omega) (by rw [List.length_map]; omega)) (TO.quiet (q_ld Tryd.underlying3 rfl rfl (Sl.o h) (nats_get hk9)) ?_)))
  refine TO.quiet (q_move rfl) (TO.quiet (q_neq rfl rfl) ?_)
  refine TO.nil ?_
  refine T.condP (p := ¬ xs[k] = x) (congrArg Value.bool (decide_eq_decide.2 (by omega))) (fun hc => ?_) (fun hc => ?_)
  · have hlt11 : xs[k] ≠ x := by omega
    have hne : k ≠ ix x xs := fun e => hc (by subst e; exact Option.some.inj (by rw [← hixg, List.getElem?_eq_getElem hk9]))
    refine T.skip (T.block (T.region ?_))
    refine TO.quiet (q_move rfl) (TO.quiet (q_inc rfl rfl (by omega)) (TO.quiet (q_assign rfl) ?_))
    refine TO.nil ?_
    exact ⟨k + 1, by omega, rfl, by omega, ⟨rfl, rfl, rfl, rfl, trivial⟩⟩
  have hge11 : ¬ xs[k] ≠ x := by omega
  refine T.exit ?_
  refine T.seq (T.region ?_)
  refine TO.quiet (q_move rfl) (TO.quiet (q_assign rfl) ?_)
  refine TO.nil (T.ret ?_)
  refine Res.one (.int .i64 (k : Int)) Tryd.results86 rfl ?_
  have hle := ix_le (List.getElem?_eq_some_iff.2 ⟨hk9, Classical.not_not.1 hc⟩)
  exact ⟨by rw [show k = ix x xs by omega], rfl⟩
set_option maxHeartbeats 1000000 in
set_option maxRecDepth 20000 in
theorem orderC (w : World) (d : DFA) (nb fb : Option Addr) (nc fc : Nat) (vs : List Value) (h : DfaAt w d nb vs fb) (hv : Valid d) (hn : d.next.length < 100) :
    PureT Tryd.prog 85 [.agg (dfaCells d nb nc fb fc).toArray] w fun v N => ∃ b c, v = .slice b (order d).length c ∧ N = [rowI b c 3 1 (nats (order d))] := by
  refine CallT.enter Tryd.func85 rfl Tryd.ntmps85 rfl ?_
  have hs0 := hv.s0
  have hvl := h.rows.1
  have hww := hv.width
  refine T.seq (T.region ?_)
  refine TO.loud rfl (l_box (v := (.agg #[(.int .i64 d.vars), (.int .i64 d.start), (.slice nb d.next.length nc), (.slice fb d.final.length fc)])) (cs := [(.int .i64 d.vars), (.int .i64 d.start), (.slice nb d.next.length nc), (.slice fb d.final.length fc)]) rfl rfl (fun z1 => ?_))
  refine TO.quiet (q_assign rfl) ?_
  refine TO.nil (T.seq (T.region ?_))
  refine TO.quiet (q_fieldAddr Tryd.underlying25 rfl inf3 rfl rfl) (TO.quiet (q_load_box 0 Tryd.underlying3 rfl rfl rfl rfl) ?_)
  refine TO.loud rfl (l_build1 (v := (.int .i64 d.start)) Tryd.underlying52 inf3 rfl rfl rfl (fun z2 => ?_))
  refine TO.quiet (q_assign rfl) ?_
  refine TO.nil (T.seq (T.seq (T.region ?_)))
  refine TO.quiet (q_assign rfl) ?_
  refine TO.nil (T.block ?_)
  refine T.loop (fun (i : Nat) ρ O => ∃ (lb : Option Addr) (lc m : Nat), O = [rowI lb lc 3 1 (nats (bfsN d i)), oI z1 25 [(.int .i64 d.vars), (.int .i64 d.start), (.slice nb d.next.length nc), (.slice fb d.final.length fc)]] ∧ m = (bfsN d i).length ∧ i ≤ m ∧ Heads [(0, (.agg #[(.int .i64 d.vars), (.int .i64 d.start), (.slice nb d.next.length nc), (.slice fb d.final.length fc)])), (1, (.pointer (some ⟨z1, 0, none⟩))), (2, (.slice none 0 0)), (3, (.slice lb m lc)), (4, .int .i64 (i : Int))] ρ) (fun i => d.next.length - i) 0 ?_ ?_
  · exact ⟨_, _, 1, by rw [show nats (bfsN d 0) = [.int .i64 d.start] by simp [bfsN, Int.toNat_of_nonneg hs0]], rfl, Nat.zero_le _, ⟨rfl, rfl, rfl, rfl, rfl, trivial⟩⟩
  rintro i ρ O ⟨lb, lc, m, rfl, hm, him, hH⟩
  obtain ⟨ρ0, rfl⟩ := hH.elim
  clear hH
  have hlen := bfsN_len hv i
  refine T.seq (T.seq (T.region ?_))
  refine TO.quiet (q_move rfl) (TO.quiet (q_move rfl) (TO.quiet (q_len Tryd.underlying52 rfl) (TO.quiet (q_lss rfl rfl) ?_)))
  refine TO.nil ?_
  refine T.condP rfl (fun hc => ?_) (fun hc => ?_)
  · have hlt13 : i < m := by omega
    obtain ⟨o, ho⟩ : ∃ o, (bfsN d i)[i]? = some o := ⟨_, List.getElem?_eq_getElem (show i < (bfsN d i).length by omega)⟩
    have ho9 := (bfsN_ok hv i).2 o (List.mem_of_getElem? ho)
    obtain ⟨vb, vc, g1, s1⟩ := h.rows.get ho9
    have hl1 : d.next[o].length = 2 ^ d.vars.toNat := hv.len _ (List.getElem_mem ho9)
    refine T.skip (T.seq (T.block (T.seq ?_)))
    refine T.draws _ [(0, 0), (1, 0), (2, 0), (3, 0), (4, 0), (5, 0), (6, 0), (7, 0), (8, 0)] mixed (by kernel_rfl) (Sub.of (List.Sublist.refl _)) (fun _ _ _ h => h) ?_
    refine DO.quiet rfl (q_fieldAddr Tryd.underlying25 rfl inf22 rfl rfl) (DO.quiet rfl (q_load_box 1 Tryd.underlying22 rfl rfl rfl rfl) (DO.quiet rfl (q_move rfl) (DO.quiet rfl (q_move rfl) ?_)))
    refine DO.quiet rfl (q_ix (i := i) Tryd.underlying52 inf3 rfl rfl (rowO (List.mem_of_getElem? (i := 0) rfl)) (by omega) (by rw [List.length_map]; omega)) (DO.quiet rfl (q_ld Tryd.underlying3 rfl rfl (rowO (List.mem_of_getElem? (i := 0) rfl)) (show (nats (bfsN d i))[i]? = some (.int .i64 ((o : Nat) : Int)) by rw [List.getElem?_map, ho]; rfl)) (DO.quiet rfl (q_ix (i := o) Tryd.underlying22 inf52 rfl rfl (Sl.o h.outer) ho9 (hvl ▸ ho9)) (DO.quiet rfl (q_ld Tryd.underlying52 rfl rfl (Sl.o h.outer) g1) ?_)))
    refine DO.quiet rfl (q_assign rfl) ?_
    refine DO.done ?_
    refine T.seq (T.region ?_)
    refine TO.quiet (q_assign rfl) ?_
    refine TO.nil (T.block ?_)
    refine T.loop (fun (x : Nat) ρ O => ∃ (lb : Option Addr) (lc m2 : Nat), O = [rowI lb lc 3 1 (nats (bfsM d i o x)), oI z1 25 [(.int .i64 d.vars), (.int .i64 d.start), (.slice nb d.next.length nc), (.slice fb d.final.length fc)]] ∧ x ≤ 2 ^ d.vars.toNat ∧ m2 = (bfsM d i o x).length ∧ Heads [(0, (.agg #[(.int .i64 d.vars), (.int .i64 d.start), (.slice nb d.next.length nc), (.slice fb d.final.length fc)])), (1, (.pointer (some ⟨z1, 0, none⟩))), (2, (.slice none 0 0)), (3, (.slice lb m2 lc)), (4, .int .i64 (i : Int)), (5, (.slice vb d.next[o].length vc)), (6, .int .i64 (x : Int))] ρ) (fun x => 2 ^ d.vars.toNat - x) 0 ?_ ?_
    · exact ⟨lb, lc, m, rfl, Nat.zero_le _, hm, ⟨rfl, rfl, rfl, rfl, rfl, rfl, rfl, trivial⟩⟩
    rintro x ρ O ⟨lb, lc, m2, rfl, hx, hm2, hH⟩
    obtain ⟨ρ0, rfl⟩ := hH.elim
    clear hH
    obtain ⟨hml1, hml2⟩ := bfsM_len (i := i) hv ho9 hx
    refine T.seq (T.seq (T.region ?_))
    refine TO.quiet (q_move rfl) (TO.quiet (q_move rfl) (TO.quiet (q_len Tryd.underlying52 rfl) (TO.quiet (q_lss rfl rfl) ?_)))
    refine TO.nil ?_
    refine T.condP rfl (fun hc => ?_) (fun hc => ?_)
    · have hlt27 : x < d.next[o].length := by omega
      have hlx : x < 2 ^ d.vars.toNat := by omega
      obtain ⟨hta, _, hxk1, hx1⟩ := hv.toN_lt ho9 hlx
      have hx1 : (ints d.next[o])[x]? = some (.int .i64 ((toN d o x : Nat) : Int)) := by rw [ints_get hxk1, hx1]
      refine T.skip (T.seq (T.block (T.seq (T.region ?_))))
      refine TO.quiet (q_move rfl) (TO.quiet (q_move rfl) (TO.quiet (q_move rfl) (TO.quiet (q_ix (i := x) Tryd.underlying52 inf3 rfl rfl (Sl.o s1) (by rw [hl1]; exact hlx) (by rw [List.length_map, hl1]; exact hlx)) ?_)))
      refine TO.quiet (q_ld Tryd.underlying3 rfl rfl (Sl.o s1) hx1) ?_
      by_cases hin : toN d o x ∈ bfsM d i o x
      · have hk35 := fun (w1 : World) (hI : Inv w [rowI lb lc 3 1 (nats (bfsM d i o x)), oI z1 25 [(.int .i64 d.vars), (.int .i64 d.start), (.slice nb d.next.length nc), (.slice fb d.final.length fc)]] w1) => hasNat w1 lb lc (bfsM d i o x) (toN d o x) m2 hm2 (hI.slOf (List.mem_of_getElem? (i := 0) rfl)) (by omega)
        refine TO.loud rfl (l_call ent95 (CallT.of_pure hk35) rfl ?_)
        clear hk35
        rintro v O' ⟨N, rfl, rfl, rfl⟩
        rw [decide_eq_true hin]
        refine TO.quiet (q_not rfl) ?_
        refine TO.nil ?_
        refine T.cond0 rfl ?_
        refine T.skip (T.region ?_)
        refine TO.quiet (q_move rfl) (TO.quiet (q_inc rfl rfl (by omega)) (TO.quiet (q_assign rfl) ?_))
        refine TO.sub (O' := [rowI lb lc 3 1 (nats (bfsM d i o x)), oI z1 25 [(.int .i64 d.vars), (.int .i64 d.start), (.slice nb d.next.length nc), (.slice fb d.final.length fc)]]) (Sub.pick [0, 0] rfl) ?_
        refine TO.nil ?_
        have hst : bfsM d i o (x + 1) = bfsM d i o x := by rw [bfsM_step, add, if_pos hin]
        exact ⟨x + 1, by omega, lb, lc, m2, by rw [hst], by omega, by rw [hst]; exact hm2, ⟨rfl, rfl, rfl, rfl, rfl, rfl, rfl, trivial⟩⟩
      have hk35 := fun (w1 : World) (hI : Inv w [rowI lb lc 3 1 (nats (bfsM d i o x)), oI z1 25 [(.int .i64 d.vars), (.int .i64 d.start), (.slice nb d.next.length nc), (.slice fb d.final.length fc)]] w1) => hasNat w1 lb lc (bfsM d i o x) (toN d o x) m2 hm2 (hI.slOf (List.mem_of_getElem? (i := 0) rfl)) (by omega)
      refine TO.loud rfl (l_call ent95 (CallT.of_pure hk35) rfl ?_)
      clear hk35
      rintro v O' ⟨N, rfl, rfl, rfl⟩
      rw [decide_eq_false hin]
      refine TO.quiet (q_not rfl) ?_
      refine TO.nil ?_
      refine T.cond1 rfl ?_
      refine T.region ?_
      refine TO.quiet (q_move rfl) (TO.quiet (q_move rfl) (TO.quiet (q_move rfl) (TO.quiet (q_ix (i := x) Tryd.underlying52 inf3 rfl rfl (Sl.o s1) (by rw [hl1]; exact hlx) (by rw [List.length_map, hl1]; exact hlx)) ?_)))
      refine TO.quiet (q_ld Tryd.underlying3 rfl rfl (Sl.o s1) hx1) ?_
      refine TO.loud rfl (l_build1 (v := .int .i64 ((toN d o x : Nat) : Int)) Tryd.underlying52 inf3 rfl rfl rfl (fun z3 => ?_))
      refine TO.loud rfl (l_append 1 Tryd.underlying52 Tryd.underlying52 inf3 rfl rfl rfl rfl (by rw [List.length_map, hm2, Nat.mul_one]) (by decide) (Src.row (j := 0) rfl (by simp)) (by simp [oneB]) (by omega) (by decide) (by decide) (fun z4 zc5 => ?_))
      refine TO.quiet (q_assign rfl) ?_
      refine TO.nil (T.region ?_)
      refine TO.quiet (q_move rfl) (TO.quiet (q_inc rfl rfl (by omega)) (TO.quiet (q_assign rfl) ?_))
      refine TO.sub (O' := [rowI z4 zc5 3 1 ((nats (bfsM d i o x)) ++ [.int .i64 ((toN d o x : Nat) : Int)]), oI z1 25 [(.int .i64 d.vars), (.int .i64 d.start), (.slice nb d.next.length nc), (.slice fb d.final.length fc)]]) (Sub.pick [1, 1] rfl) ?_
      refine TO.nil ?_
      have hst : bfsM d i o (x + 1) = bfsM d i o x ++ [toN d o x] := by rw [bfsM_step, add, if_neg hin]
      exact ⟨x + 1, by omega, z4, zc5, m2 + 1, by rw [hst, show nats (bfsM d i o x ++ [toN d o x]) = nats (bfsM d i o x) ++ [.int .i64 ((toN d o x : Nat) : Int)] from List.map_append], by omega, by rw [hst]; simp [hm2], ⟨rfl, rfl, rfl, rfl, rfl, rfl, rfl, trivial⟩⟩
    have hge27 : ¬ x < d.next[o].length := by omega
    refine T.exit ?_
    refine T.region ?_
    refine TO.quiet (q_move rfl) (TO.quiet (q_inc rfl rfl (by omega)) (TO.quiet (q_assign rfl) ?_))
    refine TO.nil ?_
    have hxe : x = 2 ^ d.vars.toNat := by omega
    have hbs : bfsM d i o x = bfsN d (i + 1) := by rw [bfsN_succ ho, hxe]; rfl
    exact ⟨i + 1, by omega, lb, lc, m2, by rw [hbs], by rw [← hbs]; exact hm2, by omega, ⟨rfl, rfl, rfl, rfl, rfl, trivial⟩⟩
  have hge13 : ¬ i < m := by omega
  refine T.exit ?_
  refine T.seq (T.region ?_)
  refine TO.quiet (q_move rfl) (TO.quiet (q_assign rfl) ?_)
  refine TO.nil (T.ret (Res.drop ?_))
  refine Res.one (.slice lb m lc) Tryd.results85 rfl ?_
  have hlen := bfsN_len hv i
  have hle : order d = bfsN d i := order_eq (by omega) (by omega)
  exact ⟨[rowI lb lc 3 1 (nats (bfsN d i))], (Sub.pick [0] rfl), _, _, by rw [hle, ← hm], by rw [hle]⟩
set_option maxHeartbeats 1000000 in
set_option maxRecDepth 20000 in
theorem rRenumBad (w : World) (d : DFA) (nb fb : Option Addr) (nc fc : Nat) (vs : List Value) (h : DfaAt w d nb vs fb) (hb : d.next.length < 9223372036854775807) (hbr : ∀ r ∈ d.next, r.length < 9223372036854775807) (hbf : d.final.length < 9223372036854775807) (he : checkD d ≠ 0) :
    PureT Tryd.prog 68 [.agg (dfaCells d nb nc fb fc).toArray] w fun v N => v = .tuple #[.agg #[.int .i64 0, .int .i64 0, .slice none 0 0, .slice none 0 0], .int .i64 (checkD d : Int)] ∧ N = [] := by
  refine CallT.enter Tryd.func68 rfl Tryd.ntmps68 rfl ?_
  refine T.seq (T.region ?_)
  refine TO.loud rfl (l_box (v := (.agg #[(.int .i64 d.vars), (.int .i64 d.start), (.slice nb d.next.length nc), (.slice fb d.final.length fc)])) (cs := [(.int .i64 d.vars), (.int .i64 d.start), (.slice nb d.next.length nc), (.slice fb d.final.length fc)]) rfl rfl (fun b1 => ?_))
  refine TO.loud rfl (l_alloc inf25 rfl (fun b2 => ?_))
  refine TO.quiet (q_assign rfl) ?_
  refine TO.nil (T.seq (T.region ?_))
  refine TO.quiet (q_load_boxAgg 1 Tryd.underlying25 rfl inf25 rfl rfl rfl) ?_
  have hk11 := fun (w1 : World) (hI : Inv w [oI b2 25 [(.int .i64 0), (.int .i64 0), (.slice none 0 0), (.slice none 0 0)], oI b1 25 [(.int .i64 d.vars), (.int .i64 d.start), (.slice nb d.next.length nc), (.slice fb d.final.length fc)]] w1) => refCheck w1 d nb fb nc fc vs (hI.dfa h) hb hbr hbf
  refine TO.loud rfl (l_call ent37 (CallT.of_pure hk11) rfl ?_)
  clear hk11
  rintro v O' ⟨N, rfl, rfl, rfl⟩
  refine TO.quiet (q_assign rfl) ?_
  refine TO.nil (T.seq (T.seq (T.region ?_)))
  refine TO.quiet (q_move rfl) (TO.quiet (QT.toB (q_neq rfl rfl) (decide_eq_true (by omega))) ?_)
  refine TO.nil ?_
  refine T.cond1 rfl ?_
  refine T.seq (T.region ?_)
  refine TO.quiet (q_build plan25 inf25 rfl) (TO.quiet (q_move rfl) ?_)
  refine TO.loud rfl (l_store_box (v := (.agg #[(.int .i64 0), (.int .i64 0), (.slice none 0 0), (.slice none 0 0)])) (vs := [(.int .i64 0), (.int .i64 0), (.slice none 0 0), (.slice none 0 0)]) 0 inf25 rfl rfl rfl rfl rfl rfl (by simp [putL]) ?_)
  refine TO.quiet (q_assign rfl) ?_
  refine TO.nil (T.ret (Res.drop ?_))
  refine Res.cell1b (.int .i64 (checkD d : Int)) (i := 0) Tryd.results68 Tryd.underlying25 rfl inf25 rfl rfl rfl rfl ?_
  exact ⟨[], Sub.of (List.nil_sublist _), rfl, rfl⟩
set_option maxHeartbeats 4000000 in
set_option maxRecDepth 20000 in
theorem rRenumOk (w : World) (d : DFA) (nb fb : Option Addr) (nc fc : Nat) (vs : List Value) (h : DfaAt w d nb vs fb) (hv : Valid d) (hn : d.next.length < 100) :
    PureT Tryd.prog 68 [.agg (dfaCells d nb nc fb fc).toArray] w fun v N => ∃ nb' nc' fb' fc' qs, v = .tuple #[.agg (dfaCells (renum d) nb' nc' fb' fc').toArray, .int .i64 0] ∧ N = [rowI nb' nc' 52 1 (vals qs), rowI fb' fc' 4 1 (bools (renum d).final)] ++ itms 3 qs ∧ nums qs = (renum d).next := by
  refine CallT.enter Tryd.func68 rfl Tryd.ntmps68 rfl ?_
  have he := checkD_zero.2 hv
  have hb : d.next.length < 9223372036854775807 := by have := hv.n4; omega
  have hbr : ∀ r ∈ d.next, r.length < 9223372036854775807 := hv.bound
  have hbf : d.final.length < 9223372036854775807 := by have := hv.fin; omega
  have hvl := h.rows.1
  have hww := hv.width
  have hol := order_len hv
  have hfl := hv.fin
  refine T.seq (T.region ?_)
  refine TO.loud rfl (l_box (v := (.agg #[(.int .i64 d.vars), (.int .i64 d.start), (.slice nb d.next.length nc), (.slice fb d.final.length fc)])) (cs := [(.int .i64 d.vars), (.int .i64 d.start), (.slice nb d.next.length nc), (.slice fb d.final.length fc)]) rfl rfl (fun z1 => ?_))
  refine TO.loud rfl (l_alloc inf25 rfl (fun z2 => ?_))
  refine TO.quiet (q_assign rfl) ?_
  refine TO.nil (T.seq (T.region ?_))
  refine TO.quiet (q_load_boxAgg 1 Tryd.underlying25 rfl inf25 rfl rfl rfl) ?_
  have hk11 := fun (w1 : World) (hI : Inv w [oI z2 25 [(.int .i64 0), (.int .i64 0), (.slice none 0 0), (.slice none 0 0)], oI z1 25 [(.int .i64 d.vars), (.int .i64 d.start), (.slice nb d.next.length nc), (.slice fb d.final.length fc)]] w1) => refCheck w1 d nb fb nc fc vs (hI.dfa h) hb hbr hbf
  refine TO.loud rfl (l_call ent37 (CallT.of_pure hk11) rfl ?_)
  clear hk11
  rintro v O' ⟨N, rfl, rfl, rfl⟩
  rw [he]
  refine TO.quiet (q_assign rfl) ?_
  refine TO.nil (T.seq (T.seq (T.region ?_)))
  refine TO.quiet (q_move rfl) (TO.quiet (q_neq rfl rfl) ?_)
  refine TO.nil ?_
  refine T.cond0 rfl ?_
  refine T.skip (T.seq (T.region ?_))
  refine TO.quiet (q_load_boxAgg 1 Tryd.underlying25 rfl inf25 rfl rfl rfl) ?_
  have hk17 := fun (w1 : World) (hI : Inv w [oI z2 25 [(.int .i64 0), (.int .i64 0), (.slice none 0 0), (.slice none 0 0)], oI z1 25 [(.int .i64 d.vars), (.int .i64 d.start), (.slice nb d.next.length nc), (.slice fb d.final.length fc)]] w1) => orderC w1 d nb fb nc fc vs (hI.dfa h) hv hn
  refine TO.loud rfl (l_call ent85 (CallT.of_pure hk17) rfl ?_)
  clear hk17
  rintro v O' ⟨N, rfl, lb, lc, rfl, rfl⟩
  refine TO.quiet (q_assign rfl) ?_
  refine TO.nil (T.seq (T.region ?_))
  refine TO.quiet (q_fieldAddr Tryd.underlying25 rfl inf3 rfl rfl) (TO.quiet (q_load_box 2 Tryd.underlying3 rfl rfl rfl rfl) (TO.quiet (q_build (cs := [(.int .i64 d.vars), (.int .i64 0), (.slice none 0 0), (.slice none 0 0)]) plan25 inf25 (by kernel_rfl)) ?_))
  refine TO.loud rfl (l_alloc inf25 rfl (fun z3 => ?_))
  refine TO.loud rfl (l_store_box (v := (.agg #[(.int .i64 d.vars), (.int .i64 0), (.slice none 0 0), (.slice none 0 0)])) (vs := [(.int .i64 d.vars), (.int .i64 0), (.slice none 0 0), (.slice none 0 0)]) 0 inf25 rfl rfl rfl rfl rfl rfl (by simp [putL]) ?_)
  refine TO.nil (T.seq (T.seq (T.region ?_)))
  refine TO.quiet (q_assign rfl) ?_
  refine TO.nil (T.block ?_)
  refine T.nilRow 4 1 ?_
  refine T.nilRow 52 1 ?_
  refine T.loop (fun (i : Nat) ρ O => ∃ (ob fb9 : Option Addr) (oc fc9 : Nat) (qs : List Rec), O = ([rowI ob oc 52 1 (vals qs), rowI fb9 fc9 4 1 (bools (((order d).take i).map fun o => d.final.getD o false)), oI z3 25 [(.int .i64 d.vars), (.int .i64 0), (.slice ob i oc), (.slice fb9 i fc9)], rowI lb lc 3 1 (nats (order d)), oI z2 25 [(.int .i64 0), (.int .i64 0), (.slice none 0 0), (.slice none 0 0)], oI z1 25 [(.int .i64 d.vars), (.int .i64 d.start), (.slice nb d.next.length nc), (.slice fb d.final.length fc)]] ++ (itms 3 qs)) ∧ i ≤ (order d).length ∧ nums qs = (renum d).next.take i ∧ Heads [(0, (.agg #[(.int .i64 d.vars), (.int .i64 d.start), (.slice nb d.next.length nc), (.slice fb d.final.length fc)])), (1, (.pointer (some ⟨z1, 0, none⟩))), (2, (.pointer (some ⟨z2, 0, none⟩))), (3, .int .i64 0), (4, .int .i64 ((0 : Nat) : Int)), (5, (.slice lb ((order d).length) lc)), (6, (.pointer (some ⟨z3, 0, none⟩))), (7, .int .i64 (i : Int))] ρ) (fun i => (order d).length - i) 0 ?_ ?_
  · refine ⟨none, none, 0, 0, [], ?_, Nat.zero_le _, rfl, ⟨rfl, rfl, rfl, rfl, rfl, rfl, rfl, rfl, trivial⟩⟩
    rfl
  rintro i ρ O ⟨ob, fb9, oc, fc9, qs, rfl, hi, hqs, hH⟩
  obtain ⟨ρ0, rfl⟩ := hH.elim
  clear hH
  have hql : qs.length = i := by
    have := congrArg List.length hqs
    simp [renum_next] at this
    omega
  refine T.seq (T.seq (T.region ?_))
  refine TO.quiet (q_move rfl) (TO.quiet (q_move rfl) (TO.quiet (q_len Tryd.underlying52 rfl) (TO.quiet (q_lss rfl rfl) ?_)))
  refine TO.nil ?_
  refine T.condP rfl (fun hc => ?_) (fun hc => ?_)
  · have hlt24 : i < (order d).length := by omega
    obtain ⟨o, hog⟩ : ∃ o, (order d)[i] = o := ⟨_, rfl⟩
    have ho : (order d)[i]? = some o := by rw [List.getElem?_eq_getElem hlt24, hog]
    have hom := List.mem_of_getElem? ho
    have ho9 := order_lt hv o hom
    have hof : o < d.final.length := by omega
    obtain ⟨vb, vc, g1, s1⟩ := h.rows.get ho9
    have hl1 : d.next[o].length = 2 ^ d.vars.toNat := hv.len _ (List.getElem_mem ho9)
    refine T.skip (T.seq (T.block (T.seq (T.region ?_))))
    refine TO.quiet (q_assign rfl) ?_
    refine TO.nil (T.seq (T.seq (T.region ?_)))
    refine TO.quiet (q_assign rfl) ?_
    refine TO.nil (T.block ?_)
    refine T.nilRow 3 1 ?_
    refine T.loop (fun (x : Nat) ρ O => ∃ (kb : Option Addr) (kc : Nat), O = ([rowI kb kc 3 1 (nats ((renRow d o).take x)), rowI ob oc 52 1 (vals qs), rowI fb9 fc9 4 1 (bools (((order d).take i).map fun o => d.final.getD o false)), oI z3 25 [(.int .i64 d.vars), (.int .i64 0), (.slice ob i oc), (.slice fb9 i fc9)], rowI lb lc 3 1 (nats (order d)), oI z2 25 [(.int .i64 0), (.int .i64 0), (.slice none 0 0), (.slice none 0 0)], oI z1 25 [(.int .i64 d.vars), (.int .i64 d.start), (.slice nb d.next.length nc), (.slice fb d.final.length fc)]] ++ (itms 3 qs)) ∧ x ≤ 2 ^ d.vars.toNat ∧ Heads [(0, (.agg #[(.int .i64 d.vars), (.int .i64 d.start), (.slice nb d.next.length nc), (.slice fb d.final.length fc)])), (1, (.pointer (some ⟨z1, 0, none⟩))), (2, (.pointer (some ⟨z2, 0, none⟩))), (3, .int .i64 0), (4, .int .i64 ((0 : Nat) : Int)), (5, (.slice lb ((order d).length) lc)), (6, (.pointer (some ⟨z3, 0, none⟩))), (7, .int .i64 (i : Int)), (8, (.slice kb x kc)), (9, .int .i64 (x : Int))] ρ) (fun x => 2 ^ d.vars.toNat - x) 0 ?_ ?_
    · exact ⟨none, 0, rfl, Nat.zero_le _, ⟨rfl, rfl, rfl, rfl, rfl, rfl, rfl, rfl, rfl, rfl, trivial⟩⟩
    rintro x ρ O ⟨kb, kc, rfl, hx, hH⟩
    obtain ⟨ρ0, rfl⟩ := hH.elim
    clear hH
    refine T.seq (T.seq ?_)
    refine T.draws _ [(0, 0), (1, 0), (2, 0), (3, 0), (4, 0), (5, 0), (6, 0), (7, 0), (8, 0), (9, 0), (10, 0)] mixed (by kernel_rfl) (Sub.of (List.Sublist.refl _)) (fun _ _ _ h => h) ?_
    refine DO.quiet rfl (q_move rfl) (DO.quiet rfl (q_fieldAddr Tryd.underlying25 rfl inf22 rfl rfl) (DO.quiet rfl (q_load_box 6 Tryd.underlying22 rfl rfl rfl rfl) (DO.quiet rfl (q_move rfl) ?_)))
    refine DO.quiet rfl (q_move rfl) (DO.quiet rfl (q_ix (i := i) Tryd.underlying52 inf3 rfl rfl (rowO (List.mem_of_getElem? (i := 4) rfl)) hlt24 (by rw [List.length_map]; exact hlt24)) (DO.quiet rfl (q_ld Tryd.underlying3 rfl rfl (rowO (List.mem_of_getElem? (i := 4) rfl)) (show (nats (order d))[i]? = some (.int .i64 ((o : Nat) : Int)) by rw [List.getElem?_map, ho]; rfl)) (DO.quiet rfl (q_ix (i := o) Tryd.underlying22 inf52 rfl rfl (Sl.o h.outer) ho9 (hvl ▸ ho9)) ?_)))
    refine DO.quiet rfl (q_ld Tryd.underlying52 rfl rfl (Sl.o h.outer) g1) (DO.quiet rfl (q_len Tryd.underlying52 rfl) (DO.quiet rfl (q_lss rfl rfl) ?_))
    refine DO.done ?_
    refine T.condP rfl (fun hc => ?_) (fun hc => ?_)
    · have hlt37 : x < d.next[o].length := by omega
      have hlx : x < 2 ^ d.vars.toNat := by omega
      obtain ⟨hta, _, hxk1, hx1⟩ := hv.toN_lt ho9 hlx
      have hx1 : (ints d.next[o])[x]? = some (.int .i64 ((toN d o x : Nat) : Int)) := by rw [ints_get hxk1, hx1]
      have hin : toN d o x ∈ order d := order_closed hv o hom _ (List.mem_of_getElem? (sucs_get hlx))
      refine T.skip (T.seq (T.block ?_))
      refine T.draws _ [(0, 0), (1, 0), (2, 0), (3, 0), (4, 0), (5, 0), (6, 0), (7, 0), (8, 0), (9, 0), (10, 0), (11, 0), (12, 0), (13, 1), (14, 1), (15, 2), (16, 2)] mixed (by kernel_rfl) (Sub.of (List.Sublist.refl _)) (fun _ _ _ h => h) ?_
      refine DO.quiet rfl (q_move rfl) (DO.quiet rfl (q_move rfl) (DO.quiet rfl (q_fieldAddr Tryd.underlying25 rfl inf22 rfl rfl) (DO.quiet rfl (q_load_box 6 Tryd.underlying22 rfl rfl rfl rfl) ?_)))
      refine DO.quiet rfl (q_move rfl) (DO.quiet rfl (q_move rfl) (DO.quiet rfl (q_ix (i := i) Tryd.underlying52 inf3 rfl rfl (rowO (List.mem_of_getElem? (i := 4) rfl)) hlt24 (by rw [List.length_map]; exact hlt24)) (DO.quiet rfl (q_ld Tryd.underlying3 rfl rfl (rowO (List.mem_of_getElem? (i := 4) rfl)) (show (nats (order d))[i]? = some (.int .i64 ((o : Nat) : Int)) by rw [List.getElem?_map, ho]; rfl)) ?_)))
      refine DO.quiet rfl (q_ix (i := o) Tryd.underlying22 inf52 rfl rfl (Sl.o h.outer) ho9 (hvl ▸ ho9)) (DO.quiet rfl (q_ld Tryd.underlying52 rfl rfl (Sl.o h.outer) g1) (DO.quiet rfl (q_move rfl) (DO.quiet rfl (q_ix (i := x) Tryd.underlying52 inf3 rfl rfl (Sl.o s1) (by rw [hl1]; exact hlx) (by rw [List.length_map, hl1]; exact hlx)) ?_)))
      refine DO.quiet rfl (q_ld Tryd.underlying3 rfl rfl (Sl.o s1) hx1) ?_
      have hk53 := fun (w1 : World) (hI : Inv w ([rowI kb kc 3 1 (nats ((renRow d o).take x)), rowI ob oc 52 1 (vals qs), rowI fb9 fc9 4 1 (bools (((order d).take i).map fun o => d.final.getD o false)), oI z3 25 [(.int .i64 d.vars), (.int .i64 0), (.slice ob i oc), (.slice fb9 i fc9)], rowI lb lc 3 1 (nats (order d)), oI z2 25 [(.int .i64 0), (.int .i64 0), (.slice none 0 0), (.slice none 0 0)], oI z1 25 [(.int .i64 d.vars), (.int .i64 d.start), (.slice nb d.next.length nc), (.slice fb d.final.length fc)]] ++ (itms 3 qs)) w1) => numberC w1 lb lc (order d) (toN d o x) _ rfl (hI.slOf (List.mem_of_getElem? (i := 4) rfl)) (by omega) hin
      refine DO.loud rfl rfl (l_call ent86 (CallT.of_pure hk53) rfl ?_)
      clear hk53
      rintro v O' ⟨N, rfl, rfl, rfl⟩
      refine ⟨Sub.pickR [0, 0, 0, 0, 0, 0, 0] [rowI kb kc 3 1 (nats ((renRow d o).take x)), rowI ob oc 52 1 (vals qs), rowI fb9 fc9 4 1 (bools (((order d).take i).map fun o => d.final.getD o false)), oI z3 25 [(.int .i64 d.vars), (.int .i64 0), (.slice ob i oc), (.slice fb9 i fc9)], rowI lb lc 3 1 (nats (order d)), oI z2 25 [(.int .i64 0), (.int .i64 0), (.slice none 0 0), (.slice none 0 0)], oI z1 25 [(.int .i64 d.vars), (.int .i64 d.start), (.slice nb d.next.length nc), (.slice fb d.final.length fc)]] (itms 3 qs) rfl rfl, ?_⟩
      refine DO.loud rfl rfl (l_build1 (v := .int .i64 ((ix (toN d o x) (order d) : Nat) : Int)) Tryd.underlying52 inf3 rfl rfl rfl (fun z4 => ⟨Sub.pickR [1, 1, 1, 1, 1, 1, 1] [rowI (some ⟨z4, 0, none⟩) 1 3 1 [.int .i64 ((ix (toN d o x) (order d) : Nat) : Int)], rowI kb kc 3 1 (nats ((renRow d o).take x)), rowI ob oc 52 1 (vals qs), rowI fb9 fc9 4 1 (bools (((order d).take i).map fun o => d.final.getD o false)), oI z3 25 [(.int .i64 d.vars), (.int .i64 0), (.slice ob i oc), (.slice fb9 i fc9)], rowI lb lc 3 1 (nats (order d)), oI z2 25 [(.int .i64 0), (.int .i64 0), (.slice none 0 0), (.slice none 0 0)], oI z1 25 [(.int .i64 d.vars), (.int .i64 d.start), (.slice nb d.next.length nc), (.slice fb d.final.length fc)]] (itms 3 qs) rfl rfl, ?_⟩))
      refine DO.last rfl rfl (l_append 1 Tryd.underlying52 Tryd.underlying52 inf3 rfl rfl rfl rfl (by rw [List.length_map, List.length_take, renRow_length]; omega) (by decide) (Src.row (j := 0) rfl (by simp)) (by simp [oneB]) (by omega) (by decide) (by decide) (fun z5 zc6 => ?_))
      refine DO.last rfl rfl (LT.of_quiet rfl rfl (q_assign rfl) ?_)
      refine DO.done ?_
      refine T.region ?_
      refine TO.quiet (q_move rfl) (TO.quiet (q_inc rfl rfl (by omega)) (TO.quiet (q_assign rfl) ?_))
      refine TO.sub (O' := ([rowI z5 zc6 3 1 ((nats ((renRow d o).take x)) ++ [.int .i64 ((ix (toN d o x) (order d) : Nat) : Int)]), rowI ob oc 52 1 (vals qs), rowI fb9 fc9 4 1 (bools (((order d).take i).map fun o => d.final.getD o false)), oI z3 25 [(.int .i64 d.vars), (.int .i64 0), (.slice ob i oc), (.slice fb9 i fc9)], rowI lb lc 3 1 (nats (order d)), oI z2 25 [(.int .i64 0), (.int .i64 0), (.slice none 0 0), (.slice none 0 0)], oI z1 25 [(.int .i64 d.vars), (.int .i64 d.start), (.slice nb d.next.length nc), (.slice fb d.final.length fc)]] ++ (itms 3 qs))) (Sub.pickR [1, 1, 1, 1, 1, 1, 1] [rowI (some ⟨z4, 0, none⟩) 1 3 1 [.int .i64 ((ix (toN d o x) (order d) : Nat) : Int)], rowI z5 zc6 3 1 ((nats ((renRow d o).take x)) ++ [.int .i64 ((ix (toN d o x) (order d) : Nat) : Int)]), rowI ob oc 52 1 (vals qs), rowI fb9 fc9 4 1 (bools (((order d).take i).map fun o => d.final.getD o false)), oI z3 25 [(.int .i64 d.vars), (.int .i64 0), (.slice ob i oc), (.slice fb9 i fc9)], rowI lb lc 3 1 (nats (order d)), oI z2 25 [(.int .i64 0), (.int .i64 0), (.slice none 0 0), (.slice none 0 0)], oI z1 25 [(.int .i64 d.vars), (.int .i64 d.start), (.slice nb d.next.length nc), (.slice fb d.final.length fc)]] (itms 3 qs) rfl rfl) ?_
      refine TO.nil ?_
      exact ⟨x + 1, by omega, z5, zc6, by rw [renRow_step hlx, show nats ((renRow d o).take x ++ [ix (toN d o x) (order d)]) = nats ((renRow d o).take x) ++ [.int .i64 ((ix (toN d o x) (order d) : Nat) : Int)] from List.map_append], by omega, ⟨rfl, rfl, rfl, rfl, rfl, rfl, rfl, rfl, rfl, rfl, trivial⟩⟩
    have hge37 : ¬ x < d.next[o].length := by omega
    refine T.exit ?_
    refine T.seq (T.region ?_)
    refine TO.quiet (q_fieldAddr Tryd.underlying25 rfl inf22 rfl rfl) (TO.quiet (q_load_box 3 Tryd.underlying22 rfl rfl rfl rfl) (TO.quiet (q_move rfl) ?_))
    refine TO.loud rfl (l_build1 (v := (.slice kb x kc)) Tryd.underlying22 inf52 rfl rfl rfl (fun z7 => ?_))
    refine TO.loud rfl (l_append 2 Tryd.underlying22 Tryd.underlying22 inf52 rfl rfl rfl rfl (by rw [List.length_map]; omega) (by decide) (Src.row (j := 0) rfl (by simp)) (by simp [oneB]) (by omega) (by decide) (by decide) (fun z8 zc9 => ?_))
    refine TO.quiet (q_fieldAddr Tryd.underlying25 rfl inf22 rfl rfl) ?_
    refine TO.loud rfl (l_store_box (v := (.slice z8 (i + 1) zc9)) (vs := [(.slice z8 (i + 1) zc9)]) 4 inf22 rfl rfl rfl rfl rfl rfl (by simp [putL]) ?_)
    refine TO.nil ?_
    refine T.draws _ [(0, 0), (1, 0), (2, 0), (3, 0), (4, 0), (5, 0), (6, 0), (7, 0), (8, 0), (9, 0), (10, 1), (11, 2), (12, 2), (13, 2)] mixed (by kernel_rfl) (Sub.of (List.Sublist.refl _)) (fun _ _ _ h => h) ?_
    refine DO.quiet rfl (q_fieldAddr Tryd.underlying25 rfl inf23 rfl rfl) (DO.quiet rfl (q_load_box 4 Tryd.underlying23 rfl rfl rfl rfl) (DO.quiet rfl (q_fieldAddr Tryd.underlying25 rfl inf23 rfl rfl) (DO.quiet rfl (q_load_box 7 Tryd.underlying23 rfl rfl rfl rfl) ?_)))
    refine DO.quiet rfl (q_move rfl) (DO.quiet rfl (q_move rfl) (DO.quiet rfl (q_ix (i := i) Tryd.underlying52 inf3 rfl rfl (rowO (List.mem_of_getElem? (i := 5) rfl)) hlt24 (by rw [List.length_map]; exact hlt24)) (DO.quiet rfl (q_ld Tryd.underlying3 rfl rfl (rowO (List.mem_of_getElem? (i := 5) rfl)) (show (nats (order d))[i]? = some (.int .i64 ((o : Nat) : Int)) by rw [List.getElem?_map, ho]; rfl)) ?_)))
    refine DO.quiet rfl (q_ix (i := o) Tryd.underlying23 inf4 rfl rfl (Sl.o h.final) hof (by rw [List.length_map]; exact hof)) (DO.quiet rfl (q_ld Tryd.underlying4 rfl rfl (Sl.o h.final) (bools_get hof)) ?_)
    refine DO.loud rfl rfl (l_build1 (v := .bool d.final[o]) Tryd.underlying23 inf4 rfl rfl rfl (fun z10 => ⟨Sub.pickR [1, 1, 1, 1, 1, 1, 1, 1] [rowI (some ⟨z10, 0, none⟩) 1 4 1 [.bool d.final[o]], rowI (some ⟨z7, 0, none⟩) 1 52 1 [(.slice kb x kc)], rowI kb kc 3 1 (nats ((renRow d o).take x)), rowI z8 zc9 52 1 ((vals qs) ++ [(.slice kb x kc)]), rowI fb9 fc9 4 1 (bools (((order d).take i).map fun o => d.final.getD o false)), oI z3 25 [(.int .i64 d.vars), (.int .i64 0), (.slice z8 (i + 1) zc9), (.slice fb9 i fc9)], rowI lb lc 3 1 (nats (order d)), oI z2 25 [(.int .i64 0), (.int .i64 0), (.slice none 0 0), (.slice none 0 0)], oI z1 25 [(.int .i64 d.vars), (.int .i64 d.start), (.slice nb d.next.length nc), (.slice fb d.final.length fc)]] (itms 3 qs) rfl rfl, ?_⟩))
    refine DO.last rfl rfl (l_append 4 Tryd.underlying23 Tryd.underlying23 inf4 rfl rfl rfl rfl (by simp; omega) (by decide) (Src.row (j := 0) rfl (by simp)) (by simp [oneB]) (by omega) (by decide) (by decide) (fun z11 zc12 => ?_))
    refine DO.last rfl rfl (LT.of_quiet rfl rfl (q_fieldAddr Tryd.underlying25 rfl inf23 rfl rfl) ?_)
    refine DO.last rfl rfl (l_store_box (v := (.slice z11 (i + 1) zc12)) (vs := [(.slice z11 (i + 1) zc12)]) 5 inf23 rfl rfl rfl rfl rfl rfl (by simp [putL]) ?_)
    refine DO.done ?_
    refine T.region ?_
    refine TO.quiet (q_move rfl) (TO.quiet (q_inc rfl rfl (by omega)) (TO.quiet (q_assign rfl) ?_))
    have hxe : x = 2 ^ d.vars.toNat := by omega
    have hfs : bools (((order d).take (i + 1)).map fun o => d.final.getD o false) = bools (((order d).take i).map fun o => d.final.getD o false) ++ [.bool d.final[o]] := by
      rw [List.take_succ_eq_append_getElem hlt24, List.map_append, hog]; simp [hof]
    have hR : rowI kb kc 3 1 (nats ((renRow d o).take x)) = Rec.itm 3 ⟨kb, kc, (renRow d o).map fun x : Nat => (x : Int)⟩ := by
      rw [List.take_of_length_le (by rw [renRow_length]; omega)]; simp [Rec.itm, Function.comp_def]
    refine TO.sub (O' := [rowI z8 zc9 52 1 ((vals qs) ++ [(.slice kb x kc)]), rowI z11 zc12 4 1 ((bools (((order d).take i).map fun o => d.final.getD o false)) ++ [.bool d.final[o]]), oI z3 25 [(.int .i64 d.vars), (.int .i64 0), (.slice z8 (i + 1) zc9), (.slice z11 (i + 1) zc12)], rowI lb lc 3 1 (nats (order d)), oI z2 25 [(.int .i64 0), (.int .i64 0), (.slice none 0 0), (.slice none 0 0)], oI z1 25 [(.int .i64 d.vars), (.int .i64 d.start), (.slice nb d.next.length nc), (.slice fb d.final.length fc)]] ++ itms 3 (qs ++ [⟨kb, kc, (renRow d o).map fun x : Nat => (x : Int)⟩])) (by show Sub _ ([rowI (some ⟨z10, 0, none⟩) 1 4 1 [.bool d.final[o]], rowI (some ⟨z7, 0, none⟩) 1 52 1 [(.slice kb x kc)], rowI kb kc 3 1 (nats ((renRow d o).take x)), rowI z8 zc9 52 1 ((vals qs) ++ [(.slice kb x kc)]), rowI z11 zc12 4 1 ((bools (((order d).take i).map fun o => d.final.getD o false)) ++ [.bool d.final[o]]), oI z3 25 [(.int .i64 d.vars), (.int .i64 0), (.slice z8 (i + 1) zc9), (.slice z11 (i + 1) zc12)], rowI lb lc 3 1 (nats (order d)), oI z2 25 [(.int .i64 0), (.int .i64 0), (.slice none 0 0), (.slice none 0 0)], oI z1 25 [(.int .i64 d.vars), (.int .i64 d.start), (.slice nb d.next.length nc), (.slice fb d.final.length fc)]] ++ itms 3 qs); rw [hR]; exact Sub.cnt [rowI (some ⟨z10, 0, none⟩) 1 4 1 [.bool d.final[o]], rowI (some ⟨z7, 0, none⟩) 1 52 1 [(.slice kb x kc)]] (by intro a; simp only [itms, oI, List.set_cons_zero, List.set_cons_succ, putL, List.cons_append, List.nil_append, List.append_nil, List.append_assoc, List.map_append, List.map_cons, List.map_nil, cnt_append, cnt_cons, cnt_nil] <;> omega)) ?_
    refine TO.nil ?_
    refine ⟨i + 1, by omega, z8, z11, zc9, zc12, qs ++ [⟨kb, kc, (renRow d o).map fun x : Nat => (x : Int)⟩], ?_, by omega, ?_, ⟨rfl, rfl, rfl, rfl, rfl, rfl, rfl, rfl, trivial⟩⟩
    · rw [hfs]; simp [Rec.val, hxe, renRow_length]
    · rw [show nums (qs ++ [⟨kb, kc, (renRow d o).map fun x : Nat => (x : Int)⟩]) = nums qs ++ [(renRow d o).map fun x : Nat => (x : Int)] by simp, hqs, renum_next, ← List.map_take, ← List.map_take, List.take_succ_eq_append_getElem hlt24, hog]; simp
  have hge24 : ¬ i < (order d).length := by omega
  refine T.exit ?_
  refine T.seq (T.region ?_)
  refine TO.quiet (q_load_boxAgg 2 Tryd.underlying25 rfl inf25 rfl rfl rfl) ?_
  refine TO.loud rfl (l_store_box (v := (.agg #[(.int .i64 d.vars), (.int .i64 0), (.slice ob i oc), (.slice fb9 i fc9)])) (vs := [(.int .i64 d.vars), (.int .i64 0), (.slice ob i oc), (.slice fb9 i fc9)]) 4 inf25 rfl rfl rfl rfl rfl rfl (by simp [putL]) ?_)
  refine TO.quiet (q_assign rfl) ?_
  refine TO.nil (T.ret (Res.drop ?_))
  refine Res.cell1b (.int .i64 0) (i := 4) Tryd.results68 Tryd.underlying25 rfl inf25 rfl rfl rfl rfl ?_
  have hie : i = (order d).length := by omega
  have hfx : (((order d).take i).map fun o => d.final.getD o false) = (renum d).final := by rw [List.take_of_length_le (by omega)]; rfl
  have hl1 : (renum d).next.length = i := by simp [renum, hie]
  have hl2 : (renum d).final.length = i := by simp [renum, hie]
  have hnx : nums qs = (renum d).next := by rw [hqs, List.take_of_length_le (by omega)]
  refine ⟨[rowI ob oc 52 1 (vals qs), rowI fb9 fc9 4 1 (bools (((order d).take i).map fun o => d.final.getD o false))] ++ itms 3 qs, Sub.cnt [oI z3 25 [(.int .i64 d.vars), (.int .i64 0), (.slice ob i oc), (.slice fb9 i fc9)], rowI lb lc 3 1 (nats (order d)), oI z2 25 [(.int .i64 d.vars), (.int .i64 0), (.slice ob i oc), (.slice fb9 i fc9)], oI z1 25 [(.int .i64 d.vars), (.int .i64 d.start), (.slice nb d.next.length nc), (.slice fb d.final.length fc)]] (by intro a; simp only [itms, oI, List.set_cons_zero, List.set_cons_succ, putL, List.cons_append, List.nil_append, List.append_nil, List.append_assoc, List.map_append, List.map_cons, List.map_nil, cnt_append, cnt_cons, cnt_nil] <;> omega), ob, oc, fb9, fc9, qs, ?_, by rw [hfx], hnx⟩
  show Value.tuple #[Value.agg (List.toArray [.int .i64 d.vars, .int .i64 0, .slice ob i oc, .slice fb9 i fc9]), _] = Value.tuple #[Value.agg (List.toArray [.int .i64 d.vars, .int .i64 0, .slice ob (renum d).next.length oc, .slice fb9 (renum d).final.length fc9]), _]
  rw [hl1, hl2]
end Go.Proofs.YtdaapdamcekkgaaDoor

namespace Go.Proofs.YtdaapdamcekkgaaDoor
open Go.Lx Go.RowKit
set_option linter.unusedVariables false
set_option linter.unusedSimpArgs false
set_option maxHeartbeats 1000000 in
set_option maxRecDepth 20000 in
theorem rMinBad (w : World) (d : DFA) (nb fb : Option Addr) (nc fc : Nat) (vs : List Value) (h : DfaAt w d nb vs fb) (hb : d.next.length < 9223372036854775807) (hbr : ∀ r ∈ d.next, r.length < 9223372036854775807) (hbf : d.final.length < 9223372036854775807) (he : checkD d ≠ 0) :
    PureT Tryd.prog 42 [.agg (dfaCells d nb nc fb fc).toArray] w fun v N => v = .tuple #[.agg #[.int .i64 0, .int .i64 0, .slice none 0 0, .slice none 0 0], .int .i64 (checkD d : Int)] ∧ N = [] := by
  refine CallT.enter Tryd.func42 rfl Tryd.ntmps42 rfl ?_
  refine T.seq (T.region ?_)
  refine TO.loud rfl (l_box (v := (.agg #[(.int .i64 d.vars), (.int .i64 d.start), (.slice nb d.next.length nc), (.slice fb d.final.length fc)])) (cs := [(.int .i64 d.vars), (.int .i64 d.start), (.slice nb d.next.length nc), (.slice fb d.final.length fc)]) rfl rfl (fun b1 => ?_))
  refine TO.loud rfl (l_alloc inf25 rfl (fun b2 => ?_))
  refine TO.quiet (q_assign rfl) ?_
  refine TO.nil (T.seq (T.region ?_))
  refine TO.quiet (q_load_boxAgg 1 Tryd.underlying25 rfl inf25 rfl rfl rfl) ?_
  have hk12 := fun (w1 : World) (hI : Inv w [oI b2 25 [(.int .i64 0), (.int .i64 0), (.slice none 0 0), (.slice none 0 0)], oI b1 25 [(.int .i64 d.vars), (.int .i64 d.start), (.slice nb d.next.length nc), (.slice fb d.final.length fc)]] w1) => rClassesBad w1 d nb fb nc fc vs (hI.dfa h) hb hbr hbf he
  refine TO.loud rfl (l_call ent67 (CallT.of_pure hk12) rfl ?_)
  clear hk12
  rintro v O' ⟨N, rfl, rfl, rfl⟩
  refine TO.quiet (q_move rfl) (TO.quiet (q_extract (vs := _) rfl rfl) (TO.quiet (q_extract (vs := _) rfl rfl) (TO.quiet (q_assign rfl) ?_)))
  refine TO.quiet (q_assign rfl) ?_
  refine TO.nil (T.seq (T.seq (T.region ?_)))
  refine TO.quiet (q_move rfl) (TO.quiet (QT.toB (q_neq rfl rfl) (decide_eq_true (by omega))) ?_)
  refine TO.nil ?_
  refine T.cond1 rfl ?_
  refine T.seq (T.region ?_)
  refine TO.quiet (q_build plan25 inf25 rfl) (TO.quiet (q_move rfl) ?_)
  refine TO.loud rfl (l_store_box (v := (.agg #[(.int .i64 0), (.int .i64 0), (.slice none 0 0), (.slice none 0 0)])) (vs := [(.int .i64 0), (.int .i64 0), (.slice none 0 0), (.slice none 0 0)]) 0 inf25 rfl rfl rfl rfl rfl rfl (by simp [putL]) ?_)
  refine TO.quiet (q_assign rfl) ?_
  refine TO.nil (T.ret (Res.drop ?_))
  refine Res.cell1b (.int .i64 (checkD d : Int)) (i := 0) Tryd.results42 Tryd.underlying25 rfl inf25 rfl rfl rfl rfl ?_
  exact ⟨[], Sub.of (List.nil_sublist _), rfl, rfl⟩
set_option maxHeartbeats 4000000 in
set_option maxRecDepth 20000 in
theorem rMinOk (w : World) (d : DFA) (nb fb : Option Addr) (nc fc : Nat) (vs : List Value) (h : DfaAt w d nb vs fb) (hv : Valid d) (hn : d.next.length < 100) (hqv : Valid (quo d (itF d d.next.length))) (hqn : (quo d (itF d d.next.length)).next.length < 100) :
    PureT Tryd.prog 42 [.agg (dfaCells d nb nc fb fc).toArray] w fun v N => ∃ nb' nc' fb' fc' qs, v = .tuple #[.agg (dfaCells (renum (quo d (itF d d.next.length))) nb' nc' fb' fc').toArray, .int .i64 0] ∧ N = [rowI nb' nc' 52 1 (vals qs), rowI fb' fc' 4 1 (bools (renum (quo d (itF d d.next.length))).final)] ++ itms 3 qs ∧ nums qs = (renum (quo d (itF d d.next.length))).next := by
  refine CallT.enter Tryd.func42 rfl Tryd.ntmps42 rfl ?_
  obtain ⟨cs, hcs⟩ : ∃ cs, itF d d.next.length = cs := ⟨_, rfl⟩
  rw [hcs] at hqv hqn ⊢
  have hcl : cs.length = d.next.length := hcs ▸ itF_length d _
  have hs0 := hv.s0
  have hs1 := hv.s1
  have hn0 := hv.n0
  have hn4 := hv.n4
  have hsn : d.start.toNat < cs.length := by omega
  have hb : d.next.length < 9223372036854775807 := by omega
  have hvl := h.rows.1
  have hww := hv.width
  refine T.seq (T.region ?_)
  refine TO.loud rfl (l_box (v := (.agg #[(.int .i64 d.vars), (.int .i64 d.start), (.slice nb d.next.length nc), (.slice fb d.final.length fc)])) (cs := [(.int .i64 d.vars), (.int .i64 d.start), (.slice nb d.next.length nc), (.slice fb d.final.length fc)]) rfl rfl (fun z1 => ?_))
  refine TO.loud rfl (l_alloc inf25 rfl (fun z2 => ?_))
  refine TO.quiet (q_assign rfl) ?_
  refine TO.nil (T.seq (T.region ?_))
  refine TO.quiet (q_load_boxAgg 1 Tryd.underlying25 rfl inf25 rfl rfl rfl) ?_
  have hk12 := fun (w1 : World) (hI : Inv w [oI z2 25 [(.int .i64 0), (.int .i64 0), (.slice none 0 0), (.slice none 0 0)], oI z1 25 [(.int .i64 d.vars), (.int .i64 d.start), (.slice nb d.next.length nc), (.slice fb d.final.length fc)]] w1) => rClassesOk w1 d nb fb nc fc vs (hI.dfa h) hv hn
  refine TO.loud rfl (l_call ent67 (CallT.of_pure hk12) rfl ?_)
  clear hk12
  rintro v O' ⟨N, rfl, cb, cc, rfl, rfl⟩
  rw [hcs]
  refine TO.quiet (q_move rfl) (TO.quiet (q_extract (vs := _) rfl rfl) (TO.quiet (q_extract (vs := _) rfl rfl) (TO.quiet (q_assign rfl) ?_)))
  refine TO.quiet (q_assign rfl) ?_
  refine TO.nil (T.seq (T.seq (T.region ?_)))
  refine TO.quiet (q_move rfl) (TO.quiet (q_neq rfl rfl) ?_)
  refine TO.nil ?_
  refine T.cond0 rfl ?_
  refine T.skip (T.seq ?_)
  refine T.draws [rowI cb cc 3 1 (nats cs), oI z1 25 [(.int .i64 d.vars), (.int .i64 d.start), (.slice nb d.next.length nc), (.slice fb d.final.length fc)]] [(0, 0), (1, 0), (2, 0), (3, 0), (4, 0), (5, 0), (6, 0), (7, 0), (8, 1), (9, 2)] mixed (by kernel_rfl) (Sub.pick [0, 1] rfl) (fun _ _ _ h => h) ?_
  refine DO.quiet rfl (q_fieldAddr Tryd.underlying25 rfl inf3 rfl rfl) (DO.quiet rfl (q_load_box 1 Tryd.underlying3 rfl rfl rfl rfl) (DO.quiet rfl (q_move rfl) (DO.quiet rfl (q_fieldAddr Tryd.underlying25 rfl inf3 rfl rfl) ?_)))
  refine DO.quiet rfl (q_load_box 1 Tryd.underlying3 rfl rfl rfl rfl) (DO.quiet rfl (q_ixz (i := d.start) Tryd.underlying52 inf3 rfl rfl (rowO (List.mem_of_getElem? (i := 0) rfl)) hs0 (hcl ▸ hsn) (by rw [List.length_map]; exact hsn)) (DO.quiet rfl (q_ld Tryd.underlying3 rfl rfl (rowO (List.mem_of_getElem? (i := 0) rfl)) (show (nats cs)[d.start.toNat]? = some (.int .i64 ((cs.getD d.start.toNat 0 : Nat) : Int)) by rw [nats_get hsn]; simp [hsn])) (DO.quiet rfl (q_build (cs := [(.int .i64 d.vars), .int .i64 ((cs.getD d.start.toNat 0 : Nat) : Int), (.slice none 0 0), (.slice none 0 0)]) plan25 inf25 (by kernel_rfl)) ?_)))
  refine DO.loud rfl rfl (l_alloc inf25 rfl (fun z3 => ⟨Sub.pick [1, 2] rfl, ?_⟩))
  refine DO.last rfl rfl (l_store_box (v := (.agg #[(.int .i64 d.vars), .int .i64 ((cs.getD d.start.toNat 0 : Nat) : Int), (.slice none 0 0), (.slice none 0 0)])) (vs := [(.int .i64 d.vars), .int .i64 ((cs.getD d.start.toNat 0 : Nat) : Int), (.slice none 0 0), (.slice none 0 0)]) 0 inf25 rfl rfl rfl rfl rfl rfl (by simp [putL]) ?_)
  refine DO.done ?_
  refine T.seq (T.seq (T.region ?_))
  refine TO.quiet (q_assign rfl) ?_
  refine TO.nil (T.block ?_)
  refine T.nilRow 4 1 ?_
  refine T.nilRow 52 1 ?_
  refine T.loop (fun (k : Nat) ρ O => ∃ (ob fb9 : Option Addr) (oc fc9 : Nat) (qs : List Rec) (fs : List Bool), O = ([rowI ob oc 52 1 (vals qs), rowI fb9 fc9 4 1 (bools fs), oI z3 25 [(.int .i64 d.vars), (.int .i64 ((cs.getD d.start.toNat 0 : Nat) : Int)), (.slice ob qs.length oc), (.slice fb9 fs.length fc9)], rowI cb cc 3 1 (nats cs), oI z2 25 [(.int .i64 0), (.int .i64 0), (.slice none 0 0), (.slice none 0 0)], oI z1 25 [(.int .i64 d.vars), (.int .i64 d.start), (.slice nb d.next.length nc), (.slice fb d.final.length fc)]] ++ (itms 3 qs)) ∧ k ≤ d.next.length ∧ nums qs = (quoN d cs k).1 ∧ fs = (quoN d cs k).2 ∧ Heads [(0, (.agg #[(.int .i64 d.vars), (.int .i64 d.start), (.slice nb d.next.length nc), (.slice fb d.final.length fc)])), (1, (.pointer (some ⟨z1, 0, none⟩))), (2, (.pointer (some ⟨z2, 0, none⟩))), (3, .int .i64 0), (4, (.slice cb d.next.length cc)), (5, .int .i64 0), (6, (.pointer (some ⟨z3, 0, none⟩))), (7, .int .i64 (k : Int))] ρ) (fun k => d.next.length - k) 0 ?_ ?_
  · exact ⟨none, none, 0, 0, [], [], rfl, Nat.zero_le _, rfl, rfl, ⟨rfl, rfl, rfl, rfl, rfl, rfl, rfl, rfl, trivial⟩⟩
  rintro k ρ O ⟨ob, fb9, oc, fc9, qs, fs, rfl, hk, hqs, hfs, hH⟩
  obtain ⟨ρ0, rfl⟩ := hH.elim
  clear hH
  refine T.seq (T.seq (T.region ?_))
  refine TO.quiet (q_move rfl) (TO.quiet (q_move rfl) (TO.quiet (q_len Tryd.underlying52 rfl) (TO.quiet (q_lss rfl rfl) ?_)))
  refine TO.nil ?_
  refine T.condP rfl (fun hc => ?_) (fun hc => ?_)
  · have hlt30 : k < d.next.length := by omega
    have hkc : k < cs.length := by omega
    have hql : qs.length = (quoN d cs k).1.length := by rw [← hqs]; simp
    have hfl : fs.length = (quoN d cs k).1.length := by rw [hfs]; exact (quoN_len d cs k).1.symm
    have hqk := (quoN_len d cs k).2
    have hkf : k < d.final.length := by have := hv.fin; omega
    obtain ⟨vb, vc, g1, s1⟩ := h.rows.get hlt30
    have hrl : d.next[k].length ≤ 64 := by
      have := hv.len _ (List.getElem_mem hlt30); omega
    have hto : ∀ j (hj : j < d.next[k].length), 0 ≤ d.next[k][j] ∧ d.next[k][j].toNat < cs.length := fun j hj => by have := hv.ok _ (List.getElem_mem hlt30) _ (List.getElem_mem hj); omega
    refine T.skip (T.seq (T.block (T.seq (T.seq ?_))))
    refine T.draws [oI z3 25 [(.int .i64 d.vars), (.int .i64 ((cs.getD d.start.toNat 0 : Nat) : Int)), (.slice ob qs.length oc), (.slice fb9 fs.length fc9)], rowI cb cc 3 1 (nats cs)] [(0, 0), (1, 0), (2, 0), (3, 0), (4, 0), (5, 0), (6, 0), (7, 0)] mixed (by kernel_rfl) (Sub.pick0 [2, 2] [rowI ob oc 52 1 (vals qs), rowI fb9 fc9 4 1 (bools fs), oI z3 25 [(.int .i64 d.vars), (.int .i64 ((cs.getD d.start.toNat 0 : Nat) : Int)), (.slice ob qs.length oc), (.slice fb9 fs.length fc9)], rowI cb cc 3 1 (nats cs), oI z2 25 [(.int .i64 0), (.int .i64 0), (.slice none 0 0), (.slice none 0 0)], oI z1 25 [(.int .i64 d.vars), (.int .i64 d.start), (.slice nb d.next.length nc), (.slice fb d.final.length fc)]] (itms 3 qs) rfl rfl) (fun _ _ _ h => h) ?_
    refine DO.quiet rfl (q_move rfl) (DO.quiet rfl (q_move rfl) (DO.quiet rfl (q_ix (i := k) Tryd.underlying52 inf3 rfl rfl (rowO (List.mem_of_getElem? (i := 1) rfl)) hlt30 (by rw [List.length_map]; exact hkc)) (DO.quiet rfl (q_ld Tryd.underlying3 rfl rfl (rowO (List.mem_of_getElem? (i := 1) rfl)) (nats_get hkc)) ?_)))
    refine DO.quiet rfl (q_fieldAddr Tryd.underlying25 rfl inf22 rfl rfl) (DO.quiet rfl (q_load_box 0 Tryd.underlying22 rfl rfl rfl rfl) (DO.quiet rfl (q_len Tryd.underlying22 rfl) (DO.quiet rfl (q_lss rfl rfl) ?_)))
    refine DO.done ?_
    refine T.condP rfl (fun hc => ?_) (fun hc => ?_)
    · have hlt40 : cs[k] < qs.length := by omega
      have hqn1 : quoN d cs (k + 1) = quoN d cs k := by rw [quoN, if_pos (by simp [hkc]; omega)]
      refine T.exit ?_
      refine T.region ?_
      refine TO.quiet (q_move rfl) (TO.quiet (q_inc rfl rfl (by omega)) (TO.quiet (q_assign rfl) ?_))
      skip
      refine TO.nil ?_
      refine ⟨k + 1, by omega, ob, fb9, oc, fc9, qs, fs, rfl, by omega, ?_, ?_, ⟨rfl, rfl, rfl, rfl, rfl, rfl, rfl, rfl, trivial⟩⟩
      · rw [hqn1]; exact hqs
      · rw [hqn1]; exact hfs
    have hge40 : ¬ cs[k] < qs.length := by omega
    have hqn2 : quoN d cs (k + 1) = ((quoN d cs k).1 ++ [(rowK cs d.next[k]).map fun c : Nat => (c : Int)], (quoN d cs k).2 ++ [d.final[k]]) := by rw [quoN, if_neg (by simp [hkc]; omega)]; simp [hlt30, hkf]
    refine T.skip (T.seq (T.region ?_))
    refine TO.quiet (q_assign rfl) ?_
    refine TO.nil (T.seq (T.seq (T.region ?_)))
    refine TO.quiet (q_assign rfl) ?_
    refine TO.nil (T.block ?_)
    refine T.nilRow 3 1 ?_
    refine T.loop (fun (j : Nat) ρ O => ∃ (kb : Option Addr) (kc : Nat), O = ([rowI kb kc 3 1 (nats ((rowK cs d.next[k]).take j)), rowI ob oc 52 1 (vals qs), rowI fb9 fc9 4 1 (bools fs), oI z3 25 [(.int .i64 d.vars), (.int .i64 ((cs.getD d.start.toNat 0 : Nat) : Int)), (.slice ob qs.length oc), (.slice fb9 fs.length fc9)], rowI cb cc 3 1 (nats cs), oI z2 25 [(.int .i64 0), (.int .i64 0), (.slice none 0 0), (.slice none 0 0)], oI z1 25 [(.int .i64 d.vars), (.int .i64 d.start), (.slice nb d.next.length nc), (.slice fb d.final.length fc)]] ++ (itms 3 qs)) ∧ j ≤ d.next[k].length ∧ Heads [(0, (.agg #[(.int .i64 d.vars), (.int .i64 d.start), (.slice nb d.next.length nc), (.slice fb d.final.length fc)])), (1, (.pointer (some ⟨z1, 0, none⟩))), (2, (.pointer (some ⟨z2, 0, none⟩))), (3, .int .i64 0), (4, (.slice cb d.next.length cc)), (5, .int .i64 0), (6, (.pointer (some ⟨z3, 0, none⟩))), (7, .int .i64 (k : Int)), (8, (.slice kb j kc)), (9, .int .i64 (j : Int))] ρ) (fun j => d.next[k].length - j) 0 ?_ ?_
    · exact ⟨none, 0, rfl, Nat.zero_le _, ⟨rfl, rfl, rfl, rfl, rfl, rfl, rfl, rfl, rfl, rfl, trivial⟩⟩
    rintro j ρ O ⟨kb, kc, rfl, hj, hH⟩
    obtain ⟨ρ0, rfl⟩ := hH.elim
    clear hH
    refine T.seq (T.seq (T.region ?_))
    refine TO.quiet (q_move rfl) (TO.quiet (q_fieldAddr Tryd.underlying25 rfl inf22 rfl rfl) (TO.quiet (q_load_box 6 Tryd.underlying22 rfl rfl rfl rfl) (TO.quiet (q_move rfl) ?_)))
    refine TO.quiet (q_ix (i := k) Tryd.underlying22 inf52 rfl rfl (Sl.o h.outer) hlt30 (hvl ▸ hlt30)) (TO.quiet (q_ld Tryd.underlying52 rfl rfl (Sl.o h.outer) g1) (TO.quiet (q_len Tryd.underlying52 rfl) (TO.quiet (q_lss rfl rfl) ?_)))
    refine TO.nil ?_
    refine T.condP rfl (fun hc => ?_) (fun hc => ?_)
    · have hlt48 : j < d.next[k].length := by omega
      have htj := (hto j hlt48).2
      refine T.skip (T.seq (T.block (T.region ?_)))
      refine TO.quiet (q_move rfl) (TO.quiet (q_move rfl) (TO.quiet (q_fieldAddr Tryd.underlying25 rfl inf22 rfl rfl) (TO.quiet (q_load_box 6 Tryd.underlying22 rfl rfl rfl rfl) ?_)))
      refine TO.quiet (q_move rfl) (TO.quiet (q_ix (i := k) Tryd.underlying22 inf52 rfl rfl (Sl.o h.outer) hlt30 (hvl ▸ hlt30)) (TO.quiet (q_ld Tryd.underlying52 rfl rfl (Sl.o h.outer) g1) (TO.quiet (q_move rfl) ?_)))
      refine TO.quiet (q_ix (i := j) Tryd.underlying52 inf3 rfl rfl (Sl.o s1) hlt48 (by rw [List.length_map]; exact hlt48)) (TO.quiet (q_ld Tryd.underlying3 rfl rfl (Sl.o s1) (ints_get hlt48)) (TO.quiet (q_ixz (i := d.next[k][j]) Tryd.underlying52 inf3 rfl rfl (rowO (List.mem_of_getElem? (i := 4) rfl)) (hto j hlt48).1 (hcl ▸ (hto j hlt48).2) (by rw [List.length_map]; exact (hto j hlt48).2)) (TO.quiet (q_ld Tryd.underlying3 rfl rfl (rowO (List.mem_of_getElem? (i := 4) rfl)) (nats_get (hto j hlt48).2)) ?_)))
      refine TO.loud rfl (l_build1 (v := .int .i64 ((cs[d.next[k][j].toNat] : Nat) : Int)) Tryd.underlying52 inf3 rfl rfl rfl (fun z4 => ?_))
      refine TO.loud rfl (l_append 1 Tryd.underlying52 Tryd.underlying52 inf3 rfl rfl rfl rfl (by rw [List.length_map, List.length_take, rowK_length]; omega) (by decide) (Src.row (j := 0) rfl (by simp)) (by simp [oneB]) (by omega) (by decide) (by decide) (fun z5 zc6 => ?_))
      refine TO.quiet (q_assign rfl) ?_
      refine TO.nil (T.region ?_)
      refine TO.quiet (q_move rfl) (TO.quiet (q_inc rfl rfl (by omega)) (TO.quiet (q_assign rfl) ?_))
      refine TO.sub (O' := ([rowI z5 zc6 3 1 ((nats ((rowK cs d.next[k]).take j)) ++ [.int .i64 ((cs[d.next[k][j].toNat] : Nat) : Int)]), rowI ob oc 52 1 (vals qs), rowI fb9 fc9 4 1 (bools fs), oI z3 25 [(.int .i64 d.vars), (.int .i64 ((cs.getD d.start.toNat 0 : Nat) : Int)), (.slice ob qs.length oc), (.slice fb9 fs.length fc9)], rowI cb cc 3 1 (nats cs), oI z2 25 [(.int .i64 0), (.int .i64 0), (.slice none 0 0), (.slice none 0 0)], oI z1 25 [(.int .i64 d.vars), (.int .i64 d.start), (.slice nb d.next.length nc), (.slice fb d.final.length fc)]] ++ (itms 3 qs))) (Sub.pickR [1, 1, 1, 1, 1, 1, 1] [rowI (some ⟨z4, 0, none⟩) 1 3 1 [.int .i64 ((cs[d.next[k][j].toNat] : Nat) : Int)], rowI z5 zc6 3 1 ((nats ((rowK cs d.next[k]).take j)) ++ [.int .i64 ((cs[d.next[k][j].toNat] : Nat) : Int)]), rowI ob oc 52 1 (vals qs), rowI fb9 fc9 4 1 (bools fs), oI z3 25 [(.int .i64 d.vars), (.int .i64 ((cs.getD d.start.toNat 0 : Nat) : Int)), (.slice ob qs.length oc), (.slice fb9 fs.length fc9)], rowI cb cc 3 1 (nats cs), oI z2 25 [(.int .i64 0), (.int .i64 0), (.slice none 0 0), (.slice none 0 0)], oI z1 25 [(.int .i64 d.vars), (.int .i64 d.start), (.slice nb d.next.length nc), (.slice fb d.final.length fc)]] (itms 3 qs) rfl rfl) ?_
      refine TO.nil ?_
      have hst : (rowK cs d.next[k]).take (j + 1) = (rowK cs d.next[k]).take j ++ [cs[d.next[k][j].toNat]] := by rw [List.take_succ_eq_append_getElem (by rw [rowK_length]; exact hlt48), rowK_get hlt48 (hto j hlt48).2]
      exact ⟨j + 1, by omega, z5, zc6, by rw [hst, show nats ((rowK cs d.next[k]).take j ++ [cs[d.next[k][j].toNat]]) = nats ((rowK cs d.next[k]).take j) ++ [.int .i64 ((cs[d.next[k][j].toNat] : Nat) : Int)] from List.map_append], by omega, ⟨rfl, rfl, rfl, rfl, rfl, rfl, rfl, rfl, rfl, rfl, trivial⟩⟩
    have hge48 : ¬ j < d.next[k].length := by omega
    refine T.exit ?_
    refine T.seq (T.region ?_)
    refine TO.quiet (q_fieldAddr Tryd.underlying25 rfl inf22 rfl rfl) (TO.quiet (q_load_box 3 Tryd.underlying22 rfl rfl rfl rfl) (TO.quiet (q_move rfl) ?_))
    refine TO.loud rfl (l_build1 (v := (.slice kb j kc)) Tryd.underlying22 inf52 rfl rfl rfl (fun z7 => ?_))
    refine TO.loud rfl (l_append 2 Tryd.underlying22 Tryd.underlying22 inf52 rfl rfl rfl rfl (by rw [List.length_map]; omega) (by decide) (Src.row (j := 0) rfl (by simp)) (by simp [oneB]) (by omega) (by decide) (by decide) (fun z8 zc9 => ?_))
    refine TO.quiet (q_fieldAddr Tryd.underlying25 rfl inf22 rfl rfl) ?_
    refine TO.loud rfl (l_store_box (v := (.slice z8 (qs.length + 1) zc9)) (vs := [(.slice z8 (qs.length + 1) zc9)]) 4 inf22 rfl rfl rfl rfl rfl rfl (by simp [putL]) ?_)
    refine TO.nil ?_
    refine T.draws _ [(0, 0), (1, 0), (2, 0), (3, 0), (4, 0), (5, 0), (6, 0), (7, 1), (8, 2), (9, 2), (10, 2)] mixed (by kernel_rfl) (Sub.of (List.Sublist.refl _)) (fun _ _ _ h => h) ?_
    refine DO.quiet rfl (q_fieldAddr Tryd.underlying25 rfl inf23 rfl rfl) (DO.quiet rfl (q_load_box 4 Tryd.underlying23 rfl rfl rfl rfl) (DO.quiet rfl (q_fieldAddr Tryd.underlying25 rfl inf23 rfl rfl) (DO.quiet rfl (q_load_box 7 Tryd.underlying23 rfl rfl rfl rfl) ?_)))
    refine DO.quiet rfl (q_move rfl) (DO.quiet rfl (q_ix (i := k) Tryd.underlying23 inf4 rfl rfl (Sl.o h.final) hkf (by rw [List.length_map]; exact hkf)) (DO.quiet rfl (q_ld Tryd.underlying4 rfl rfl (Sl.o h.final) (bools_get hkf)) ?_))
    refine DO.loud rfl rfl (l_build1 (v := .bool d.final[k]) Tryd.underlying23 inf4 rfl rfl rfl (fun z10 => ⟨Sub.pickR [1, 1, 1, 1, 1, 1, 1, 1] [rowI (some ⟨z10, 0, none⟩) 1 4 1 [.bool d.final[k]], rowI (some ⟨z7, 0, none⟩) 1 52 1 [(.slice kb j kc)], rowI kb kc 3 1 (nats ((rowK cs d.next[k]).take j)), rowI z8 zc9 52 1 ((vals qs) ++ [(.slice kb j kc)]), rowI fb9 fc9 4 1 (bools fs), oI z3 25 [(.int .i64 d.vars), (.int .i64 ((cs.getD d.start.toNat 0 : Nat) : Int)), (.slice z8 (qs.length + 1) zc9), (.slice fb9 fs.length fc9)], rowI cb cc 3 1 (nats cs), oI z2 25 [(.int .i64 0), (.int .i64 0), (.slice none 0 0), (.slice none 0 0)], oI z1 25 [(.int .i64 d.vars), (.int .i64 d.start), (.slice nb d.next.length nc), (.slice fb d.final.length fc)]] (itms 3 qs) rfl rfl, ?_⟩))
    refine DO.last rfl rfl (l_append 4 Tryd.underlying23 Tryd.underlying23 inf4 rfl rfl rfl rfl (by rw [List.length_map]; omega) (by decide) (Src.row (j := 0) rfl (by simp)) (by simp [oneB]) (by omega) (by decide) (by decide) (fun z11 zc12 => ?_))
    refine DO.last rfl rfl (LT.of_quiet rfl rfl (q_fieldAddr Tryd.underlying25 rfl inf23 rfl rfl) ?_)
    refine DO.last rfl rfl (l_store_box (v := (.slice z11 (fs.length + 1) zc12)) (vs := [(.slice z11 (fs.length + 1) zc12)]) 5 inf23 rfl rfl rfl rfl rfl rfl (by simp [putL]) ?_)
    refine DO.done ?_
    refine T.region ?_
    refine TO.quiet (q_move rfl) (TO.quiet (q_inc rfl rfl (by omega)) (TO.quiet (q_assign rfl) ?_))
    have hjf : j = d.next[k].length := by omega
    have hR : rowI kb kc 3 1 (nats ((rowK cs d.next[k]).take j)) = Rec.itm 3 ⟨kb, kc, (rowK cs d.next[k]).map fun c : Nat => (c : Int)⟩ := by
      rw [List.take_of_length_le (by rw [rowK_length]; omega)]; simp [Rec.itm, Function.comp_def]
    refine TO.sub (O' := [rowI z8 zc9 52 1 ((vals qs) ++ [(.slice kb j kc)]), rowI z11 zc12 4 1 ((bools fs) ++ [.bool d.final[k]]), oI z3 25 [(.int .i64 d.vars), (.int .i64 ((cs.getD d.start.toNat 0 : Nat) : Int)), (.slice z8 (qs.length + 1) zc9), (.slice z11 (fs.length + 1) zc12)], rowI cb cc 3 1 (nats cs), oI z2 25 [(.int .i64 0), (.int .i64 0), (.slice none 0 0), (.slice none 0 0)], oI z1 25 [(.int .i64 d.vars), (.int .i64 d.start), (.slice nb d.next.length nc), (.slice fb d.final.length fc)]] ++ itms 3 (qs ++ [⟨kb, kc, (rowK cs d.next[k]).map fun c : Nat => (c : Int)⟩])) (by show Sub _ ([rowI (some ⟨z10, 0, none⟩) 1 4 1 [.bool d.final[k]], rowI (some ⟨z7, 0, none⟩) 1 52 1 [(.slice kb j kc)], rowI kb kc 3 1 (nats ((rowK cs d.next[k]).take j)), rowI z8 zc9 52 1 ((vals qs) ++ [(.slice kb j kc)]), rowI z11 zc12 4 1 ((bools fs) ++ [.bool d.final[k]]), oI z3 25 [(.int .i64 d.vars), (.int .i64 ((cs.getD d.start.toNat 0 : Nat) : Int)), (.slice z8 (qs.length + 1) zc9), (.slice z11 (fs.length + 1) zc12)], rowI cb cc 3 1 (nats cs), oI z2 25 [(.int .i64 0), (.int .i64 0), (.slice none 0 0), (.slice none 0 0)], oI z1 25 [(.int .i64 d.vars), (.int .i64 d.start), (.slice nb d.next.length nc), (.slice fb d.final.length fc)]] ++ itms 3 qs); rw [hR]; exact Sub.cnt [rowI (some ⟨z10, 0, none⟩) 1 4 1 [.bool d.final[k]], rowI (some ⟨z7, 0, none⟩) 1 52 1 [(.slice kb j kc)]] (by intro a; simp only [itms, oI, List.set_cons_zero, List.set_cons_succ, putL, List.cons_append, List.nil_append, List.append_nil, List.append_assoc, List.map_append, List.map_cons, List.map_nil, cnt_append, cnt_cons, cnt_nil] <;> omega)) ?_
    refine TO.nil ?_
    refine ⟨k + 1, by omega, z8, z11, zc9, zc12, qs ++ [⟨kb, kc, (rowK cs d.next[k]).map fun c : Nat => (c : Int)⟩], fs ++ [d.final[k]], ?_, by omega, ?_, ?_, ⟨rfl, rfl, rfl, rfl, rfl, rfl, rfl, rfl, trivial⟩⟩
    · simp [Rec.val, rowK_length, hjf]
    · rw [hqn2, ← hqs]; simp
    · rw [hqn2, hfs]
  have hge30 : ¬ k < d.next.length := by omega
  refine T.exit ?_
  refine T.seq ?_
  have hke : k = d.next.length := by omega
  rw [hke] at hqs hfs
  have hql : qs.length = (quo d cs).next.length := by rw [show qs.length = (nums qs).length by simp, hqs]; rfl
  obtain rfl : fs = (quo d cs).final := hfs
  rw [hql]
  refine T.region ?_
  refine TO.quiet (q_load_boxAgg 2 Tryd.underlying25 rfl inf25 rfl rfl rfl) ?_
  have hk82 := fun (w1 : World) (hI : Inv w ([rowI ob oc 52 1 (vals qs), rowI fb9 fc9 4 1 (bools (quo d cs).final), oI z3 25 [(.int .i64 d.vars), (.int .i64 ((cs.getD d.start.toNat 0 : Nat) : Int)), (.slice ob ((quo d cs).next.length) oc), (.slice fb9 ((quo d cs).final.length) fc9)], rowI cb cc 3 1 (nats cs), oI z2 25 [(.int .i64 0), (.int .i64 0), (.slice none 0 0), (.slice none 0 0)], oI z1 25 [(.int .i64 d.vars), (.int .i64 d.start), (.slice nb d.next.length nc), (.slice fb d.final.length fc)]] ++ (itms 3 qs)) w1) => rRenumOk w1 (quo d cs) ob fb9 oc fc9 (vals qs) ⟨hI.slOf (List.mem_of_getElem? (i := 0) rfl), (show nums qs = (quo d cs).next from hqs) ▸ hI.recs (fun q hq => List.mem_append_right _ (List.mem_map_of_mem (f := Rec.itm 3) hq)), hI.slOf (List.mem_of_getElem? (i := 1) rfl)⟩ hqv hqn
  refine TO.loud rfl (l_call ent68 (CallT.of_pure hk82) rfl ?_)
  clear hk82
  rintro v O' ⟨N, rfl, nb', nc', fb', fc', qs', rfl, rfl, hnx⟩
  refine TO.sub (O' := ([rowI nb' nc' 52 1 (vals qs'), rowI fb' fc' 4 1 (bools (renum (quo d cs)).final), rowI ob oc 52 1 (vals qs), rowI fb9 fc9 4 1 (bools (quo d cs).final), oI z3 25 [(.int .i64 d.vars), (.int .i64 ((cs.getD d.start.toNat 0 : Nat) : Int)), (.slice ob ((quo d cs).next.length) oc), (.slice fb9 ((quo d cs).final.length) fc9)], rowI cb cc 3 1 (nats cs), oI z2 25 [(.int .i64 0), (.int .i64 0), (.slice none 0 0), (.slice none 0 0)], oI z1 25 [(.int .i64 d.vars), (.int .i64 d.start), (.slice nb d.next.length nc), (.slice fb d.final.length fc)]] ++ ((itms 3 qs') ++ (itms 3 qs)))) (Sub.cnt [] (by intro a; simp only [itms, oI, List.set_cons_zero, List.set_cons_succ, putL, List.cons_append, List.nil_append, List.append_nil, List.append_assoc, List.map_append, List.map_cons, List.map_nil, cnt_append, cnt_cons, cnt_nil] <;> omega)) ?_
  refine TO.quiet (q_extract (vs := _) rfl rfl) (TO.quiet (q_extract (vs := _) rfl rfl) ?_)
  refine TO.loud rfl (l_store_box (v := (.agg #[(.int .i64 (renum (quo d cs)).vars), (.int .i64 (renum (quo d cs)).start), (.slice nb' ((renum (quo d cs)).next.length) nc'), (.slice fb' ((renum (quo d cs)).final.length) fc')])) (vs := [(.int .i64 (renum (quo d cs)).vars), (.int .i64 (renum (quo d cs)).start), (.slice nb' ((renum (quo d cs)).next.length) nc'), (.slice fb' ((renum (quo d cs)).final.length) fc')]) 6 inf25 rfl rfl rfl rfl rfl rfl (by simp [putL]) ?_)
  refine TO.quiet (q_assign rfl) ?_
  refine TO.nil (T.ret (Res.drop ?_))
  refine Res.cell1b (.int .i64 0) (i := 6) Tryd.results42 Tryd.underlying25 rfl inf25 rfl rfl rfl rfl ?_
  exact ⟨[rowI nb' nc' 52 1 (vals qs'), rowI fb' fc' 4 1 (bools (renum (quo d cs)).final)] ++ itms 3 qs', Sub.cnt ([rowI ob oc 52 1 (vals qs), rowI fb9 fc9 4 1 (bools (quo d cs).final), oI z3 25 [(.int .i64 d.vars), (.int .i64 ((cs.getD d.start.toNat 0 : Nat) : Int)), (.slice ob ((quo d cs).next.length) oc), (.slice fb9 ((quo d cs).final.length) fc9)], rowI cb cc 3 1 (nats cs), oI z2 25 [(.int .i64 (renum (quo d cs)).vars), (.int .i64 (renum (quo d cs)).start), (.slice nb' ((renum (quo d cs)).next.length) nc'), (.slice fb' ((renum (quo d cs)).final.length) fc')], oI z1 25 [(.int .i64 d.vars), (.int .i64 d.start), (.slice nb d.next.length nc), (.slice fb d.final.length fc)]] ++ itms 3 qs) (by intro a; simp only [itms, oI, List.set_cons_zero, List.set_cons_succ, putL, List.cons_append, List.nil_append, List.append_nil, List.append_assoc, List.map_append, List.map_cons, List.map_nil, cnt_append, cnt_cons, cnt_nil] <;> omega), nb', nc', fb', fc', qs', rfl, rfl, hnx⟩
end Go.Proofs.YtdaapdamcekkgaaDoor

namespace Go.Proofs.YtdaapdamcekkgaaDoor
open Go.Lx Go.RowKit
set_option linter.unusedVariables false
set_option linter.unusedSimpArgs false
set_option maxHeartbeats 1000000 in
set_option maxRecDepth 20000 in
theorem rDistBad (w : World) (d : DFA) (nb fb : Option Addr) (nc fc : Nat) (vs : List Value) (h : DfaAt w d nb vs fb) (hb : d.next.length < 9223372036854775807) (hbr : ∀ r ∈ d.next, r.length < 9223372036854775807) (hbf : d.final.length < 9223372036854775807) (he : checkD d ≠ 0) (s t : Int) :
    PureT Tryd.prog 63 [.agg (dfaCells d nb nc fb fc).toArray, .int .i64 s, .int .i64 t] w fun v N => v = .tuple #[.slice none 0 0, .bool false, .int .i64 (checkD d : Int)] ∧ N = [] := by
  refine CallT.enter Tryd.func63 rfl Tryd.ntmps63 rfl ?_
  refine T.seq (T.region ?_)
  refine TO.loud rfl (l_box (v := (.agg #[(.int .i64 d.vars), (.int .i64 d.start), (.slice nb d.next.length nc), (.slice fb d.final.length fc)])) (cs := [(.int .i64 d.vars), (.int .i64 d.start), (.slice nb d.next.length nc), (.slice fb d.final.length fc)]) rfl rfl (fun b1 => ?_))
  refine TO.quiet (q_assign rfl) (TO.quiet (q_assign rfl) (TO.quiet (q_assign rfl) ?_))
  refine TO.nil (T.seq (T.region ?_))
  refine TO.quiet (q_load_boxAgg 0 Tryd.underlying25 rfl inf25 rfl rfl rfl) ?_
  have hk14 := fun (w1 : World) (hI : Inv w [oI b1 25 [(.int .i64 d.vars), (.int .i64 d.start), (.slice nb d.next.length nc), (.slice fb d.final.length fc)]] w1) => refCheck w1 d nb fb nc fc vs (hI.dfa h) hb hbr hbf
  refine TO.loud rfl (l_call ent37 (CallT.of_pure hk14) rfl ?_)
  clear hk14
  rintro v O' ⟨N, rfl, rfl, rfl⟩
  refine TO.quiet (q_assign rfl) ?_
  refine TO.nil (T.seq (T.seq (T.region ?_)))
  refine TO.quiet (q_move rfl) (TO.quiet (QT.toB (q_neq rfl rfl) (decide_eq_true (by omega))) ?_)
  refine TO.nil ?_
  refine T.cond1 rfl ?_
  refine T.seq (T.region ?_)
  refine TO.quiet (q_move rfl) (TO.quiet (q_assign rfl) (TO.quiet (q_assign rfl) (TO.quiet (q_assign rfl) ?_)))
  refine TO.nil (T.ret (Res.drop ?_))
  refine Res.three (.slice none 0 0) (.bool false) (.int .i64 (checkD d : Int)) Tryd.results63 rfl rfl rfl ?_
  exact ⟨[], Sub.of (List.nil_sublist _), rfl, rfl⟩
set_option maxHeartbeats 1000000 in
set_option maxRecDepth 20000 in
theorem rDistOut (w : World) (d : DFA) (nb fb : Option Addr) (nc fc : Nat) (vs : List Value) (h : DfaAt w d nb vs fb) (hv : Valid d) (s t : Int) (hst : s < 0 ∨ t < 0 ∨ (d.next.length : Int) ≤ s ∨ (d.next.length : Int) ≤ t) :
    PureT Tryd.prog 63 [.agg (dfaCells d nb nc fb fc).toArray, .int .i64 s, .int .i64 t] w fun v N => v = .tuple #[.slice none 0 0, .bool false, .int .i64 8] ∧ N = [] := by
  refine CallT.enter Tryd.func63 rfl Tryd.ntmps63 rfl ?_
  have he := checkD_zero.2 hv
  have hb : d.next.length < 9223372036854775807 := by have := hv.n4; omega
  have hbr : ∀ r ∈ d.next, r.length < 9223372036854775807 := hv.bound
  have hbf : d.final.length < 9223372036854775807 := by have := hv.fin; omega
  refine T.seq (T.region ?_)
  refine TO.loud rfl (l_box (v := (.agg #[(.int .i64 d.vars), (.int .i64 d.start), (.slice nb d.next.length nc), (.slice fb d.final.length fc)])) (cs := [(.int .i64 d.vars), (.int .i64 d.start), (.slice nb d.next.length nc), (.slice fb d.final.length fc)]) rfl rfl (fun b1 => ?_))
  refine TO.quiet (q_assign rfl) (TO.quiet (q_assign rfl) (TO.quiet (q_assign rfl) ?_))
  refine TO.nil (T.seq (T.region ?_))
  refine TO.quiet (q_load_boxAgg 0 Tryd.underlying25 rfl inf25 rfl rfl rfl) ?_
  have hk14 := fun (w1 : World) (hI : Inv w [oI b1 25 [(.int .i64 d.vars), (.int .i64 d.start), (.slice nb d.next.length nc), (.slice fb d.final.length fc)]] w1) => refCheck w1 d nb fb nc fc vs (hI.dfa h) hb hbr hbf
  refine TO.loud rfl (l_call ent37 (CallT.of_pure hk14) rfl ?_)
  clear hk14
  rintro v O' ⟨N, rfl, rfl, rfl⟩
  rw [he]
  refine TO.quiet (q_assign rfl) ?_
  refine TO.nil (T.seq (T.seq (T.region ?_)))
  refine TO.quiet (q_move rfl) (TO.quiet (q_neq rfl rfl) ?_)
  refine TO.nil ?_
  refine T.cond0 rfl ?_
  refine T.skip (T.seq (T.seq (T.region ?_)))
  refine TO.quiet (q_move rfl) ?_
  by_cases h1 : s < 0
  · refine TO.quiet (QT.toB (q_lss rfl rfl) (decide_eq_true h1)) ?_
    refine TO.quiet (q_move rfl) ?_
    refine TO.passed rfl rfl ?_
    refine TO.passed rfl rfl ?_
    refine TO.passed rfl rfl ?_
    refine TO.passed rfl rfl ?_
    refine TO.passed rfl rfl ?_
    refine TO.quiet (q_pick1 rfl rfl) (TO.quiet (q_move rfl) ?_)
    refine TO.passed rfl rfl ?_
    refine TO.passed rfl rfl ?_
    refine TO.quiet (q_pick1 rfl rfl) (TO.quiet (q_move rfl) ?_)
    refine TO.passed rfl rfl ?_
    refine TO.passed rfl rfl ?_
    refine TO.passed rfl rfl ?_
    refine TO.passed rfl rfl ?_
    refine TO.passed rfl rfl ?_
    refine TO.quiet (q_pick1 rfl rfl) ?_
    refine TO.nil ?_
    refine T.cond1 rfl ?_
    refine T.seq (T.region ?_)
    refine TO.quiet (q_assign rfl) (TO.quiet (q_assign rfl) (TO.quiet (q_assign rfl) ?_))
    refine TO.nil (T.ret (Res.drop ?_))
    refine Res.three (.slice none 0 0) (.bool false) (.int .i64 8) Tryd.results63 rfl rfl rfl ?_
    exact ⟨[], Sub.of (List.nil_sublist _), rfl, rfl⟩
  refine TO.quiet (QT.toB (q_lss rfl rfl) (decide_eq_false h1)) (TO.quiet (q_move rfl) ?_)
  refine TO.guarded rfl rfl rfl (LT.of_quiet rfl rfl (q_move rfl) ?_)
  refine TO.guarded rfl rfl rfl (LT.of_quiet rfl rfl (q_fieldAddr Tryd.underlying25 rfl inf22 rfl rfl) ?_)
  refine TO.guarded rfl rfl rfl (LT.of_quiet rfl rfl (q_load_box 0 Tryd.underlying22 rfl rfl rfl rfl) ?_)
  refine TO.guarded rfl rfl rfl (LT.of_quiet rfl rfl (q_len Tryd.underlying22 rfl) ?_)
  by_cases h2 : s ≥ (d.next.length : Int)
  · refine TO.guarded rfl rfl rfl (LT.of_quiet rfl rfl (QT.toB (q_geq rfl rfl) (decide_eq_true h2)) ?_)
    refine TO.quiet (q_pick0 rfl rfl) (TO.quiet (q_move rfl) ?_)
    refine TO.passed rfl rfl ?_
    refine TO.passed rfl rfl ?_
    refine TO.quiet (q_pick1 rfl rfl) (TO.quiet (q_move rfl) ?_)
    refine TO.passed rfl rfl ?_
    refine TO.passed rfl rfl ?_
    refine TO.passed rfl rfl ?_
    refine TO.passed rfl rfl ?_
    refine TO.passed rfl rfl ?_
    refine TO.quiet (q_pick1 rfl rfl) ?_
    refine TO.nil ?_
    refine T.cond1 rfl ?_
    refine T.seq (T.region ?_)
    refine TO.quiet (q_assign rfl) (TO.quiet (q_assign rfl) (TO.quiet (q_assign rfl) ?_))
    refine TO.nil (T.ret (Res.drop ?_))
    refine Res.three (.slice none 0 0) (.bool false) (.int .i64 8) Tryd.results63 rfl rfl rfl ?_
    exact ⟨[], Sub.of (List.nil_sublist _), rfl, rfl⟩
  refine TO.guarded rfl rfl rfl (LT.of_quiet rfl rfl (QT.toB (q_geq rfl rfl) (decide_eq_false h2)) ?_)
  refine TO.quiet (q_pick0 rfl rfl) (TO.quiet (q_move rfl) ?_)
  refine TO.guarded rfl rfl rfl (LT.of_quiet rfl rfl (q_move rfl) ?_)
  by_cases h3 : t < 0
  · refine TO.guarded rfl rfl rfl (LT.of_quiet rfl rfl (QT.toB (q_lss rfl rfl) (decide_eq_true h3)) ?_)
    refine TO.quiet (q_pick0 rfl rfl) (TO.quiet (q_move rfl) ?_)
    refine TO.passed rfl rfl ?_
    refine TO.passed rfl rfl ?_
    refine TO.passed rfl rfl ?_
    refine TO.passed rfl rfl ?_
    refine TO.passed rfl rfl ?_
    refine TO.quiet (q_pick1 rfl rfl) ?_
    refine TO.nil ?_
    refine T.cond1 rfl ?_
    refine T.seq (T.region ?_)
    refine TO.quiet (q_assign rfl) (TO.quiet (q_assign rfl) (TO.quiet (q_assign rfl) ?_))
    refine TO.nil (T.ret (Res.drop ?_))
    refine Res.three (.slice none 0 0) (.bool false) (.int .i64 8) Tryd.results63 rfl rfl rfl ?_
    exact ⟨[], Sub.of (List.nil_sublist _), rfl, rfl⟩
  refine TO.guarded rfl rfl rfl (LT.of_quiet rfl rfl (QT.toB (q_lss rfl rfl) (decide_eq_false h3)) ?_)
  refine TO.quiet (q_pick0 rfl rfl) (TO.quiet (q_move rfl) ?_)
  refine TO.guarded rfl rfl rfl (LT.of_quiet rfl rfl (q_move rfl) ?_)
  refine TO.guarded rfl rfl rfl (LT.of_quiet rfl rfl (q_fieldAddr Tryd.underlying25 rfl inf22 rfl rfl) ?_)
  refine TO.guarded rfl rfl rfl (LT.of_quiet rfl rfl (q_load_box 0 Tryd.underlying22 rfl rfl rfl rfl) ?_)
  refine TO.guarded rfl rfl rfl (LT.of_quiet rfl rfl (q_len Tryd.underlying22 rfl) ?_)
  refine TO.guarded rfl rfl rfl (LT.of_quiet rfl rfl (QT.toB (q_geq rfl rfl) (decide_eq_true (by omega))) ?_)
  refine TO.quiet (q_pick0 rfl rfl) ?_
  refine TO.nil ?_
  refine T.cond1 rfl ?_
  refine T.seq (T.region ?_)
  refine TO.quiet (q_assign rfl) (TO.quiet (q_assign rfl) (TO.quiet (q_assign rfl) ?_))
  refine TO.nil (T.ret (Res.drop ?_))
  refine Res.three (.slice none 0 0) (.bool false) (.int .i64 8) Tryd.results63 rfl rfl rfl ?_
  exact ⟨[], Sub.of (List.nil_sublist _), rfl, rfl⟩
set_option maxHeartbeats 4000000 in
set_option maxRecDepth 20000 in
theorem rDistOk (w : World) (d : DFA) (nb fb : Option Addr) (nc fc : Nat) (vs : List Value) (h : DfaAt w d nb vs fb) (hv : Valid d) (hn : d.next.length < 100) (s t : Nat) (hs : s < d.next.length) (ht : t < d.next.length) :
    PureT Tryd.prog 63 [.agg (dfaCells d nb nc fb fc).toArray, .int .i64 (s : Int), .int .i64 (t : Int)] w fun v N => ∃ res, Tell d s t res ∧ TellV 5 v N res := by
  refine CallT.enter Tryd.func63 rfl Tryd.ntmps63 rfl ?_
  have he := checkD_zero.2 hv
  have hb : d.next.length < 9223372036854775807 := by have := hv.n4; omega
  have hbr : ∀ r ∈ d.next, r.length < 9223372036854775807 := hv.bound
  have hbf : d.final.length < 9223372036854775807 := by have := hv.fin; omega
  have hvl := h.rows.1
  have hww := hv.width
  refine T.seq (T.region ?_)
  refine TO.loud rfl (l_box (v := (.agg #[(.int .i64 d.vars), (.int .i64 d.start), (.slice nb d.next.length nc), (.slice fb d.final.length fc)])) (cs := [(.int .i64 d.vars), (.int .i64 d.start), (.slice nb d.next.length nc), (.slice fb d.final.length fc)]) rfl rfl (fun z1 => ?_))
  refine TO.quiet (q_assign rfl) (TO.quiet (q_assign rfl) (TO.quiet (q_assign rfl) ?_))
  refine TO.nil (T.seq (T.region ?_))
  refine TO.quiet (q_load_boxAgg 0 Tryd.underlying25 rfl inf25 rfl rfl rfl) ?_
  have hk14 := fun (w1 : World) (hI : Inv w [oI z1 25 [(.int .i64 d.vars), (.int .i64 d.start), (.slice nb d.next.length nc), (.slice fb d.final.length fc)]] w1) => refCheck w1 d nb fb nc fc vs (hI.dfa h) hb hbr hbf
  refine TO.loud rfl (l_call ent37 (CallT.of_pure hk14) rfl ?_)
  clear hk14
  rintro v O' ⟨N, rfl, rfl, rfl⟩
  rw [he]
  refine TO.quiet (q_assign rfl) ?_
  refine TO.nil (T.seq (T.seq (T.region ?_)))
  refine TO.quiet (q_move rfl) (TO.quiet (q_neq rfl rfl) ?_)
  refine TO.nil ?_
  refine T.cond0 rfl ?_
  refine T.skip (T.seq (T.seq (T.region ?_)))
  refine TO.quiet (q_move rfl) (TO.quiet (QT.toB (q_lss rfl rfl) (decide_eq_false (by omega))) (TO.quiet (q_move rfl) ?_))
  refine TO.guarded rfl rfl rfl (LT.of_quiet rfl rfl (q_move rfl) ?_)
  refine TO.guarded rfl rfl rfl (LT.of_quiet rfl rfl (q_fieldAddr Tryd.underlying25 rfl inf22 rfl rfl) ?_)
  refine TO.guarded rfl rfl rfl (LT.of_quiet rfl rfl (q_load_box 0 Tryd.underlying22 rfl rfl rfl rfl) ?_)
  refine TO.guarded rfl rfl rfl (LT.of_quiet rfl rfl (q_len Tryd.underlying22 rfl) ?_)
  refine TO.guarded rfl rfl rfl (LT.of_quiet rfl rfl (QT.toB (q_geq rfl rfl) (decide_eq_false (by omega))) ?_)
  refine TO.quiet (q_pick0 rfl rfl) (TO.quiet (q_move rfl) ?_)
  refine TO.guarded rfl rfl rfl (LT.of_quiet rfl rfl (q_move rfl) ?_)
  refine TO.guarded rfl rfl rfl (LT.of_quiet rfl rfl (QT.toB (q_lss rfl rfl) (decide_eq_false (by omega))) ?_)
  refine TO.quiet (q_pick0 rfl rfl) (TO.quiet (q_move rfl) ?_)
  refine TO.guarded rfl rfl rfl (LT.of_quiet rfl rfl (q_move rfl) ?_)
  refine TO.guarded rfl rfl rfl (LT.of_quiet rfl rfl (q_fieldAddr Tryd.underlying25 rfl inf22 rfl rfl) ?_)
  refine TO.guarded rfl rfl rfl (LT.of_quiet rfl rfl (q_load_box 0 Tryd.underlying22 rfl rfl rfl rfl) ?_)
  refine TO.guarded rfl rfl rfl (LT.of_quiet rfl rfl (q_len Tryd.underlying22 rfl) ?_)
  refine TO.guarded rfl rfl rfl (LT.of_quiet rfl rfl (QT.toB (q_geq rfl rfl) (decide_eq_false (by omega))) ?_)
  refine TO.quiet (q_pick0 rfl rfl) ?_
  refine TO.nil ?_
  refine T.cond0 rfl ?_
  refine T.skip (T.seq (T.region ?_))
  refine TO.quiet (q_assign rfl) ?_
  refine TO.nil (T.seq (T.block ?_))
  refine T.loop (fun (k : Nat) ρ O => O = [oI z1 25 [(.int .i64 d.vars), (.int .i64 d.start), (.slice nb d.next.length nc), (.slice fb d.final.length fc)]] ∧ k ≤ d.next.length + 1 ∧ (∀ j, j < k → dif d j s t = false) ∧ Heads [(0, (.agg #[(.int .i64 d.vars), (.int .i64 d.start), (.slice nb d.next.length nc), (.slice fb d.final.length fc)])), (1, .int .i64 (s : Int)), (2, .int .i64 (t : Int)), (3, (.pointer (some ⟨z1, 0, none⟩))), (6, (.slice none 0 0)), (7, .bool false), (8, .int .i64 0), (9, .int .i64 ((0 : Nat) : Int)), (10, .int .i64 (k : Int))] ρ) (fun k => d.next.length + 1 - k) 0 ?_ ?_
  · exact ⟨rfl, Nat.zero_le _, fun j hj => absurd hj (by omega), ⟨rfl, rfl, rfl, rfl, rfl, rfl, rfl, rfl, rfl, trivial⟩⟩
  rintro k ρ O ⟨rfl, hk, hkj, hH⟩
  obtain ⟨ρ0, rfl⟩ := hH.elim
  clear hH
  refine T.seq (T.seq (T.region ?_))
  refine TO.quiet (q_move rfl) (TO.quiet (q_fieldAddr Tryd.underlying25 rfl inf22 rfl rfl) (TO.quiet (q_load_box 0 Tryd.underlying22 rfl rfl rfl rfl) (TO.quiet (q_len Tryd.underlying22 rfl) ?_)))
  by_cases hkn : (k : Int) ≤ (d.next.length : Int)
  · refine TO.quiet (QT.toB (q_leq rfl rfl) (decide_eq_true hkn)) ?_
    refine TO.quiet (q_move rfl) ?_
    refine TO.guarded rfl rfl rfl (LT.of_quiet rfl rfl (q_load_boxAgg 0 Tryd.underlying25 rfl inf25 rfl rfl rfl) ?_)
    refine TO.guarded rfl rfl rfl (LT.of_quiet rfl rfl (q_move rfl) ?_)
    have hk46 := fun (w1 : World) (hI : Inv w [oI z1 25 [(.int .i64 d.vars), (.int .i64 d.start), (.slice nb d.next.length nc), (.slice fb d.final.length fc)]] w1) => differC w1 d nb fb nc fc vs (hI.dfa h) hv hn k
    refine TO.guarded rfl rfl rfl (l_call ent83 (CallT.of_pure hk46) rfl ?_)
    clear hk46
    rintro v O' ⟨N, rfl, mb, mc, qs, rfl, rfl, hM⟩
    rw [show min ((k : Int)).toNat d.next.length = k by omega] at hM
    obtain ⟨qa, ma, ga, la, ea⟩ := hM.get hs
    refine TO.sub (O' := ([rowI mb mc 23 1 (bvals qs), oI z1 25 [(.int .i64 d.vars), (.int .i64 d.start), (.slice nb d.next.length nc), (.slice fb d.final.length fc)]] ++ (bitms 4 qs))) (Sub.cnt [] (by intro a; simp only [itms, oI, List.set_cons_zero, List.set_cons_succ, putL, List.cons_append, List.nil_append, List.append_nil, List.append_assoc, List.map_append, List.map_cons, List.map_nil, cnt_append, cnt_cons, cnt_nil] <;> omega)) ?_
    refine TO.guarded rfl rfl rfl (LT.of_quiet rfl rfl (q_move rfl) ?_)
    refine TO.guarded rfl rfl rfl (LT.of_quiet rfl rfl (q_ix (i := s) Tryd.underlying115 inf23 rfl rfl (rowO (List.mem_of_getElem? (i := 0) rfl)) hs (by rw [List.length_map, hM.len]; exact hs)) ?_)
    refine TO.guarded rfl rfl rfl (LT.of_quiet rfl rfl (q_ld Tryd.underlying23 rfl rfl (rowO (List.mem_of_getElem? (i := 0) rfl)) ga) ?_)
    refine TO.guarded rfl rfl rfl (LT.of_quiet rfl rfl (q_move rfl) ?_)
    refine TO.guarded rfl rfl rfl (LT.of_quiet rfl rfl (q_ix (i := t) Tryd.underlying23 inf4 rfl rfl (fun w hI => hI.slOf (T := 4) (k := 1) (List.mem_append_right _ (List.mem_map_of_mem (f := BRec.itm 4) ma))) ht (la ▸ ht)) ?_)
    refine TO.guarded rfl rfl rfl (LT.of_quiet rfl rfl (q_ld Tryd.underlying4 rfl rfl (fun w hI => hI.slOf (T := 4) (k := 1) (List.mem_append_right _ (List.mem_map_of_mem (f := BRec.itm 4) ma))) (ea t ht)) ?_)
    refine TO.guarded rfl rfl rfl (LT.of_quiet rfl rfl (q_not rfl) ?_)
    refine TO.quiet (q_pick1 rfl rfl) ?_
    refine TO.nil ?_
    refine T.cond rfl (fun hc => ?_) (fun hc => ?_)
    · have hkd : dif d k s t = false := by simpa using hc
      refine T.skip (T.block (T.region ?_))
      refine TO.quiet (q_move rfl) (TO.quiet (q_inc rfl rfl (by omega)) (TO.quiet (q_assign rfl) ?_))
      refine TO.sub (O' := [oI z1 25 [(.int .i64 d.vars), (.int .i64 d.start), (.slice nb d.next.length nc), (.slice fb d.final.length fc)]]) (Sub.cnt ([rowI mb mc 23 1 (bvals qs)] ++ bitms 4 qs) (by intro a; simp only [itms, oI, List.set_cons_zero, List.set_cons_succ, putL, List.cons_append, List.nil_append, List.append_nil, List.append_assoc, List.map_append, List.map_cons, List.map_nil, cnt_append, cnt_cons, cnt_nil] <;> omega)) ?_
      refine TO.nil ?_
      refine ⟨k + 1, by omega, rfl, by omega, fun j h9 => ?_, ⟨rfl, rfl, rfl, rfl, rfl, rfl, rfl, rfl, rfl, trivial⟩⟩
      by_cases e : j = k
      · subst e; exact hkd
      · exact hkj j (by omega)
    have hkd : dif d k s t = true := by simpa using hc
    refine T.exit ?_
    refine T.seq (T.seq ?_)
    refine T.sub (O' := [oI z1 25 [(.int .i64 d.vars), (.int .i64 d.start), (.slice nb d.next.length nc), (.slice fb d.final.length fc)]]) (Sub.cnt ([rowI mb mc 23 1 (bvals qs)] ++ bitms 4 qs) (by intro a; simp only [itms, oI, List.set_cons_zero, List.set_cons_succ, putL, List.cons_append, List.nil_append, List.append_nil, List.append_assoc, List.map_append, List.map_cons, List.map_nil, cnt_append, cnt_cons, cnt_nil] <;> omega)) ?_
    refine T.region ?_
    refine TO.quiet (q_move rfl) (TO.quiet (q_fieldAddr Tryd.underlying25 rfl inf22 rfl rfl) (TO.quiet (q_load_box 0 Tryd.underlying22 rfl rfl rfl rfl) (TO.quiet (q_len Tryd.underlying22 rfl) ?_)))
    by_cases hbig : (k : Int) > (d.next.length : Int)
    · refine TO.quiet (QT.toB (q_gtr rfl rfl) (decide_eq_true hbig)) ?_
      refine TO.nil ?_
      refine T.cond1 rfl ?_
      refine T.seq (T.region ?_)
      refine TO.quiet (q_assign rfl) (TO.quiet (q_assign rfl) (TO.quiet (q_assign rfl) ?_))
      refine TO.nil (T.ret (Res.drop ?_))
      refine Res.three (.slice none 0 0) (.bool false) (.int .i64 0) Tryd.results63 rfl rfl rfl ?_
      exact ⟨[], Sub.of (List.nil_sublist _), none, tell_none hv hs ht (fun j hj => hkj j (by omega)), rfl, rfl⟩
    refine TO.quiet (QT.toB (q_gtr rfl rfl) (decide_eq_false hbig)) ?_
    refine TO.nil ?_
    refine T.cond0 rfl ?_
    refine T.skip (T.seq ?_)
    have hkd : dif d k s t = true := by first | assumption | (exfalso; omega)
    have hkn9 : k ≤ d.next.length := by omega
    refine T.region ?_
    refine TO.quiet (q_assign rfl) ?_
    refine TO.nil (T.seq (T.block ?_))
    refine T.nilRow 5 1 ?_
    refine T.loop (fun (m : Nat) ρ O => ∃ (a b : Nat) (wb : Option Addr) (wc wl : Nat) (u : List Nat), O = [rowI wb wc 5 1 (byts u), oI z1 25 [(.int .i64 d.vars), (.int .i64 d.start), (.slice nb d.next.length nc), (.slice fb d.final.length fc)]] ∧ a < d.next.length ∧ b < d.next.length ∧ wl + m ≤ d.next.length ∧ wl = u.length ∧ dif d m a b = true ∧ (∀ j, j < m → dif d j a b = false) ∧ (∀ v, IsLeast d a b v → IsLeast d s t (u ++ v)) ∧ Heads [(0, (.agg #[(.int .i64 d.vars), (.int .i64 d.start), (.slice nb d.next.length nc), (.slice fb d.final.length fc)])), (1, .int .i64 (a : Int)), (2, .int .i64 (b : Int)), (3, (.pointer (some ⟨z1, 0, none⟩))), (6, (.slice none 0 0)), (7, .bool false), (8, .int .i64 0), (9, .int .i64 ((0 : Nat) : Int)), (10, .int .i64 (m : Int)), (11, (.slice wb wl wc))] ρ) (fun m => m) k ?_ ?_
    · exact ⟨s, t, none, 0, 0, [], rfl, hs, ht, by omega, rfl, hkd, hkj, fun v h => h, ⟨rfl, rfl, rfl, rfl, rfl, rfl, rfl, rfl, rfl, rfl, trivial⟩⟩
    rintro m ρ O ⟨a, b, wb, wc, wl, u, rfl, ha, hb9, hul, hwl, hma, hmj, hle, hH⟩
    obtain ⟨ρ0, rfl⟩ := hH.elim
    clear hH
    refine T.seq (T.seq (T.region ?_))
    refine TO.quiet (q_move rfl) (TO.quiet (q_gtr rfl rfl) ?_)
    refine TO.nil ?_
    refine T.condP rfl (fun hc => ?_) (fun hc => ?_)
    · have hlt63 : m > 0 := by omega
      refine T.skip (T.block (T.seq ?_))
      obtain ⟨m1, rfl⟩ : ∃ m1, m = m1 + 1 := ⟨m - 1, by omega⟩
      obtain ⟨x0, hx0, hxd0⟩ := dif_letter hma (hmj m1 (by omega))
      obtain ⟨vb1, vc1, g1, s1⟩ := h.rows.get ha
      obtain ⟨vb2, vc2, g2, s2⟩ := h.rows.get hb9
      have hl1 : d.next[a].length = 2 ^ d.vars.toNat := hv.len _ (List.getElem_mem ha)
      have hl2 : d.next[b].length = 2 ^ d.vars.toNat := hv.len _ (List.getElem_mem hb9)
      refine T.region ?_
      refine TO.quiet (q_assign rfl) ?_
      refine TO.nil (T.seq (T.block ?_))
      refine T.loop (fun (x : Nat) ρ O => O = [rowI wb wc 5 1 (byts u), oI z1 25 [(.int .i64 d.vars), (.int .i64 d.start), (.slice nb d.next.length nc), (.slice fb d.final.length fc)]] ∧ x ≤ x0 ∧ (∀ y, y < x → dif d m1 (toN d a y) (toN d b y) = false) ∧ Heads [(0, (.agg #[(.int .i64 d.vars), (.int .i64 d.start), (.slice nb d.next.length nc), (.slice fb d.final.length fc)])), (1, .int .i64 (a : Int)), (2, .int .i64 (b : Int)), (3, (.pointer (some ⟨z1, 0, none⟩))), (6, (.slice none 0 0)), (7, .bool false), (8, .int .i64 0), (9, .int .i64 ((0 : Nat) : Int)), (10, .int .i64 ((m1 + 1 : Nat) : Int)), (11, (.slice wb wl wc)), (12, .int .i64 (x : Int))] ρ) (fun x => x0 - x) 0 ?_ ?_
      · exact ⟨rfl, Nat.zero_le _, fun y hy => absurd hy (by omega), ⟨rfl, rfl, rfl, rfl, rfl, rfl, rfl, rfl, rfl, rfl, rfl, trivial⟩⟩
      rintro x ρ O ⟨rfl, hx, hxj, hH⟩
      obtain ⟨ρ0, rfl⟩ := hH.elim
      clear hH
      have hlx : x < 2 ^ d.vars.toNat := by unfold letN at hx0; omega
      obtain ⟨hta, _, hxk1, hx1⟩ := hv.toN_lt ha hlx
      obtain ⟨htb, _, hxk2, hx2⟩ := hv.toN_lt hb9 hlx
      have hx1 : (ints d.next[a])[x]? = some (.int .i64 ((toN d a x : Nat) : Int)) := by rw [ints_get hxk1, hx1]
      have hx2 : (ints d.next[b])[x]? = some (.int .i64 ((toN d b x : Nat) : Int)) := by rw [ints_get hxk2, hx2]
      refine T.seq ?_
      refine T.cut (fun ρ O => O = [rowI wb wc 5 1 (byts u), oI z1 25 [(.int .i64 d.vars), (.int .i64 d.start), (.slice nb d.next.length nc), (.slice fb d.final.length fc)]] ∧ Heads [(0, (.agg #[(.int .i64 d.vars), (.int .i64 d.start), (.slice nb d.next.length nc), (.slice fb d.final.length fc)])), (1, .int .i64 (a : Int)), (2, .int .i64 (b : Int)), (3, (.pointer (some ⟨z1, 0, none⟩))), (6, (.slice none 0 0)), (7, .bool false), (8, .int .i64 0), (9, .int .i64 ((0 : Nat) : Int)), (10, .int .i64 ((m1 + 1 : Nat) : Int)), (11, (.slice wb wl wc)), (12, .int .i64 (x : Int)), (88, .bool (!(dif d m1 (toN d a x) (toN d b x))))] ρ) ?_ ?_
      · refine T.tree [oI z1 25 [(.int .i64 d.vars), (.int .i64 d.start), (.slice nb d.next.length nc), (.slice fb d.final.length fc)]] 25 mixed rfl (Sub.pick [1] rfl) (fun _ _ _ h => h) ?_
        refine RO.quietT 0 rfl (by kernel_rfl) (q_load_boxAgg 0 Tryd.underlying25 rfl inf25 rfl rfl rfl) ?_
        refine RO.quietT 1 rfl (by kernel_rfl) (q_move rfl) ?_
        refine RO.quietT 2 rfl (by kernel_rfl) (q_sub64 rfl rfl (by omega)) ?_
        refine RO.quietT 4 rfl (by kernel_rfl) (q_fieldAddr Tryd.underlying25 rfl inf22 rfl rfl) ?_
        refine RO.quietT 5 rfl (by kernel_rfl) (q_load_box 0 Tryd.underlying22 rfl rfl rfl rfl) ?_
        refine RO.quietT 6 rfl (by kernel_rfl) (q_move rfl) ?_
        refine RO.quietT 7 rfl (by kernel_rfl) (q_ix (i := a) Tryd.underlying22 inf52 rfl rfl (Sl.o h.outer) ha (hvl ▸ ha)) ?_
        refine RO.quietT 8 rfl (by kernel_rfl) (q_ld Tryd.underlying52 rfl rfl (Sl.o h.outer) g1) ?_
        refine RO.quietT 9 rfl (by kernel_rfl) (q_move rfl) ?_
        refine RO.quietT 10 rfl (by kernel_rfl) (q_ix (i := x) Tryd.underlying52 inf3 rfl rfl (Sl.o s1) (by rw [hl1]; exact hlx) (by rw [List.length_map, hl1]; exact hlx)) ?_
        refine RO.quietT 11 rfl (by kernel_rfl) (q_ld Tryd.underlying3 rfl rfl (Sl.o s1) hx1) ?_
        refine RO.quietT 14 rfl (by kernel_rfl) (q_fieldAddr Tryd.underlying25 rfl inf22 rfl rfl) ?_
        refine RO.quietT 15 rfl (by kernel_rfl) (q_load_box 0 Tryd.underlying22 rfl rfl rfl rfl) ?_
        refine RO.quietT 16 rfl (by kernel_rfl) (q_move rfl) ?_
        refine RO.quietT 17 rfl (by kernel_rfl) (q_ix (i := b) Tryd.underlying22 inf52 rfl rfl (Sl.o h.outer) hb9 (hvl ▸ hb9)) ?_
        refine RO.quietT 18 rfl (by kernel_rfl) (q_ld Tryd.underlying52 rfl rfl (Sl.o h.outer) g2) ?_
        refine RO.quietT 19 rfl (by kernel_rfl) (q_move rfl) ?_
        refine RO.quietT 20 rfl (by kernel_rfl) (q_ix (i := x) Tryd.underlying52 inf3 rfl rfl (Sl.o s2) (by rw [hl2]; exact hlx) (by rw [List.length_map, hl2]; exact hlx)) ?_
        refine RO.quietT 21 rfl (by kernel_rfl) (q_ld Tryd.underlying3 rfl rfl (Sl.o s2) hx2) ?_
        have hk67 := fun (w1 : World) (hI : Inv w [rowI wb wc 5 1 (byts u), oI z1 25 [(.int .i64 d.vars), (.int .i64 d.start), (.slice nb d.next.length nc), (.slice fb d.final.length fc)]] w1) => differC w1 d nb fb nc fc vs (hI.dfa h) hv hn (((m1 + 1 : Nat) : Int) - 1)
        refine RO.fork [3] (by kernel_rfl) rfl ⟨⟨_, rfl, rfl, l_call ent83 (CallT.of_pure hk67) rfl ?_⟩, trivial⟩
        clear hk67
        rintro v O' ⟨N, rfl, mb, mc, qs, rfl, rfl, hM⟩
        rw [show min (((m1 + 1 : Nat) : Int) - 1).toNat d.next.length = m1 by omega] at hM
        obtain ⟨qc, mc9, gc, lc, ec⟩ := hM.get hta
        refine ⟨Sub.cnt ([rowI mb mc 23 1 (bvals qs), rowI wb wc 5 1 (byts u)] ++ (bitms 4 qs)) (by intro a; simp only [itms, oI, List.set_cons_zero, List.set_cons_succ, putL, List.cons_append, List.nil_append, List.append_nil, List.append_assoc, List.map_append, List.map_cons, List.map_nil, cnt_append, cnt_cons, cnt_nil] <;> omega), ?_⟩
        refine RO.sub (O' := ([rowI mb mc 23 1 (bvals qs), rowI wb wc 5 1 (byts u), oI z1 25 [(.int .i64 d.vars), (.int .i64 d.start), (.slice nb d.next.length nc), (.slice fb d.final.length fc)]] ++ (bitms 4 qs))) (Sub.cnt [] (by intro a; simp only [itms, oI, List.set_cons_zero, List.set_cons_succ, putL, List.cons_append, List.nil_append, List.append_nil, List.append_assoc, List.map_append, List.map_cons, List.map_nil, cnt_append, cnt_cons, cnt_nil] <;> omega)) ?_
        refine RO.fork [12] (by kernel_rfl) rfl ⟨⟨_, rfl, rfl, LT.of_quiet rfl rfl (q_ix (i := (toN d a x)) Tryd.underlying115 inf23 rfl rfl (rowO (List.mem_of_getElem? (i := 0) rfl)) hta (by rw [List.length_map, hM.len]; exact hta)) ⟨Sub.pick0 [2] [rowI mb mc 23 1 (bvals qs), rowI wb wc 5 1 (byts u), oI z1 25 [(.int .i64 d.vars), (.int .i64 d.start), (.slice nb d.next.length nc), (.slice fb d.final.length fc)]] (bitms 4 qs) rfl rfl, ?_⟩⟩, trivial⟩
        refine RO.fork [13] (by kernel_rfl) rfl ⟨⟨_, rfl, rfl, LT.of_quiet rfl rfl (q_ld Tryd.underlying23 rfl rfl (rowO (List.mem_of_getElem? (i := 0) rfl)) gc) ⟨Sub.pick0 [2] [rowI mb mc 23 1 (bvals qs), rowI wb wc 5 1 (byts u), oI z1 25 [(.int .i64 d.vars), (.int .i64 d.start), (.slice nb d.next.length nc), (.slice fb d.final.length fc)]] (bitms 4 qs) rfl rfl, ?_⟩⟩, trivial⟩
        refine RO.fork [22] (by kernel_rfl) rfl ⟨⟨_, rfl, rfl, LT.of_quiet rfl rfl (q_ix (i := (toN d b x)) Tryd.underlying23 inf4 rfl rfl (fun w hI => hI.slOf (T := 4) (k := 1) (List.mem_append_right _ (List.mem_map_of_mem (f := BRec.itm 4) mc9))) htb (lc ▸ htb)) ⟨Sub.pick0 [2] [rowI mb mc 23 1 (bvals qs), rowI wb wc 5 1 (byts u), oI z1 25 [(.int .i64 d.vars), (.int .i64 d.start), (.slice nb d.next.length nc), (.slice fb d.final.length fc)]] (bitms 4 qs) rfl rfl, ?_⟩⟩, trivial⟩
        refine RO.fork [23] (by kernel_rfl) rfl ⟨⟨_, rfl, rfl, LT.of_quiet rfl rfl (q_ld Tryd.underlying4 rfl rfl (fun w hI => hI.slOf (T := 4) (k := 1) (List.mem_append_right _ (List.mem_map_of_mem (f := BRec.itm 4) mc9))) (ec _ htb)) ⟨Sub.pick0 [2] [rowI mb mc 23 1 (bvals qs), rowI wb wc 5 1 (byts u), oI z1 25 [(.int .i64 d.vars), (.int .i64 d.start), (.slice nb d.next.length nc), (.slice fb d.final.length fc)]] (bitms 4 qs) rfl rfl, ?_⟩⟩, trivial⟩
        refine RO.fork [24] (by kernel_rfl) rfl ⟨⟨_, rfl, rfl, LT.of_quiet rfl rfl (q_not rfl) ⟨Sub.pick0 [2] [rowI mb mc 23 1 (bvals qs), rowI wb wc 5 1 (byts u), oI z1 25 [(.int .i64 d.vars), (.int .i64 d.start), (.slice nb d.next.length nc), (.slice fb d.final.length fc)]] (bitms 4 qs) rfl rfl, ?_⟩⟩, trivial⟩
        exact RO.fin (by kernel_rfl) ⟨rfl, ⟨rfl, rfl, rfl, rfl, rfl, rfl, rfl, rfl, rfl, rfl, rfl, rfl, trivial⟩⟩ (Sub.cnt ([rowI mb mc 23 1 (bvals qs)] ++ bitms 4 qs) (by intro a; simp only [itms, oI, List.set_cons_zero, List.set_cons_succ, putL, List.cons_append, List.nil_append, List.append_nil, List.append_assoc, List.map_append, List.map_cons, List.map_nil, cnt_append, cnt_cons, cnt_nil] <;> omega))
      rintro ρ O ⟨rfl, hH⟩
      obtain ⟨ρ0, rfl⟩ := hH.elim
      clear hH
      refine T.cond rfl (fun hc => ?_) (fun hc => ?_)
      · have hxd : dif d m1 (toN d a x) (toN d b x) = false := by simpa using hc
        have hxn : x ≠ x0 := fun e => by subst e; rw [hxd0] at hxd; cases hxd
        refine T.skip (T.block (T.region ?_))
        refine TO.quiet (q_move rfl) (TO.quiet (q_inc rfl rfl (by omega)) (TO.quiet (q_assign rfl) ?_))
        refine TO.nil ?_
        refine ⟨x + 1, by omega, rfl, by omega, fun y hy => ?_, ⟨rfl, rfl, rfl, rfl, rfl, rfl, rfl, rfl, rfl, rfl, rfl, trivial⟩⟩
        by_cases e : y = x
        · subst e; exact hxd
        · exact hxj y (by omega)
      have hxd : dif d m1 (toN d a x) (toN d b x) = true := by simpa using hc
      refine T.exit ?_
      refine T.seq (T.region ?_)
      refine TO.quiet (q_move rfl) (TO.quiet (q_move rfl) (TO.quiet (q_conv_id Tryd.underlying3 Tryd.underlying5 rfl (wrap8 (by omega))) ?_))
      refine TO.loud rfl (l_build1 (v := .int .u8 (x : Int)) Tryd.underlying35 inf5 rfl rfl rfl (fun z2 => ?_))
      refine TO.loud rfl (l_append 1 Tryd.underlying35 Tryd.underlying35 inf5 rfl rfl rfl rfl (by rw [List.length_map, Nat.mul_one]; exact hwl.symm) (by decide) (Src.row (j := 0) rfl (by simp)) (by simp [oneB]) (by omega) (by decide) (by decide) (fun z3 zc4 => ?_))
      refine TO.quiet (q_assign rfl) ?_
      refine TO.nil (T.seq ?_)
      refine T.draws _ [(0, 0), (1, 0), (2, 0), (3, 0), (4, 0), (5, 0), (6, 0), (7, 0), (8, 0), (9, 0), (10, 0), (11, 0), (12, 0), (13, 0), (14, 0), (15, 0), (16, 0), (17, 0)] mixed (by kernel_rfl) (Sub.of (List.Sublist.refl _)) (fun _ _ _ h => h) ?_
      refine DO.quiet rfl (q_fieldAddr Tryd.underlying25 rfl inf22 rfl rfl) (DO.quiet rfl (q_load_box 2 Tryd.underlying22 rfl rfl rfl rfl) (DO.quiet rfl (q_move rfl) (DO.quiet rfl (q_ix (i := a) Tryd.underlying22 inf52 rfl rfl (Sl.o h.outer) ha (hvl ▸ ha)) ?_)))
      refine DO.quiet rfl (q_ld Tryd.underlying52 rfl rfl (Sl.o h.outer) g1) (DO.quiet rfl (q_move rfl) (DO.quiet rfl (q_ix (i := x) Tryd.underlying52 inf3 rfl rfl (Sl.o s1) (by rw [hl1]; exact hlx) (by rw [List.length_map, hl1]; exact hlx)) (DO.quiet rfl (q_ld Tryd.underlying3 rfl rfl (Sl.o s1) hx1) ?_)))
      refine DO.quiet rfl (q_fieldAddr Tryd.underlying25 rfl inf22 rfl rfl) (DO.quiet rfl (q_load_box 2 Tryd.underlying22 rfl rfl rfl rfl) (DO.quiet rfl (q_move rfl) (DO.quiet rfl (q_ix (i := b) Tryd.underlying22 inf52 rfl rfl (Sl.o h.outer) hb9 (hvl ▸ hb9)) ?_)))
      refine DO.quiet rfl (q_ld Tryd.underlying52 rfl rfl (Sl.o h.outer) g2) (DO.quiet rfl (q_move rfl) (DO.quiet rfl (q_ix (i := x) Tryd.underlying52 inf3 rfl rfl (Sl.o s2) (by rw [hl2]; exact hlx) (by rw [List.length_map, hl2]; exact hlx)) (DO.quiet rfl (q_ld Tryd.underlying3 rfl rfl (Sl.o s2) hx2) ?_)))
      refine DO.quiet rfl (q_assign rfl) (DO.quiet rfl (q_assign rfl) ?_)
      refine DO.done ?_
      refine T.region ?_
      refine TO.quiet (q_move rfl) (TO.quiet (QT.cast (q_sub64 rfl rfl (by omega)) (v' := .int .i64 (m1 : Int)) (by rw [show ((m1 + 1 : Nat) : Int) - 1 = (m1 : Int) by omega])) (TO.quiet (q_assign rfl) ?_))
      refine TO.sub (O' := [rowI z3 zc4 5 1 ((byts u) ++ [.int .u8 (x : Int)]), oI z1 25 [(.int .i64 d.vars), (.int .i64 d.start), (.slice nb d.next.length nc), (.slice fb d.final.length fc)]]) (Sub.pick [1, 1] rfl) ?_
      refine TO.nil ?_
      exact ⟨m1, by omega, toN d a x, toN d b x, z3, zc4, wl + 1, u ++ [x], by simp, hta, htb, by omega, by simp [hwl], hxd, dif_no_prev hv hmj hlx, fun v h9 => by rw [List.append_assoc]; exact hle _ (least_cons hv hmj hlx hxd hxj h9), ⟨rfl, rfl, rfl, rfl, rfl, rfl, rfl, rfl, rfl, rfl, trivial⟩⟩
    have hge63 : ¬ m > 0 := by omega
    refine T.exit ?_
    refine T.seq (T.region ?_)
    refine TO.quiet (q_move rfl) (TO.quiet (q_assign rfl) (TO.quiet (q_assign rfl) (TO.quiet (q_assign rfl) ?_)))
    refine TO.nil (T.ret (Res.drop ?_))
    refine Res.three (.slice wb wl wc) (.bool true) (.int .i64 0) Tryd.results63 rfl rfl rfl ?_
    have hm0 : m = 0 := by omega
    rw [hm0] at hma
    exact ⟨[rowI wb wc 5 1 (byts u)], (Sub.pick [0] rfl), some u, by have := hle [] (least_nil hma); rwa [List.append_nil] at this, wb, wc, by rw [hwl], rfl⟩
  refine TO.quiet (QT.toB (q_leq rfl rfl) (decide_eq_false hkn)) (TO.quiet (q_move rfl) ?_)
  refine TO.passed rfl rfl ?_
  refine TO.passed rfl rfl ?_
  refine TO.passed rfl rfl ?_
  refine TO.passed rfl rfl ?_
  refine TO.passed rfl rfl ?_
  refine TO.passed rfl rfl ?_
  refine TO.passed rfl rfl ?_
  refine TO.passed rfl rfl ?_
  refine TO.passed rfl rfl ?_
  refine TO.passed rfl rfl ?_
  refine TO.quiet (q_pick0 rfl rfl) ?_
  refine TO.nil ?_
  refine T.cond0 rfl ?_
  refine T.exit ?_
  refine T.seq (T.seq ?_)
  skip
  refine T.region ?_
  refine TO.quiet (q_move rfl) (TO.quiet (q_fieldAddr Tryd.underlying25 rfl inf22 rfl rfl) (TO.quiet (q_load_box 0 Tryd.underlying22 rfl rfl rfl rfl) (TO.quiet (q_len Tryd.underlying22 rfl) ?_)))
  by_cases hbig : (k : Int) > (d.next.length : Int)
  · refine TO.quiet (QT.toB (q_gtr rfl rfl) (decide_eq_true hbig)) ?_
    refine TO.nil ?_
    refine T.cond1 rfl ?_
    refine T.seq (T.region ?_)
    refine TO.quiet (q_assign rfl) (TO.quiet (q_assign rfl) (TO.quiet (q_assign rfl) ?_))
    refine TO.nil (T.ret (Res.drop ?_))
    refine Res.three (.slice none 0 0) (.bool false) (.int .i64 0) Tryd.results63 rfl rfl rfl ?_
    exact ⟨[], Sub.of (List.nil_sublist _), none, tell_none hv hs ht (fun j hj => hkj j (by omega)), rfl, rfl⟩
  refine TO.quiet (QT.toB (q_gtr rfl rfl) (decide_eq_false hbig)) ?_
  refine TO.nil ?_
  refine T.cond0 rfl ?_
  refine T.skip (T.seq ?_)
  have hkd : dif d k s t = true := by first | assumption | (exfalso; omega)
  have hkn9 : k ≤ d.next.length := by omega
  refine T.region ?_
  refine TO.quiet (q_assign rfl) ?_
  refine TO.nil (T.seq (T.block ?_))
  refine T.nilRow 5 1 ?_
  refine T.loop (fun (m : Nat) ρ O => ∃ (a b : Nat) (wb : Option Addr) (wc wl : Nat) (u : List Nat), O = [rowI wb wc 5 1 (byts u), oI z1 25 [(.int .i64 d.vars), (.int .i64 d.start), (.slice nb d.next.length nc), (.slice fb d.final.length fc)]] ∧ a < d.next.length ∧ b < d.next.length ∧ wl + m ≤ d.next.length ∧ wl = u.length ∧ dif d m a b = true ∧ (∀ j, j < m → dif d j a b = false) ∧ (∀ v, IsLeast d a b v → IsLeast d s t (u ++ v)) ∧ Heads [(0, (.agg #[(.int .i64 d.vars), (.int .i64 d.start), (.slice nb d.next.length nc), (.slice fb d.final.length fc)])), (1, .int .i64 (a : Int)), (2, .int .i64 (b : Int)), (3, (.pointer (some ⟨z1, 0, none⟩))), (6, (.slice none 0 0)), (7, .bool false), (8, .int .i64 0), (9, .int .i64 ((0 : Nat) : Int)), (10, .int .i64 (m : Int)), (11, (.slice wb wl wc))] ρ) (fun m => m) k ?_ ?_
  · exact ⟨s, t, none, 0, 0, [], rfl, hs, ht, by omega, rfl, hkd, hkj, fun v h => h, ⟨rfl, rfl, rfl, rfl, rfl, rfl, rfl, rfl, rfl, rfl, trivial⟩⟩
  rintro m ρ O ⟨a, b, wb, wc, wl, u, rfl, ha, hb9, hul, hwl, hma, hmj, hle, hH⟩
  obtain ⟨ρ0, rfl⟩ := hH.elim
  clear hH
  refine T.seq (T.seq (T.region ?_))
  refine TO.quiet (q_move rfl) (TO.quiet (q_gtr rfl rfl) ?_)
  refine TO.nil ?_
  refine T.condP rfl (fun hc => ?_) (fun hc => ?_)
  · have hlt63 : m > 0 := by omega
    refine T.skip (T.block (T.seq ?_))
    obtain ⟨m1, rfl⟩ : ∃ m1, m = m1 + 1 := ⟨m - 1, by omega⟩
    obtain ⟨x0, hx0, hxd0⟩ := dif_letter hma (hmj m1 (by omega))
    obtain ⟨vb1, vc1, g1, s1⟩ := h.rows.get ha
    obtain ⟨vb2, vc2, g2, s2⟩ := h.rows.get hb9
    have hl1 : d.next[a].length = 2 ^ d.vars.toNat := hv.len _ (List.getElem_mem ha)
    have hl2 : d.next[b].length = 2 ^ d.vars.toNat := hv.len _ (List.getElem_mem hb9)
    refine T.region ?_
    refine TO.quiet (q_assign rfl) ?_
    refine TO.nil (T.seq (T.block ?_))
    refine T.loop (fun (x : Nat) ρ O => O = [rowI wb wc 5 1 (byts u), oI z1 25 [(.int .i64 d.vars), (.int .i64 d.start), (.slice nb d.next.length nc), (.slice fb d.final.length fc)]] ∧ x ≤ x0 ∧ (∀ y, y < x → dif d m1 (toN d a y) (toN d b y) = false) ∧ Heads [(0, (.agg #[(.int .i64 d.vars), (.int .i64 d.start), (.slice nb d.next.length nc), (.slice fb d.final.length fc)])), (1, .int .i64 (a : Int)), (2, .int .i64 (b : Int)), (3, (.pointer (some ⟨z1, 0, none⟩))), (6, (.slice none 0 0)), (7, .bool false), (8, .int .i64 0), (9, .int .i64 ((0 : Nat) : Int)), (10, .int .i64 ((m1 + 1 : Nat) : Int)), (11, (.slice wb wl wc)), (12, .int .i64 (x : Int))] ρ) (fun x => x0 - x) 0 ?_ ?_
    · exact ⟨rfl, Nat.zero_le _, fun y hy => absurd hy (by omega), ⟨rfl, rfl, rfl, rfl, rfl, rfl, rfl, rfl, rfl, rfl, rfl, trivial⟩⟩
    rintro x ρ O ⟨rfl, hx, hxj, hH⟩
    obtain ⟨ρ0, rfl⟩ := hH.elim
    clear hH
    have hlx : x < 2 ^ d.vars.toNat := by unfold letN at hx0; omega
    obtain ⟨hta, _, hxk1, hx1⟩ := hv.toN_lt ha hlx
    obtain ⟨htb, _, hxk2, hx2⟩ := hv.toN_lt hb9 hlx
    have hx1 : (ints d.next[a])[x]? = some (.int .i64 ((toN d a x : Nat) : Int)) := by rw [ints_get hxk1, hx1]
    have hx2 : (ints d.next[b])[x]? = some (.int .i64 ((toN d b x : Nat) : Int)) := by rw [ints_get hxk2, hx2]
    refine T.seq ?_
    refine T.cut (fun ρ O => O = [rowI wb wc 5 1 (byts u), oI z1 25 [(.int .i64 d.vars), (.int .i64 d.start), (.slice nb d.next.length nc), (.slice fb d.final.length fc)]] ∧ Heads [(0, (.agg #[(.int .i64 d.vars), (.int .i64 d.start), (.slice nb d.next.length nc), (.slice fb d.final.length fc)])), (1, .int .i64 (a : Int)), (2, .int .i64 (b : Int)), (3, (.pointer (some ⟨z1, 0, none⟩))), (6, (.slice none 0 0)), (7, .bool false), (8, .int .i64 0), (9, .int .i64 ((0 : Nat) : Int)), (10, .int .i64 ((m1 + 1 : Nat) : Int)), (11, (.slice wb wl wc)), (12, .int .i64 (x : Int)), (88, .bool (!(dif d m1 (toN d a x) (toN d b x))))] ρ) ?_ ?_
    · refine T.tree [oI z1 25 [(.int .i64 d.vars), (.int .i64 d.start), (.slice nb d.next.length nc), (.slice fb d.final.length fc)]] 25 mixed rfl (Sub.pick [1] rfl) (fun _ _ _ h => h) ?_
      refine RO.quietT 0 rfl (by kernel_rfl) (q_load_boxAgg 0 Tryd.underlying25 rfl inf25 rfl rfl rfl) ?_
      refine RO.quietT 1 rfl (by kernel_rfl) (q_move rfl) ?_
      refine RO.quietT 2 rfl (by kernel_rfl) (q_sub64 rfl rfl (by omega)) ?_
      refine RO.quietT 4 rfl (by kernel_rfl) (q_fieldAddr Tryd.underlying25 rfl inf22 rfl rfl) ?_
      refine RO.quietT 5 rfl (by kernel_rfl) (q_load_box 0 Tryd.underlying22 rfl rfl rfl rfl) ?_
      refine RO.quietT 6 rfl (by kernel_rfl) (q_move rfl) ?_
      refine RO.quietT 7 rfl (by kernel_rfl) (q_ix (i := a) Tryd.underlying22 inf52 rfl rfl (Sl.o h.outer) ha (hvl ▸ ha)) ?_
      refine RO.quietT 8 rfl (by kernel_rfl) (q_ld Tryd.underlying52 rfl rfl (Sl.o h.outer) g1) ?_
      refine RO.quietT 9 rfl (by kernel_rfl) (q_move rfl) ?_
      refine RO.quietT 10 rfl (by kernel_rfl) (q_ix (i := x) Tryd.underlying52 inf3 rfl rfl (Sl.o s1) (by rw [hl1]; exact hlx) (by rw [List.length_map, hl1]; exact hlx)) ?_
      refine RO.quietT 11 rfl (by kernel_rfl) (q_ld Tryd.underlying3 rfl rfl (Sl.o s1) hx1) ?_
      refine RO.quietT 14 rfl (by kernel_rfl) (q_fieldAddr Tryd.underlying25 rfl inf22 rfl rfl) ?_
      refine RO.quietT 15 rfl (by kernel_rfl) (q_load_box 0 Tryd.underlying22 rfl rfl rfl rfl) ?_
      refine RO.quietT 16 rfl (by kernel_rfl) (q_move rfl) ?_
      refine RO.quietT 17 rfl (by kernel_rfl) (q_ix (i := b) Tryd.underlying22 inf52 rfl rfl (Sl.o h.outer) hb9 (hvl ▸ hb9)) ?_
      refine RO.quietT 18 rfl (by kernel_rfl) (q_ld Tryd.underlying52 rfl rfl (Sl.o h.outer) g2) ?_
      refine RO.quietT 19 rfl (by kernel_rfl) (q_move rfl) ?_
      refine RO.quietT 20 rfl (by kernel_rfl) (q_ix (i := x) Tryd.underlying52 inf3 rfl rfl (Sl.o s2) (by rw [hl2]; exact hlx) (by rw [List.length_map, hl2]; exact hlx)) ?_
      refine RO.quietT 21 rfl (by kernel_rfl) (q_ld Tryd.underlying3 rfl rfl (Sl.o s2) hx2) ?_
      have hk67 := fun (w1 : World) (hI : Inv w [rowI wb wc 5 1 (byts u), oI z1 25 [(.int .i64 d.vars), (.int .i64 d.start), (.slice nb d.next.length nc), (.slice fb d.final.length fc)]] w1) => differC w1 d nb fb nc fc vs (hI.dfa h) hv hn (((m1 + 1 : Nat) : Int) - 1)
      refine RO.fork [3] (by kernel_rfl) rfl ⟨⟨_, rfl, rfl, l_call ent83 (CallT.of_pure hk67) rfl ?_⟩, trivial⟩
      clear hk67
      rintro v O' ⟨N, rfl, mb, mc, qs, rfl, rfl, hM⟩
      rw [show min (((m1 + 1 : Nat) : Int) - 1).toNat d.next.length = m1 by omega] at hM
      obtain ⟨qc, mc9, gc, lc, ec⟩ := hM.get hta
      refine ⟨Sub.cnt ([rowI mb mc 23 1 (bvals qs), rowI wb wc 5 1 (byts u)] ++ (bitms 4 qs)) (by intro a; simp only [itms, oI, List.set_cons_zero, List.set_cons_succ, putL, List.cons_append, List.nil_append, List.append_nil, List.append_assoc, List.map_append, List.map_cons, List.map_nil, cnt_append, cnt_cons, cnt_nil] <;> omega), ?_⟩
      refine RO.sub (O' := ([rowI mb mc 23 1 (bvals qs), rowI wb wc 5 1 (byts u), oI z1 25 [(.int .i64 d.vars), (.int .i64 d.start), (.slice nb d.next.length nc), (.slice fb d.final.length fc)]] ++ (bitms 4 qs))) (Sub.cnt [] (by intro a; simp only [itms, oI, List.set_cons_zero, List.set_cons_succ, putL, List.cons_append, List.nil_append, List.append_nil, List.append_assoc, List.map_append, List.map_cons, List.map_nil, cnt_append, cnt_cons, cnt_nil] <;> omega)) ?_
      refine RO.fork [12] (by kernel_rfl) rfl ⟨⟨_, rfl, rfl, LT.of_quiet rfl rfl (q_ix (i := (toN d a x)) Tryd.underlying115 inf23 rfl rfl (rowO (List.mem_of_getElem? (i := 0) rfl)) hta (by rw [List.length_map, hM.len]; exact hta)) ⟨Sub.pick0 [2] [rowI mb mc 23 1 (bvals qs), rowI wb wc 5 1 (byts u), oI z1 25 [(.int .i64 d.vars), (.int .i64 d.start), (.slice nb d.next.length nc), (.slice fb d.final.length fc)]] (bitms 4 qs) rfl rfl, ?_⟩⟩, trivial⟩
      refine RO.fork [13] (by kernel_rfl) rfl ⟨⟨_, rfl, rfl, LT.of_quiet rfl rfl (q_ld Tryd.underlying23 rfl rfl (rowO (List.mem_of_getElem? (i := 0) rfl)) gc) ⟨Sub.pick0 [2] [rowI mb mc 23 1 (bvals qs), rowI wb wc 5 1 (byts u), oI z1 25 [(.int .i64 d.vars), (.int .i64 d.start), (.slice nb d.next.length nc), (.slice fb d.final.length fc)]] (bitms 4 qs) rfl rfl, ?_⟩⟩, trivial⟩
      refine RO.fork [22] (by kernel_rfl) rfl ⟨⟨_, rfl, rfl, LT.of_quiet rfl rfl (q_ix (i := (toN d b x)) Tryd.underlying23 inf4 rfl rfl (fun w hI => hI.slOf (T := 4) (k := 1) (List.mem_append_right _ (List.mem_map_of_mem (f := BRec.itm 4) mc9))) htb (lc ▸ htb)) ⟨Sub.pick0 [2] [rowI mb mc 23 1 (bvals qs), rowI wb wc 5 1 (byts u), oI z1 25 [(.int .i64 d.vars), (.int .i64 d.start), (.slice nb d.next.length nc), (.slice fb d.final.length fc)]] (bitms 4 qs) rfl rfl, ?_⟩⟩, trivial⟩
      refine RO.fork [23] (by kernel_rfl) rfl ⟨⟨_, rfl, rfl, LT.of_quiet rfl rfl (q_ld Tryd.underlying4 rfl rfl (fun w hI => hI.slOf (T := 4) (k := 1) (List.mem_append_right _ (List.mem_map_of_mem (f := BRec.itm 4) mc9))) (ec _ htb)) ⟨Sub.pick0 [2] [rowI mb mc 23 1 (bvals qs), rowI wb wc 5 1 (byts u), oI z1 25 [(.int .i64 d.vars), (.int .i64 d.start), (.slice nb d.next.length nc), (.slice fb d.final.length fc)]] (bitms 4 qs) rfl rfl, ?_⟩⟩, trivial⟩
      refine RO.fork [24] (by kernel_rfl) rfl ⟨⟨_, rfl, rfl, LT.of_quiet rfl rfl (q_not rfl) ⟨Sub.pick0 [2] [rowI mb mc 23 1 (bvals qs), rowI wb wc 5 1 (byts u), oI z1 25 [(.int .i64 d.vars), (.int .i64 d.start), (.slice nb d.next.length nc), (.slice fb d.final.length fc)]] (bitms 4 qs) rfl rfl, ?_⟩⟩, trivial⟩
      exact RO.fin (by kernel_rfl) ⟨rfl, ⟨rfl, rfl, rfl, rfl, rfl, rfl, rfl, rfl, rfl, rfl, rfl, rfl, trivial⟩⟩ (Sub.cnt ([rowI mb mc 23 1 (bvals qs)] ++ bitms 4 qs) (by intro a; simp only [itms, oI, List.set_cons_zero, List.set_cons_succ, putL, List.cons_append, List.nil_append, List.append_nil, List.append_assoc, List.map_append, List.map_cons, List.map_nil, cnt_append, cnt_cons, cnt_nil] <;> omega))
    rintro ρ O ⟨rfl, hH⟩
    obtain ⟨ρ0, rfl⟩ := hH.elim
    clear hH
    refine T.cond rfl (fun hc => ?_) (fun hc => ?_)
    · have hxd : dif d m1 (toN d a x) (toN d b x) = false := by simpa using hc
      have hxn : x ≠ x0 := fun e => by subst e; rw [hxd0] at hxd; cases hxd
      refine T.skip (T.block (T.region ?_))
      refine TO.quiet (q_move rfl) (TO.quiet (q_inc rfl rfl (by omega)) (TO.quiet (q_assign rfl) ?_))
      refine TO.nil ?_
      refine ⟨x + 1, by omega, rfl, by omega, fun y hy => ?_, ⟨rfl, rfl, rfl, rfl, rfl, rfl, rfl, rfl, rfl, rfl, rfl, trivial⟩⟩
      by_cases e : y = x
      · subst e; exact hxd
      · exact hxj y (by omega)
    have hxd : dif d m1 (toN d a x) (toN d b x) = true := by simpa using hc
    refine T.exit ?_
    refine T.seq (T.region ?_)
    refine TO.quiet (q_move rfl) (TO.quiet (q_move rfl) (TO.quiet (q_conv_id Tryd.underlying3 Tryd.underlying5 rfl (wrap8 (by omega))) ?_))
    refine TO.loud rfl (l_build1 (v := .int .u8 (x : Int)) Tryd.underlying35 inf5 rfl rfl rfl (fun z5 => ?_))
    refine TO.loud rfl (l_append 1 Tryd.underlying35 Tryd.underlying35 inf5 rfl rfl rfl rfl (by rw [List.length_map, Nat.mul_one]; exact hwl.symm) (by decide) (Src.row (j := 0) rfl (by simp)) (by simp [oneB]) (by omega) (by decide) (by decide) (fun z6 zc7 => ?_))
    refine TO.quiet (q_assign rfl) ?_
    refine TO.nil (T.seq ?_)
    refine T.draws _ [(0, 0), (1, 0), (2, 0), (3, 0), (4, 0), (5, 0), (6, 0), (7, 0), (8, 0), (9, 0), (10, 0), (11, 0), (12, 0), (13, 0), (14, 0), (15, 0), (16, 0), (17, 0)] mixed (by kernel_rfl) (Sub.of (List.Sublist.refl _)) (fun _ _ _ h => h) ?_
    refine DO.quiet rfl (q_fieldAddr Tryd.underlying25 rfl inf22 rfl rfl) (DO.quiet rfl (q_load_box 2 Tryd.underlying22 rfl rfl rfl rfl) (DO.quiet rfl (q_move rfl) (DO.quiet rfl (q_ix (i := a) Tryd.underlying22 inf52 rfl rfl (Sl.o h.outer) ha (hvl ▸ ha)) ?_)))
    refine DO.quiet rfl (q_ld Tryd.underlying52 rfl rfl (Sl.o h.outer) g1) (DO.quiet rfl (q_move rfl) (DO.quiet rfl (q_ix (i := x) Tryd.underlying52 inf3 rfl rfl (Sl.o s1) (by rw [hl1]; exact hlx) (by rw [List.length_map, hl1]; exact hlx)) (DO.quiet rfl (q_ld Tryd.underlying3 rfl rfl (Sl.o s1) hx1) ?_)))
    refine DO.quiet rfl (q_fieldAddr Tryd.underlying25 rfl inf22 rfl rfl) (DO.quiet rfl (q_load_box 2 Tryd.underlying22 rfl rfl rfl rfl) (DO.quiet rfl (q_move rfl) (DO.quiet rfl (q_ix (i := b) Tryd.underlying22 inf52 rfl rfl (Sl.o h.outer) hb9 (hvl ▸ hb9)) ?_)))
    refine DO.quiet rfl (q_ld Tryd.underlying52 rfl rfl (Sl.o h.outer) g2) (DO.quiet rfl (q_move rfl) (DO.quiet rfl (q_ix (i := x) Tryd.underlying52 inf3 rfl rfl (Sl.o s2) (by rw [hl2]; exact hlx) (by rw [List.length_map, hl2]; exact hlx)) (DO.quiet rfl (q_ld Tryd.underlying3 rfl rfl (Sl.o s2) hx2) ?_)))
    refine DO.quiet rfl (q_assign rfl) (DO.quiet rfl (q_assign rfl) ?_)
    refine DO.done ?_
    refine T.region ?_
    refine TO.quiet (q_move rfl) (TO.quiet (QT.cast (q_sub64 rfl rfl (by omega)) (v' := .int .i64 (m1 : Int)) (by rw [show ((m1 + 1 : Nat) : Int) - 1 = (m1 : Int) by omega])) (TO.quiet (q_assign rfl) ?_))
    refine TO.sub (O' := [rowI z6 zc7 5 1 ((byts u) ++ [.int .u8 (x : Int)]), oI z1 25 [(.int .i64 d.vars), (.int .i64 d.start), (.slice nb d.next.length nc), (.slice fb d.final.length fc)]]) (Sub.pick [1, 1] rfl) ?_
    refine TO.nil ?_
    exact ⟨m1, by omega, toN d a x, toN d b x, z6, zc7, wl + 1, u ++ [x], by simp, hta, htb, by omega, by simp [hwl], hxd, dif_no_prev hv hmj hlx, fun v h9 => by rw [List.append_assoc]; exact hle _ (least_cons hv hmj hlx hxd hxj h9), ⟨rfl, rfl, rfl, rfl, rfl, rfl, rfl, rfl, rfl, rfl, trivial⟩⟩
  have hge63 : ¬ m > 0 := by omega
  refine T.exit ?_
  refine T.seq (T.region ?_)
  refine TO.quiet (q_move rfl) (TO.quiet (q_assign rfl) (TO.quiet (q_assign rfl) (TO.quiet (q_assign rfl) ?_)))
  refine TO.nil (T.ret (Res.drop ?_))
  refine Res.three (.slice wb wl wc) (.bool true) (.int .i64 0) Tryd.results63 rfl rfl rfl ?_
  have hm0 : m = 0 := by omega
  rw [hm0] at hma
  exact ⟨[rowI wb wc 5 1 (byts u)], (Sub.pick [0] rfl), some u, by have := hle [] (least_nil hma); rwa [List.append_nil] at this, wb, wc, by rw [hwl], rfl⟩
end Go.Proofs.YtdaapdamcekkgaaDoor

namespace Go.Proofs.YtdaapdamcekkgaaDoor
open Go.Lx Go.RowKit
set_option linter.unusedVariables false
set_option linter.unusedSimpArgs false
theorem roundsA (w : World) (d : DFA) (nb fb : Option Addr) (nc fc : Nat) (vs : List Value) (h : DfaAt w d nb vs fb) (hb : d.next.length < 9223372036854775807) (hbr : ∀ r ∈ d.next, r.length < 9223372036854775807) (hbf : d.final.length < 9223372036854775807) (hn : Valid d → d.next.length < 100) (k : Int) (hk9 : k ≤ 9223372036854775807) :
    PureT Tryd.prog 77 [.agg (dfaCells d nb nc fb fc).toArray, .int .i64 k] w fun v N => ∃ b c, v = .tuple #[.slice b (rndsV d k).length c, .int .i64 (checkD d : Int)] ∧ N = [rowI b c 3 1 (nats (rndsV d k))] := by
  unfold rndsV
  by_cases he : checkD d = 0
  · have hv := checkD_zero.1 he
    rw [he, if_pos rfl, itF_length]
    exact roundsOk w d nb fb nc fc vs h hv (hn hv) k hk9
  · rw [if_neg he]
    refine (CallT.addNil 3 1 (roundsBad w d nb fb nc fc vs h hb hbr hbf he k)).mono ?_
    rintro v N ⟨O2, rfl, rfl, rfl⟩
    exact ⟨none, 0, rfl, rfl⟩
theorem rRoundsA (w : World) (d : DFA) (nb fb : Option Addr) (nc fc : Nat) (vs : List Value) (h : DfaAt w d nb vs fb) (hb : d.next.length < 9223372036854775807) (hbr : ∀ r ∈ d.next, r.length < 9223372036854775807) (hbf : d.final.length < 9223372036854775807) (hn : Valid d → d.next.length < 100) (k : Int) (hk9 : k ≤ 9223372036854775807) :
    PureT Tryd.prog 84 [.agg (dfaCells d nb nc fb fc).toArray, .int .i64 k] w fun v N => ∃ b c, v = .tuple #[.slice b (rndsV d k).length c, .int .i64 (checkD d : Int)] ∧ N = [rowI b c 3 1 (nats (rndsV d k))] := by
  unfold rndsV
  by_cases he : checkD d = 0
  · have hv := checkD_zero.1 he
    rw [he, if_pos rfl, itF_length]
    exact rRoundsOk w d nb fb nc fc vs h hv (hn hv) k
  · rw [if_neg he]
    refine (CallT.addNil 3 1 (rRoundsBad w d nb fb nc fc vs h hb hbr hbf he k)).mono ?_
    rintro v N ⟨O2, rfl, rfl, rfl⟩
    exact ⟨none, 0, rfl, rfl⟩
theorem classesA (w : World) (d : DFA) (nb fb : Option Addr) (nc fc : Nat) (vs : List Value) (h : DfaAt w d nb vs fb) (hb : d.next.length < 9223372036854775807) (hbr : ∀ r ∈ d.next, r.length < 9223372036854775807) (hbf : d.final.length < 9223372036854775807) (hn : Valid d → d.next.length < 100) :
    PureT Tryd.prog 53 [.agg (dfaCells d nb nc fb fc).toArray] w fun v N => ∃ b c, v = .tuple #[.slice b (rndsV d d.next.length).length c, .int .i64 (checkD d : Int)] ∧ N = [rowI b c 3 1 (nats (rndsV d d.next.length))] := by
  unfold rndsV
  by_cases he : checkD d = 0
  · have hv := checkD_zero.1 he
    rw [he, if_pos rfl, itF_length]
    exact classesOk w d nb fb nc fc vs h hv (hn hv)
  · rw [if_neg he]
    refine (CallT.addNil 3 1 (classesBad w d nb fb nc fc vs h hb hbr hbf he)).mono ?_
    rintro v N ⟨O2, rfl, rfl, rfl⟩
    exact ⟨none, 0, rfl, rfl⟩
theorem rClassesA (w : World) (d : DFA) (nb fb : Option Addr) (nc fc : Nat) (vs : List Value) (h : DfaAt w d nb vs fb) (hb : d.next.length < 9223372036854775807) (hbr : ∀ r ∈ d.next, r.length < 9223372036854775807) (hbf : d.final.length < 9223372036854775807) (hn : Valid d → d.next.length < 100) :
    PureT Tryd.prog 67 [.agg (dfaCells d nb nc fb fc).toArray] w fun v N => ∃ b c, v = .tuple #[.slice b (rndsV d d.next.length).length c, .int .i64 (checkD d : Int)] ∧ N = [rowI b c 3 1 (nats (rndsV d d.next.length))] := by
  unfold rndsV
  by_cases he : checkD d = 0
  · have hv := checkD_zero.1 he
    rw [he, if_pos rfl, itF_length]
    exact rClassesOk w d nb fb nc fc vs h hv (hn hv)
  · rw [if_neg he]
    refine (CallT.addNil 3 1 (rClassesBad w d nb fb nc fc vs h hb hbr hbf he)).mono ?_
    rintro v N ⟨O2, rfl, rfl, rfl⟩
    exact ⟨none, 0, rfl, rfl⟩
theorem minA (w : World) (d : DFA) (nb fb : Option Addr) (nc fc : Nat) (vs : List Value) (h : DfaAt w d nb vs fb) (hb : d.next.length < 9223372036854775807) (hbr : ∀ r ∈ d.next, r.length < 9223372036854775807) (hbf : d.final.length < 9223372036854775807) (hn : Valid d → d.next.length < 100) :
    PureT Tryd.prog 21 [.agg (dfaCells d nb nc fb fc).toArray] w fun v N => ∃ nb' nc' fb' fc' qs, v = .tuple #[.agg (dfaCells (minV d) nb' nc' fb' fc').toArray, .int .i64 (checkD d : Int)] ∧ N = [rowI nb' nc' 52 1 (vals qs), rowI fb' fc' 4 1 (bools (minV d).final)] ++ itms 3 qs ∧ nums qs = (minV d).next := by
  unfold minV
  by_cases he : checkD d = 0
  · have hv := checkD_zero.1 he
    obtain ⟨q1, q2⟩ := quo_itF hv d.next.length
    rw [he, if_pos rfl]
    exact minOk w d nb fb nc fc vs h hv (hn hv) q1 (by have := hn hv; omega)
  · rw [if_neg he]
    refine (CallT.addNil 52 1 (CallT.addNil 4 1 (minBad w d nb fb nc fc vs h hb hbr hbf he))).mono ?_
    rintro v N ⟨O2, rfl, O3, rfl, rfl, rfl⟩
    exact ⟨none, 0, none, 0, [], rfl, rfl, rfl⟩
theorem rMinA (w : World) (d : DFA) (nb fb : Option Addr) (nc fc : Nat) (vs : List Value) (h : DfaAt w d nb vs fb) (hb : d.next.length < 9223372036854775807) (hbr : ∀ r ∈ d.next, r.length < 9223372036854775807) (hbf : d.final.length < 9223372036854775807) (hn : Valid d → d.next.length < 100) :
    PureT Tryd.prog 42 [.agg (dfaCells d nb nc fb fc).toArray] w fun v N => ∃ nb' nc' fb' fc' qs, v = .tuple #[.agg (dfaCells (minV d) nb' nc' fb' fc').toArray, .int .i64 (checkD d : Int)] ∧ N = [rowI nb' nc' 52 1 (vals qs), rowI fb' fc' 4 1 (bools (minV d).final)] ++ itms 3 qs ∧ nums qs = (minV d).next := by
  unfold minV
  by_cases he : checkD d = 0
  · have hv := checkD_zero.1 he
    obtain ⟨q1, q2⟩ := quo_itF hv d.next.length
    rw [he, if_pos rfl]
    exact rMinOk w d nb fb nc fc vs h hv (hn hv) q1 (by have := hn hv; omega)
  · rw [if_neg he]
    refine (CallT.addNil 52 1 (CallT.addNil 4 1 (rMinBad w d nb fb nc fc vs h hb hbr hbf he))).mono ?_
    rintro v N ⟨O2, rfl, O3, rfl, rfl, rfl⟩
    exact ⟨none, 0, none, 0, [], rfl, rfl, rfl⟩
theorem distA (w : World) (d : DFA) (nb fb : Option Addr) (nc fc : Nat) (vs : List Value) (h : DfaAt w d nb vs fb) (hb : d.next.length < 9223372036854775807) (hbr : ∀ r ∈ d.next, r.length < 9223372036854775807) (hbf : d.final.length < 9223372036854775807) (hn : Valid d → d.next.length < 100) (s t : Int) :
    PureT Tryd.prog 61 [.agg (dfaCells d nb nc fb fc).toArray, .int .i64 s, .int .i64 t] w fun v N => DistV 5 d s t v N := by
  by_cases he : checkD d = 0
  · have hv := checkD_zero.1 he
    by_cases hst : s < 0 ∨ t < 0 ∨ (d.next.length : Int) ≤ s ∨ (d.next.length : Int) ≤ t
    · have e8 : eD d s t = 8 := by unfold eD; rw [if_neg (by simp [he]), if_pos hst]
      refine (CallT.addNil 5 1 (distOut w d nb fb nc fc vs h hv s t hst)).mono ?_
      rintro v N ⟨O2, rfl, rfl, rfl⟩
      exact ⟨none, none, 0, by unfold TellA; rw [if_neg (by rw [e8]; decide)], by rw [e8]; rfl, rfl⟩
    · have e0 : eD d s t = 0 := by unfold eD; rw [if_neg (by simp [he]), if_neg hst]
      have hs : s = ((s.toNat : Nat) : Int) := by omega
      have ht : t = ((t.toNat : Nat) : Int) := by omega
      have h1 := distOk w d nb fb nc fc vs h hv (hn hv) s.toNat t.toNat (by omega) (by omega)
      rw [← hs, ← ht] at h1
      refine (CallT.nilOr 5 1 h1).mono ?_
      rintro v N ⟨O2, hN, res, hT, hV⟩
      have hTA : TellA d s t res := by unfold TellA; rw [if_pos e0]; exact hT
      cases res with
      | none =>
        obtain ⟨rfl, rfl⟩ := hV
        exact ⟨none, none, 0, hTA, by rw [e0]; rfl, hN.2 rfl⟩
      | some u =>
        obtain ⟨b, c, rfl, rfl⟩ := hV
        exact ⟨some u, b, c, hTA, by rw [e0]; rfl, hN.1 (by simp)⟩
  · have e1 : eD d s t = checkD d := by unfold eD; rw [if_pos he]
    refine (CallT.addNil 5 1 (distBad w d nb fb nc fc vs h hb hbr hbf he s t)).mono ?_
    rintro v N ⟨O2, rfl, rfl, rfl⟩
    exact ⟨none, none, 0, by unfold TellA; rw [if_neg (by rw [e1]; exact he)], by rw [e1]; rfl, rfl⟩
theorem rDistA (w : World) (d : DFA) (nb fb : Option Addr) (nc fc : Nat) (vs : List Value) (h : DfaAt w d nb vs fb) (hb : d.next.length < 9223372036854775807) (hbr : ∀ r ∈ d.next, r.length < 9223372036854775807) (hbf : d.final.length < 9223372036854775807) (hn : Valid d → d.next.length < 100) (s t : Int) :
    PureT Tryd.prog 63 [.agg (dfaCells d nb nc fb fc).toArray, .int .i64 s, .int .i64 t] w fun v N => DistV 5 d s t v N := by
  by_cases he : checkD d = 0
  · have hv := checkD_zero.1 he
    by_cases hst : s < 0 ∨ t < 0 ∨ (d.next.length : Int) ≤ s ∨ (d.next.length : Int) ≤ t
    · have e8 : eD d s t = 8 := by unfold eD; rw [if_neg (by simp [he]), if_pos hst]
      refine (CallT.addNil 5 1 (rDistOut w d nb fb nc fc vs h hv s t hst)).mono ?_
      rintro v N ⟨O2, rfl, rfl, rfl⟩
      exact ⟨none, none, 0, by unfold TellA; rw [if_neg (by rw [e8]; decide)], by rw [e8]; rfl, rfl⟩
    · have e0 : eD d s t = 0 := by unfold eD; rw [if_neg (by simp [he]), if_neg hst]
      have hs : s = ((s.toNat : Nat) : Int) := by omega
      have ht : t = ((t.toNat : Nat) : Int) := by omega
      have h1 := rDistOk w d nb fb nc fc vs h hv (hn hv) s.toNat t.toNat (by omega) (by omega)
      rw [← hs, ← ht] at h1
      refine (CallT.nilOr 5 1 h1).mono ?_
      rintro v N ⟨O2, hN, res, hT, hV⟩
      have hTA : TellA d s t res := by unfold TellA; rw [if_pos e0]; exact hT
      cases res with
      | none =>
        obtain ⟨rfl, rfl⟩ := hV
        exact ⟨none, none, 0, hTA, by rw [e0]; rfl, hN.2 rfl⟩
      | some u =>
        obtain ⟨b, c, rfl, rfl⟩ := hV
        exact ⟨some u, b, c, hTA, by rw [e0]; rfl, hN.1 (by simp)⟩
  · have e1 : eD d s t = checkD d := by unfold eD; rw [if_pos he]
    refine (CallT.addNil 5 1 (rDistBad w d nb fb nc fc vs h hb hbr hbf he s t)).mono ?_
    rintro v N ⟨O2, rfl, rfl, rfl⟩
    exact ⟨none, none, 0, by unfold TellA; rw [if_neg (by rw [e1]; exact he)], by rw [e1]; rfl, rfl⟩
end Go.Proofs.YtdaapdamcekkgaaDoor

namespace Go.Lx
open Go.RowKit
set_option linter.unusedVariables false
structure DRec where
  d : DFA
  nb : Option Addr
  fb : Option Addr
  nc : Nat
  fc : Nat
  vs : List Value
def DRec.cells (r : DRec) : List Value := dfaCells r.d r.nb r.nc r.fb r.fc
abbrev dcells (L : List DRec) : List Value := L.flatMap DRec.cells
theorem dcells_len : ∀ L : List DRec, (dcells L).length = L.length * 4
  | [] => rfl
  | q :: rs => by
    have := dcells_len rs
    simp only [dcells] at this
    simp only [dcells, List.flatMap_cons, List.length_append, this, List.length_cons, DRec.cells, List.length_nil]
    omega
theorem dcells_get : ∀ {L : List DRec} {i : Nat} (h : i < L.length) {j : Nat}, j < 4 → (dcells L)[i * 4 + j]? = (L[i].cells)[j]?
  | q :: rs, 0, h, j, hj => by
    simp only [dcells, List.flatMap_cons]
    rw [List.getElem?_append_left (by simp [DRec.cells]; omega)]
    simp
  | q :: rs, i + 1, h, j, hj => by
    have ih := dcells_get (L := rs) (i := i) (by simpa using h) hj
    simp only [dcells, List.flatMap_cons]
    rw [List.getElem?_append_right (by simp [DRec.cells]; omega)]
    simp only [dcells] at ih
    rw [show (i + 1) * 4 + j - q.cells.length = i * 4 + j by simp [DRec.cells]; omega, ih]
    simp
def longD (d : DFA) : Bool := decide (40 < d.next.length) || decide (40 < d.final.length) || d.next.any fun r => decide (100 < r.length)
theorem longD_false {d : DFA} (h : ¬ longD d = true) : d.next.length ≤ 40 ∧ d.final.length ≤ 40 ∧ ∀ r ∈ d.next, r.length ≤ 100 := by
  simp only [longD, Bool.or_eq_true, decide_eq_true_eq, List.any_eq_true, not_or, not_exists, not_and] at h
  obtain ⟨⟨h1, h2⟩, h3⟩ := h
  exact ⟨by omega, by omega, fun r hr => by have := h3 r hr; omega⟩
theorem any_take {α : Type} {L : List α} {f : α → Bool} {i : Nat} (hi : i < L.length) (h : (L.take i).any f = false) (h2 : f L[i] = false) : (L.take (i + 1)).any f = false := by
  rw [List.take_succ_eq_append_getElem hi, List.any_append, h]; simp [h2]
theorem any_at {α : Type} {L : List α} {f : α → Bool} {i : Nat} (hi : i < L.length) (h : f L[i] = true) : L.any f = true :=
  List.any_eq_true.2 ⟨_, List.getElem_mem hi, h⟩
theorem minV_bound (d : DFA) : (minV d).next.length ≤ d.next.length ∧ (minV d).final.length ≤ d.next.length ∧ ∀ r ∈ (minV d).next, r.length ≤ 64 := by
  unfold minV
  by_cases he : checkD d = 0
  · rw [if_pos he]
    have hv := checkD_zero.1 he
    obtain ⟨q1, q2⟩ := quo_itF hv d.next.length
    have ho := order_len q1
    refine ⟨?_, ?_, ?_⟩
    · unfold minD; simp only [renum, List.length_map]; omega
    · unfold minD; simp only [renum, List.length_map]; omega
    · intro r hr
      unfold minD at hr
      rw [renum_next] at hr
      obtain ⟨o, _, rfl⟩ := List.mem_map.1 hr
      rw [List.length_map, renRow_length]
      exact hv.width
  · rw [if_neg he]; exact ⟨Nat.zero_le _, Nat.zero_le _, fun r hr => by cases hr⟩
def oneM : DFA := ⟨1, 0, [[0, 1], [1, 1]], [true, false]⟩
def eqvV (d : DFA) (s t : Int) (res : Option (List Nat)) : Bool := decide (eD d s t = 0) && !res.isSome
end Go.Lx
namespace Go.Lx
theorem castL : ∀ {xs ys : List Nat}, (xs.map fun x : Nat => (x : Int)) = (ys.map fun x : Nat => (x : Int)) → xs = ys
  | [], [], _ => rfl
  | [], _ :: _, h => by simp at h
  | _ :: _, [], h => by simp at h
  | x :: xs, y :: ys, h => by
    simp only [List.map_cons, List.cons.injEq] at h
    have h1 : x = y := by omega
    rw [h1, castL h.2]
end Go.Lx
namespace Go.Lx
theorem Tell.len {d : DFA} (hv : Valid d) {s t : Nat} (hs : s < d.next.length) (ht : t < d.next.length) {u : List Nat} (h : Tell d s t (some u)) : u.length ≤ d.next.length := by
  have h : IsLeast d s t u := h
  by_cases hd : ∀ j, j ≤ d.next.length → dif d j s t = false
  · exact absurd h.dst (tell_none hv hs ht hd u h.wd)
  · obtain ⟨j, hj⟩ := Classical.not_forall.1 hd
    simp only [Classical.not_imp, Bool.not_eq_false] at hj
    obtain ⟨w, h1, h2, h3⟩ := (dif_iff d j s t).1 hj.2
    have := code_len u w (hv.wd64 h.wd) (hv.wd64 h1) (h.le w h1 h3)
    omega
theorem TellA.len {d : DFA} (hN : Valid d → d.next.length < 100) {s t : Int} {res : Option (List Nat)} (h : TellA d s t res) : (res.getD []).length < 9223372036854775807 := by
  unfold TellA at h
  by_cases h0 : eD d s t = 0
  · rw [if_pos h0] at h
    obtain ⟨hv, h1, h2, h3, h4⟩ := eD_zero.1 h0
    cases res with
    | none => exact (by decide : 0 < 9223372036854775807)
    | some u =>
      have := Tell.len hv (by omega) (by omega) h
      have := hN hv
      show u.length < _
      omega
  · rw [if_neg h0] at h
    subst h
    exact (by decide : 0 < 9223372036854775807)
end Go.Lx

namespace Go.Lx
set_option linter.unusedVariables false
def clsOf (d : DFA) (s : Nat) : Nat := (itF d d.next.length).getD s 0
theorem clsOf_iff {d : DFA} (hv : Valid d) {s t : Nat} (hs : s < d.next.length) (ht : t < d.next.length) : clsOf d s = clsOf d t ↔ ∀ u, Wd d u → ¬ dst d s t u := cls_iff hv hs ht
theorem clsOf_fin {d : DFA} (hv : Valid d) {s t : Nat} (hs : s < d.next.length) (ht : t < d.next.length) (h : clsOf d s = clsOf d t) : finN d s = finN d t := by
  have := (clsOf_iff hv hs ht).1 h [] (fun x hx => by cases hx)
  exact Classical.not_not.1 this
theorem clsOf_next {d : DFA} (hv : Valid d) {s t x : Nat} (hs : s < d.next.length) (ht : t < d.next.length) (hx : x < letN d) (h : clsOf d s = clsOf d t) : clsOf d (toN d s x) = clsOf d (toN d t x) := by
  rw [clsOf_iff hv (toN_get hv hs hx) (toN_get hv ht hx)]
  intro u hu hd
  exact (clsOf_iff hv hs ht).1 h (x :: u) (fun y hy => by rcases List.mem_cons.1 hy with rfl | hy; exact hx; exact hu y hy) hd
theorem quoN_at {d : DFA} {cs : List Nat} (hl : cs.length = d.next.length) (hc : nrm cs = cs) : ∀ k, k ≤ d.next.length → ∀ c, c < (quoN d cs k).1.length → ∃ s, s < k ∧ cs.getD s 0 = c ∧ (quoN d cs k).1[c]? = some ((rowK cs (d.next.getD s [])).map fun c : Nat => (c : Int)) ∧ (quoN d cs k).2[c]? = some (finN d s)
  | 0, _, c, h => by simp [quoN] at h
  | k + 1, hk, c, h => by
    have ih := quoN_at hl hc k (by omega)
    have hlen := quoN_len d cs k
    by_cases hn : cs.getD k 0 < (quoN d cs k).1.length
    · rw [quoN, if_pos hn] at h ⊢
      obtain ⟨s, h1, h2⟩ := ih c h
      exact ⟨s, by omega, h2⟩
    · rw [quoN, if_neg hn] at h ⊢
      by_cases hcl : c < (quoN d cs k).1.length
      · obtain ⟨s, h1, h2, h3, h4⟩ := ih c hcl
        exact ⟨s, by omega, h2, by rw [List.getElem?_append_left hcl]; exact h3, by rw [List.getElem?_append_left (by omega)]; exact h4⟩
      · have hce : c = (quoN d cs k).1.length := by simp at h; omega
        refine ⟨k, by omega, ?_, ?_, ?_⟩
        · have h1 := quoN_cls (l := cs) hl hc.symm k (by omega)
          have h2 := quoN_cls (l := cs) hl hc.symm (k + 1) hk
          have hkl : k < cs.length := by omega
          have hg := List.getElem?_eq_getElem hkl
          have hck : cs.getD k 0 = ix cs[k] (dd cs) := by
            have := nrm_get hg
            rw [hc] at this
            rw [List.getD_eq_getElem?_getD, this]; rfl
          have hp2 : dd (cs.take (k + 1)) <+: dd cs := by
            conv => rhs; rw [← List.take_append_drop (k + 1) cs]
            rw [dd_append]; exact foldl_prefix _ _
          have hm : cs[k] ∈ dd (cs.take (k + 1)) := mem_dd.2 (by rw [List.take_succ_eq_append_getElem hkl]; exact List.mem_append_right _ (List.mem_singleton.2 rfl))
          have hlt := ix_lt hm
          rw [hck, ix_prefix hp2 hm]
          rw [hck, ix_prefix hp2 hm] at hn
          rw [quoN, if_neg (by rw [hck, ix_prefix hp2 hm]; exact hn)] at h2
          simp at h2
          omega
        · rw [hce, List.getElem?_append_right (Nat.le_refl _)]; simp
        · rw [hce, hlen.1, List.getElem?_append_right (Nat.le_refl _)]; simp [finN]
def quoD (d : DFA) : DFA := quo d (itF d d.next.length)
theorem quoD_valid {d : DFA} (hv : Valid d) : Valid (quoD d) := (quo_itF hv d.next.length).1
theorem cls_lt {d : DFA} (hv : Valid d) {s : Nat} (hs : s < d.next.length) : clsOf d s < (quoD d).next.length := by
  rw [quoD, quo_len (itF_length d _) (itF_can d _)]
  exact can_lt (itF_can d _) (itF_get hs)
theorem quoD_at {d : DFA} (hv : Valid d) {c : Nat} (hc : c < (quoD d).next.length) : ∃ s, s < d.next.length ∧ clsOf d s = c ∧ finN (quoD d) c = finN d s ∧ ∀ x, x < letN d → toN (quoD d) c x = clsOf d (toN d s x) := by
  obtain ⟨s, h1, h2, h3, h4⟩ := quoN_at (itF_length d d.next.length) (itF_can d _) d.next.length (Nat.le_refl _) c hc
  refine ⟨s, h1, h2, ?_, ?_⟩
  · show (quoN d (itF d d.next.length) d.next.length).2.getD c false = _
    rw [List.getD_eq_getElem?_getD, h4]; rfl
  · intro x hx
    have hrow : (quoD d).next.getD c [] = (rowK (itF d d.next.length) (d.next.getD s [])).map fun c : Nat => (c : Int) := by
      show (quoN d (itF d d.next.length) d.next.length).1.getD c [] = _
      rw [List.getD_eq_getElem?_getD, h3]; rfl
    have hls : (d.next.getD s []).length = letN d := by simp [h1]; exact hv.len _ (List.getElem_mem h1)
    have hx' : x < (d.next.getD s []).length := by omega
    have e1 : (d.next.getD s []).getD x 0 = (d.next.getD s [])[x] := by rw [List.getD_eq_getElem?_getD, List.getElem?_eq_getElem hx']; rfl
    rw [toN, hrow, List.getD_eq_getElem?_getD, List.getElem?_map, rowK, List.getElem?_map, List.getElem?_eq_getElem hx']
    show (((itF d d.next.length).getD (d.next.getD s [])[x].toNat 0 : Nat) : Int).toNat = clsOf d (toN d s x)
    rw [Int.toNat_natCast, clsOf, toN, e1]
theorem quoD_step {d : DFA} (hv : Valid d) {s x : Nat} (hs : s < d.next.length) (hx : x < letN d) : toN (quoD d) (clsOf d s) x = clsOf d (toN d s x) := by
  obtain ⟨s', h1, h2, _, h4⟩ := quoD_at hv (cls_lt hv hs)
  rw [h4 x hx]
  exact clsOf_next hv h1 hs hx h2
theorem quoD_fin {d : DFA} (hv : Valid d) {s : Nat} (hs : s < d.next.length) : finN (quoD d) (clsOf d s) = finN d s := by
  obtain ⟨s', h1, h2, h3, _⟩ := quoD_at hv (cls_lt hv hs)
  rw [h3]; exact clsOf_fin hv h1 hs h2
theorem quoD_run {d : DFA} (hv : Valid d) {s : Nat} (hs : s < d.next.length) : ∀ w, Wd d w → runN (quoD d) (clsOf d s) w = clsOf d (runN d s w) := by
  refine snocInd (fun _ => rfl) ?_
  intro w x ih hw
  have hw' : Wd d w := fun y hy => hw y (by simp [hy])
  rw [runN_snoc, runN_snoc, ih hw', quoD_step hv (runN_lt hv hs w hw') (hw x (by simp))]
theorem quoD_start (d : DFA) : (quoD d).start.toNat = clsOf d d.start.toNat := by
  show (((itF d d.next.length).getD d.start.toNat 0 : Nat) : Int).toNat = _
  rw [Int.toNat_natCast]; rfl
theorem order_start {d : DFA} (hv : Valid d) : ∃ r, order d = d.start.toNat :: r := by
  have hp := bfsN_prefix d 0 d.next.length (Nat.zero_le _)
  obtain ⟨r, hr⟩ := hp
  exact ⟨r, hr.symm⟩
theorem renum_valid {d : DFA} (hv : Valid d) : Valid (renum d) := by
  obtain ⟨r, hr⟩ := order_start hv
  have hl := order_len hv
  have hpos : 0 < (order d).length := by rw [hr]; simp
  refine ⟨hv.v0, hv.v6, ?_, ?_, ?_, Int.le_refl _, ?_, ?_, ?_⟩
  · simpa [renum] using hpos
  · have := hv.n4; simp only [renum, List.length_map]; omega
  · simp [renum]
  · show (0 : Int) < ((renum d).next.length : Nat)
    simp only [renum, List.length_map]; omega
  · intro r hr
    obtain ⟨o, ho, rfl⟩ := List.mem_map.1 hr
    rw [List.length_map, sucs_length]; rfl
  · intro r hr x hx
    obtain ⟨o, ho, rfl⟩ := List.mem_map.1 hr
    obtain ⟨t, ht, rfl⟩ := List.mem_map.1 hx
    refine ⟨Int.natCast_nonneg _, ?_⟩
    have := ix_lt (order_closed hv o ho t ht)
    simp only [renum, List.length_map]; omega
theorem renum_step {d : DFA} (hv : Valid d) {s x : Nat} (hs : s ∈ order d) (hx : x < letN d) : toN (renum d) (ix s (order d)) x = ix (toN d s x) (order d) := by
  have hg := ix_get hs
  have hrow : (renum d).next.getD (ix s (order d)) [] = (sucs d s).map fun t => ((ix t (order d) : Nat) : Int) := by
    show ((order d).map fun o => (sucs d o).map fun t => ((ix t (order d) : Nat) : Int)).getD _ [] = _
    rw [List.getD_eq_getElem?_getD, List.getElem?_map, hg]; rfl
  rw [toN, hrow, List.getD_eq_getElem?_getD, List.getElem?_map, sucs_get hx]
  show ((ix (toN d s x) (order d) : Nat) : Int).toNat = _
  rw [Int.toNat_natCast]
theorem renum_fin {d : DFA} {s : Nat} (hs : s ∈ order d) : finN (renum d) (ix s (order d)) = finN d s := by
  show ((order d).map fun o => d.final.getD o false).getD _ false = _
  rw [List.getD_eq_getElem?_getD, List.getElem?_map, ix_get hs]; rfl
theorem order_run {d : DFA} (hv : Valid d) {s : Nat} (hs : s ∈ order d) : ∀ w, Wd d w → runN d s w ∈ order d := by
  refine snocInd (fun _ => hs) ?_
  intro w x ih hw
  rw [runN_snoc]
  exact order_closed hv _ (ih fun y hy => hw y (by simp [hy])) _ (List.mem_of_getElem? (sucs_get (hw x (by simp))))
theorem renum_run {d : DFA} (hv : Valid d) {s : Nat} (hs : s ∈ order d) : ∀ w, Wd d w → runN (renum d) (ix s (order d)) w = ix (runN d s w) (order d) := by
  refine snocInd (fun _ => rfl) ?_
  intro w x ih hw
  have hw' : Wd d w := fun y hy => hw y (by simp [hy])
  rw [runN_snoc, runN_snoc, ih hw', renum_step hv (order_run hv hs w hw') (hw x (by simp))]
theorem start_mem {d : DFA} (hv : Valid d) : d.start.toNat ∈ order d := by
  obtain ⟨r, hr⟩ := order_start hv
  rw [hr]; simp
theorem start_ix {d : DFA} (hv : Valid d) : ix d.start.toNat (order d) = 0 := by
  obtain ⟨r, hr⟩ := order_start hv
  rw [hr]; simp [ix]
def acc (d : DFA) (w : List Nat) : Bool := finN d (runN d d.start.toNat w)
theorem start_lt {d : DFA} (hv : Valid d) : d.start.toNat < d.next.length := by have := hv.s0; have := hv.s1; omega
theorem renum_acc {d : DFA} (hv : Valid d) {w : List Nat} (hw : Wd d w) : acc (renum d) w = acc d w := by
  have h := renum_run hv (start_mem hv) w hw
  rw [start_ix hv] at h
  show finN (renum d) (runN (renum d) 0 w) = _
  rw [h, renum_fin (order_run hv (start_mem hv) w hw)]; rfl
theorem quoD_acc {d : DFA} (hv : Valid d) {w : List Nat} (hw : Wd d w) : acc (quoD d) w = acc d w := by
  unfold acc
  rw [quoD_start, quoD_run hv (start_lt hv) w hw, quoD_fin hv (runN_lt hv (start_lt hv) w hw)]
theorem minD_valid {d : DFA} (hv : Valid d) : Valid (minD d) := renum_valid (quoD_valid hv)
theorem minD_acc {d : DFA} (hv : Valid d) {w : List Nat} (hw : Wd d w) : acc (minD d) w = acc d w :=
  (renum_acc (quoD_valid hv) hw).trans (quoD_acc hv hw)
inductive All2 (ρ : Nat → Nat → Prop) : List Nat → List Nat → Prop
  | nil : All2 ρ [] []
  | cons {a b l m} : ρ a b → All2 ρ l m → All2 ρ (a :: l) (b :: m)
theorem All2.append {ρ : Nat → Nat → Prop} {l m l' m' : List Nat} (h : All2 ρ l m) (h' : All2 ρ l' m') : All2 ρ (l ++ l') (m ++ m') := by
  induction h with
  | nil => exact h'
  | cons h1 _ ih => exact .cons h1 ih
theorem All2.len {ρ : Nat → Nat → Prop} {l m : List Nat} (h : All2 ρ l m) : l.length = m.length := by
  induction h with
  | nil => rfl
  | cons _ _ ih => simp [ih]
theorem All2.get {ρ : Nat → Nat → Prop} {l m : List Nat} (h : All2 ρ l m) : ∀ {i a b : Nat}, l[i]? = some a → m[i]? = some b → ρ a b := by
  induction h with
  | nil => intro i a b h; simp at h
  | cons h1 _ ih =>
    intro i a b ha hb
    cases i with
    | zero => simp at ha hb; subst ha; subst hb; exact h1
    | succ i => exact ih (by simpa using ha) (by simpa using hb)
section
variable {ρ : Nat → Nat → Prop}
def OneOne (ρ : Nat → Nat → Prop) : Prop := ∀ a b a' b', ρ a b → ρ a' b' → (a = a' ↔ b = b')
theorem All2.mem (ho : OneOne ρ) {l m : List Nat} (h : All2 ρ l m) {a b : Nat} (hab : ρ a b) : a ∈ l ↔ b ∈ m := by
  induction h with
  | nil => simp
  | cons h1 _ ih => rw [List.mem_cons, List.mem_cons, ih, ho _ _ _ _ hab h1]
theorem All2.ix (ho : OneOne ρ) {l m : List Nat} (h : All2 ρ l m) {a b : Nat} (hab : ρ a b) : Lx.ix a l = Lx.ix b m := by
  induction h with
  | nil => rfl
  | @cons x y l m h1 _ ih =>
    simp only [Lx.ix, ih]
    by_cases e : a = x
    · rw [if_pos e, if_pos ((ho _ _ _ _ hab h1).1 e)]
    · rw [if_neg e, if_neg (fun h => e ((ho _ _ _ _ hab h1).2 h))]
theorem All2.add (ho : OneOne ρ) {l m : List Nat} (h : All2 ρ l m) {a b : Nat} (hab : ρ a b) : All2 ρ (Lx.add l a) (Lx.add m b) := by
  unfold Lx.add
  by_cases e : a ∈ l
  · rw [if_pos e, if_pos ((h.mem ho hab).1 e)]; exact h
  · rw [if_neg e, if_neg (fun h9 => e ((h.mem ho hab).2 h9))]; exact h.append (.cons hab .nil)
theorem All2.foldl (ho : OneOne ρ) {xs ys : List Nat} (hx : All2 ρ xs ys) : ∀ {l m : List Nat}, All2 ρ l m → All2 ρ (xs.foldl Lx.add l) (ys.foldl Lx.add m) := by
  induction hx with
  | nil => intro l m h; exact h
  | cons h1 _ ih => intro l m h; exact ih (h.add ho h1)
theorem All2.map {f g : Nat → Nat} : ∀ (l : List Nat), (∀ x ∈ l, ρ (f x) (g x)) → All2 ρ (l.map f) (l.map g)
  | [], _ => .nil
  | x :: l, h => .cons (h x (by simp)) (All2.map l fun y hy => h y (by simp [hy]))
structure Bisim (ρ : Nat → Nat → Prop) (p q : DFA) : Prop where
  vars : p.vars = q.vars
  one : OneOne ρ
  start : ρ p.start.toNat q.start.toNat
  step : ∀ a b x, ρ a b → x < letN p → ρ (toN p a x) (toN q b x)
  fin : ∀ a b, ρ a b → finN p a = finN q b
theorem Bisim.sucs {p q : DFA} (h : Bisim ρ p q) {a b : Nat} (hab : ρ a b) : All2 ρ (sucs p a) (sucs q b) := by
  unfold Lx.sucs
  rw [← h.vars]
  exact All2.map _ fun x hx => h.step a b x hab (List.mem_range.1 hx)
theorem Bisim.bfs {p q : DFA} (h : Bisim ρ p q) : ∀ i, All2 ρ (bfsN p i) (bfsN q i)
  | 0 => .cons h.start .nil
  | i + 1 => by
    have ih := h.bfs i
    have hl := ih.len
    rw [bfsN, bfsN, ← hl]
    by_cases hi : i < (bfsN p i).length
    · rw [if_pos hi, if_pos hi]
      have hi2 : i < (bfsN q i).length := by omega
      have g1 := List.getElem?_eq_getElem hi
      have g2 := List.getElem?_eq_getElem hi2
      have e1 : (bfsN p i).getD i 0 = (bfsN p i)[i] := by rw [List.getD_eq_getElem?_getD, g1]; rfl
      have e2 : (bfsN q i).getD i 0 = (bfsN q i)[i] := by rw [List.getD_eq_getElem?_getD, g2]; rfl
      rw [e1, e2]
      exact (h.sucs (ih.get g1 g2)).foldl h.one ih
    · rw [if_neg hi, if_neg hi]; exact ih
theorem Bisim.order {p q : DFA} (h : Bisim ρ p q) (hp : Valid p) (hq : Valid q) : All2 ρ (order p) (order q) := by
  obtain ⟨N, h1, h2, _⟩ := order_stop hp
  have e1 := order_eq h2 h1
  have hb := h.bfs N
  have h2q : (bfsN q N).length = N := by rw [← hb.len]; exact h2
  have hNq : N ≤ q.next.length := by rw [← h2q]; exact bfsN_len hq N
  rw [e1, order_eq h2q hNq]
  exact hb
theorem Bisim.renum {p q : DFA} (h : Bisim ρ p q) (hp : Valid p) (hq : Valid q) : renum p = renum q := by
  have ho := h.order hp hq
  have rows : ∀ {l m : List Nat}, All2 ρ l m → (l.map fun o => (Lx.sucs p o).map fun t => ((Lx.ix t (Lx.order p) : Nat) : Int)) = m.map fun o => (Lx.sucs q o).map fun t => ((Lx.ix t (Lx.order q) : Nat) : Int) := by
    intro l m hlm
    induction hlm with
    | nil => rfl
    | cons h1 _ ih =>
      rw [List.map_cons, List.map_cons, ih]
      congr 1
      have hs := h.sucs h1
      have each : ∀ {x y : List Nat}, All2 ρ x y → (x.map fun t => ((Lx.ix t (Lx.order p) : Nat) : Int)) = y.map fun t => ((Lx.ix t (Lx.order q) : Nat) : Int) := by
        intro x y hxy
        induction hxy with
        | nil => rfl
        | cons h2 _ ih2 => rw [List.map_cons, List.map_cons, ih2, ho.ix h.one h2]
      exact each hs
  have fins : ∀ {l m : List Nat}, All2 ρ l m → (l.map fun o => p.final.getD o false) = m.map fun o => q.final.getD o false := by
    intro l m hlm
    induction hlm with
    | nil => rfl
    | cons h1 _ ih => rw [List.map_cons, List.map_cons, ih]; congr 1; exact h.fin _ _ h1
  unfold Lx.renum
  rw [rows ho, fins ho, h.vars]
end
theorem minD_unique {a b : DFA} (ha : Valid a) (hb : Valid b) (hvars : a.vars = b.vars) (h : ∀ w, Wd a w → acc a w = acc b w) : minD a = minD b := by
  have hwd : ∀ w, Wd a w ↔ Wd b w := fun w => by unfold Wd letN; rw [hvars]
  refine Bisim.renum (ρ := fun c1 c2 => ∃ s t, s < a.next.length ∧ t < b.next.length ∧ clsOf a s = c1 ∧ clsOf b t = c2 ∧ ∀ w, Wd a w → finN a (runN a s w) = finN b (runN b t w)) ⟨hvars, ?_, ?_, ?_, ?_⟩ (quoD_valid ha) (quoD_valid hb)
  · rintro c1 c2 c1' c2' ⟨s, t, hs, ht, rfl, rfl, hw⟩ ⟨s', t', hs', ht', rfl, rfl, hw'⟩
    rw [clsOf_iff ha hs hs', clsOf_iff hb ht ht']
    constructor
    · intro h1 u hu hd
      have hu' := (hwd u).2 hu
      refine h1 u hu' ?_
      unfold dst at *
      rw [hw u hu', hw' u hu']; exact hd
    · intro h1 u hu hd
      refine h1 u ((hwd u).1 hu) ?_
      unfold dst at *
      rw [← hw u hu, ← hw' u hu]; exact hd
  · exact ⟨a.start.toNat, b.start.toNat, start_lt ha, start_lt hb, (quoD_start a).symm, (quoD_start b).symm, h⟩
  · rintro c1 c2 x ⟨s, t, hs, ht, rfl, rfl, hw⟩ hx
    have hxa : x < letN a := hx
    have hxb : x < letN b := by unfold letN at *; rw [← hvars]; exact hxa
    refine ⟨toN a s x, toN b t x, toN_get ha hs hxa, toN_get hb ht hxb, (quoD_step ha hs hxa).symm, (quoD_step hb ht hxb).symm, fun w hww => ?_⟩
    exact hw (x :: w) (fun y hy => by rcases List.mem_cons.1 hy with rfl | hy; exact hxa; exact hww y hy)
  · rintro c1 c2 ⟨s, t, hs, ht, rfl, rfl, hw⟩
    show finN (quoD a) _ = finN (quoD b) _
    rw [quoD_fin ha hs, quoD_fin hb ht]
    exact hw [] (fun x hx => by cases hx)
end Go.Lx

namespace Go.Lx
set_option linter.unusedVariables false
theorem rndsV_eq {d : DFA} (hv : Valid d) (k : Int) : rndsV d k = itF d k.toNat := by
  unfold rndsV; rw [if_pos (checkD_zero.2 hv)]
theorem rndsV_len {d : DFA} (hv : Valid d) (k : Int) : (rndsV d k).length = d.next.length := by
  rw [rndsV_eq hv, itF_length]
theorem getD_idx {l : List Nat} {i : Nat} (h : i < l.length) : l.getD i 0 = l[i] := by
  rw [List.getD_eq_getElem?_getD, List.getElem?_eq_getElem h]; rfl
theorem rnds_split {d : DFA} (hv : Valid d) {k : Int} (hk : 0 ≤ k) {i j : Nat} (hi : i < (rndsV d k).length) (hj : j < (rndsV d k).length) (hi' : i < (rndsV d (k + 1)).length) (hj' : j < (rndsV d (k + 1)).length)
    (h : (rndsV d (k + 1))[i] = (rndsV d (k + 1))[j]) : (rndsV d k)[i] = (rndsV d k)[j] := by
  have hin : i < d.next.length := by rw [← rndsV_len hv k]; exact hi
  have hjn : j < d.next.length := by rw [← rndsV_len hv k]; exact hj
  rw [← getD_idx hi', ← getD_idx hj', rndsV_eq hv, itF_iff hv _ i j hin hjn] at h
  rw [← getD_idx hi, ← getD_idx hj, rndsV_eq hv, itF_iff hv _ i j hin hjn, ← Bool.not_eq_true]
  intro hh
  rw [dif_mono (by omega) hh] at h
  cases h
theorem rnds_stable {d : DFA} (hv : Valid d) {k : Int} (hk : 0 ≤ k) (h : rndsV d k = rndsV d (k + 1)) : rndsV d k = rndsV d d.next.length := by
  rw [rndsV_eq hv, rndsV_eq hv] at h
  rw [rndsV_eq hv, rndsV_eq hv]
  have e1 : (k + 1).toNat = k.toNat + 1 := by omega
  have e2 : ((d.next.length : Nat) : Int).toNat = d.next.length := by omega
  rw [e1] at h
  rw [e2]
  have hs : refineF d (itF d k.toNat) = itF d k.toNat := by rw [← itF]; exact h.symm
  by_cases hn : k.toNat ≤ d.next.length
  · exact (itF_stable hs _ hn).symm
  · exact itF_stab hv _ (by omega)
theorem rnds_tell {d : DFA} (hv : Valid d) {k : Int} (hk : 0 ≤ k) {s t : Nat} (hs : s < (rndsV d k).length) (ht : t < (rndsV d k).length) {res : Option (List Nat)} (h : Tell d s t res) :
    ¬ ((((rndsV d k)[s] : Nat) : Int) = (((rndsV d k)[t] : Nat) : Int)) ↔ (res.isSome = true ∧ (((res.getD []).length : Nat) : Int) ≤ k) := by
  have hsn : s < d.next.length := by rw [← rndsV_len hv k]; exact hs
  have htn : t < d.next.length := by rw [← rndsV_len hv k]; exact ht
  have e : (((rndsV d k)[s] : Nat) : Int) = (((rndsV d k)[t] : Nat) : Int) ↔ dif d k.toNat s t = false := by
    rw [← itF_iff hv _ s t hsn htn, ← rndsV_eq hv, getD_idx hs, getD_idx ht]
    omega
  rw [e, Bool.not_eq_false, dif_iff]
  cases res with
  | none =>
    refine ⟨fun ⟨u, h1, _, h3⟩ => absurd h3 (h u h1), fun ⟨h, _⟩ => by cases h⟩
  | some w =>
    have h : IsLeast d s t w := h
    refine ⟨fun ⟨u, h1, h2, h3⟩ => ⟨rfl, ?_⟩, fun ⟨_, h2⟩ => ⟨w, h.wd, ?_, h.dst⟩⟩
    · have := code_len w u (hv.wd64 h.wd) (hv.wd64 h1) (h.le u h1 h3)
      show ((w.length : Nat) : Int) ≤ k
      omega
    · have h2 : ((w.length : Nat) : Int) ≤ k := h2
      omega
theorem cls_tell {d : DFA} (hv : Valid d) {s t : Nat} (hs : s < (rndsV d d.next.length).length) (ht : t < (rndsV d d.next.length).length) {res : Option (List Nat)} (h : Tell d s t res) :
    ¬ ((((rndsV d d.next.length)[s] : Nat) : Int) = (((rndsV d d.next.length)[t] : Nat) : Int)) ↔ res.isSome = true := by
  have hsn : s < d.next.length := by rw [← rndsV_len hv d.next.length]; exact hs
  have htn : t < d.next.length := by rw [← rndsV_len hv d.next.length]; exact ht
  rw [rnds_tell hv (Int.natCast_nonneg _) hs ht h]
  refine ⟨fun h => h.1, fun hh => ⟨hh, ?_⟩⟩
  cases res with
  | none => cases hh
  | some w =>
    have := Tell.len hv hsn htn h
    show ((w.length : Nat) : Int) ≤ _
    omega
theorem eD_eight {d : DFA} {s t : Int} (hv : Valid d) (h : ¬ eD d s t = 0) : eD d s t = 8 := by
  have he := checkD_zero.2 hv
  unfold eD at *
  rw [if_neg (by simp [he])] at *
  split
  · rfl
  · rename_i h2; rw [if_neg h2] at h; exact absurd rfl h
end Go.Lx

namespace Go.Lx
set_option linter.unusedVariables false
def runE (d : DFA) (w : List Nat) : Nat := if checkD d ≠ 0 then checkD d else if 64 < w.length then 4 else if w.any (fun x => decide (2 ^ d.vars.toNat ≤ x)) = true then 1 else 0
def runV (d : DFA) (w : List Nat) : Nat := if runE d w = 0 then runN d d.start.toNat w else 0
def accV (d : DFA) (w : List Nat) : Bool := if runE d w = 0 then finN d (runN d d.start.toNat w) else false
theorem runE_zero {d : DFA} {w : List Nat} : runE d w = 0 ↔ Valid d ∧ w.length ≤ 64 ∧ Wd d w := by
  unfold runE
  by_cases h : checkD d = 0
  · rw [if_neg (by simp [h])]
    by_cases h2 : 64 < w.length
    · rw [if_pos h2]; exact ⟨fun h => absurd h (by decide), fun h => by omega⟩
    · rw [if_neg h2]
      by_cases h3 : w.any (fun x => decide (2 ^ d.vars.toNat ≤ x)) = true
      · rw [if_pos h3]
        refine ⟨fun h => absurd h (by decide), fun h => ?_⟩
        obtain ⟨x, hx, hx2⟩ := List.any_eq_true.1 h3
        have := h.2.2 x hx
        simp at hx2
        unfold letN at this
        omega
      · rw [if_neg h3]
        refine ⟨fun _ => ⟨checkD_zero.1 h, by omega, fun x hx => ?_⟩, fun _ => rfl⟩
        rcases Nat.lt_or_ge x (letN d) with h4 | h4
        · exact h4
        · exact absurd (List.any_eq_true.2 ⟨x, hx, decide_eq_true h4⟩) h3
  · rw [if_pos h]; exact ⟨fun e => absurd e h, fun hh => absurd (checkD_zero.2 hh.1) h⟩
theorem runN_take {d : DFA} {s : Nat} {w : List Nat} {k : Nat} (hk : k < w.length) : runN d s (w.take (k + 1)) = toN d (runN d s (w.take k)) w[k] := by
  rw [List.take_succ_eq_append_getElem hk, runN_snoc]
end Go.Lx

namespace Go.Lx
set_option linter.unusedVariables false
theorem bfsN_reach {d : DFA} (hv : Valid d) : ∀ i, ∀ o ∈ bfsN d i, ∃ w, Wd d w ∧ runN d d.start.toNat w = o
  | 0, o, h => by
    simp only [bfsN, List.mem_singleton] at h
    subst h
    exact ⟨[], fun x hx => (List.not_mem_nil hx).elim, rfl⟩
  | i + 1, o, h => by
    rw [bfsN] at h
    split at h
    · rename_i hi
      rcases (mem_foldl_add _ _).1 h with h | h
      · exact bfsN_reach hv i o h
      · obtain ⟨x, hx, rfl⟩ := List.mem_map.1 h
        have hm : (bfsN d i).getD i 0 ∈ bfsN d i := by
          rw [List.getD_eq_getElem?_getD, List.getElem?_eq_getElem hi]; exact List.getElem_mem hi
        obtain ⟨w, hw, he⟩ := bfsN_reach hv i _ hm
        refine ⟨w ++ [x], fun y hy => ?_, by rw [runN_snoc, he]⟩
        rcases List.mem_append.1 hy with hy | hy
        · exact hw y hy
        · rw [List.mem_singleton.1 hy]; exact List.mem_range.1 hx
    · exact bfsN_reach hv i o h
theorem map_nodup {f : Nat → Nat} : ∀ {l : List Nat}, l.Nodup → (∀ a ∈ l, ∀ b ∈ l, f a = f b → a = b) → (l.map f).Nodup
  | [], _, _ => List.nodup_nil
  | a :: l, hn, hi => by
    obtain ⟨h1, h2⟩ := List.nodup_cons.1 hn
    rw [List.map_cons, List.nodup_cons]
    refine ⟨fun hm => ?_, map_nodup h2 fun x hx y hy => hi x (by simp [hx]) y (by simp [hy])⟩
    obtain ⟨y, hy, e⟩ := List.mem_map.1 hm
    have := hi a (by simp) y (by simp [hy]) e.symm
    exact h1 (this ▸ hy)
theorem full_length {n : Nat} {l : List Nat} (h : ∀ c, c < n → c ∈ l) : n ≤ l.length := by
  have h1 : ((List.range n).map fun c => ix c l).Nodup := map_nodup List.nodup_range fun a ha b hb e => ix_inj (h a (List.mem_range.1 ha)) (h b (List.mem_range.1 hb)) e
  have h2 := nodup_bound (n := l.length) h1 fun x hx => by
    obtain ⟨c, hc, rfl⟩ := List.mem_map.1 hx
    exact ix_lt (h c (List.mem_range.1 hc))
  simpa using h2
theorem renum_classes {d : DFA} (hv : Valid d) : (quoD (renum d)).next.length = (minD (renum d)).next.length := by
  have hR := renum_valid hv
  have hq := quoD_valid hR
  have hall : ∀ c, c < (quoD (renum d)).next.length → c ∈ order (quoD (renum d)) := by
    intro c hc
    obtain ⟨i, hi, hic, _, _⟩ := quoD_at hR hc
    have hio : i < (order d).length := by simpa [renum] using hi
    obtain ⟨w, hw, he⟩ := bfsN_reach hv d.next.length (order d)[i] (List.getElem_mem hio)
    have hwR : Wd (renum d) w := hw
    have h1 := renum_run hv (start_mem hv) w hw
    rw [start_ix hv, he] at h1
    have hnd : (order d).Nodup := (bfsN_ok hv _).1
    have hix : ix (order d)[i] (order d) = i := by
      have g := ix_get (List.getElem_mem hio)
      exact (List.getElem_inj (h₀ := ix_lt (List.getElem_mem hio)) (h₁ := hio) hnd).1 (Option.some.inj (by rw [← List.getElem?_eq_getElem, g]))
    rw [hix] at h1
    have h2 := quoD_run hR (start_lt hR) w hwR
    have h3 := order_run hq (start_mem hq) w hwR
    rw [quoD_start, h2] at h3
    have h4 : runN (renum d) (renum d).start.toNat w = i := h1
    rw [h4, hic] at h3
    exact h3
  have h1 := full_length hall
  have h2 := order_len hq
  show _ = (renum (quoD (renum d))).next.length
  simp only [renum, List.length_map]
  exact Nat.le_antisymm h1 h2
theorem minD_renum {d : DFA} (hv : Valid d) : minD (renum d) = minD d := minD_unique (renum_valid hv) hv rfl fun w hw => renum_acc hv hw
theorem minD_min {d : DFA} (hv : Valid d) : minD (minD d) = minD d := minD_unique (minD_valid hv) hv rfl fun w hw => minD_acc hv hw
theorem minV_valid {d : DFA} (hv : Valid d) : minV d = minD d := by unfold minV; rw [if_pos (checkD_zero.2 hv)]
theorem can_step {l : List Nat} (hc : nrm l = l) {s : Nat} (hs : s < l.length) : (dd (l.take (s + 1))).length = max (dd (l.take s)).length (l[s] + 1) := by
  have hg := List.getElem?_eq_getElem hs
  have hck : l[s] = ix l[s] (dd l) := by
    have h2 := nrm_get hg
    rw [hc, hg] at h2
    exact Option.some.inj h2
  have hpre : ∀ k, dd (l.take k) <+: dd l := fun k => by
    conv => rhs; rw [← List.take_append_drop k l]
    rw [dd_append]; exact foldl_prefix _ _
  by_cases hm : l[s] ∈ l.take s
  · rw [List.take_succ_eq_append_getElem hs, dd_mem_snoc hm]
    have h1 := ix_lt (mem_dd.2 hm)
    rw [← ix_prefix (hpre s) (mem_dd.2 hm), ← hck] at h1
    omega
  · have h1 : l[s] ∈ dd (l.take (s + 1)) := mem_dd.2 (by rw [List.take_succ_eq_append_getElem hs]; exact List.mem_append_right _ (List.mem_singleton.2 rfl))
    have h2 : ix l[s] (dd (l.take (s + 1))) = (dd (l.take s)).length := by
      rw [List.take_succ_eq_append_getElem hs, dd_new_snoc hm, ix_append_right (fun h => hm (mem_dd.1 h))]; simp [ix]
    rw [← ix_prefix (hpre (s + 1)) h1, ← hck] at h2
    rw [List.take_succ_eq_append_getElem hs, dd_new_snoc hm, List.length_append, List.length_singleton]
    omega
theorem words_many {d : DFA} (hv : Valid d) : (dd (rndsV (renum d) (renum d).next.length)).length = (minD d).next.length := by
  have hR := renum_valid hv
  rw [rndsV_eq hR, show (((renum d).next.length : Nat) : Int).toNat = (renum d).next.length by omega, ← quo_len (itF_length (renum d) _) (itF_can _ _), ← minD_renum hv, ← renum_classes hv]
  rfl
theorem runE_min {d : DFA} (hv : Valid d) (w : List Nat) : runE (minD d) w = runE d w := by
  unfold runE
  rw [checkD_zero.2 hv, checkD_zero.2 (minD_valid hv)]
  rfl
theorem accV_min {d : DFA} (hv : Valid d) (w : List Nat) : accV (minD d) w = accV d w := by
  unfold accV
  rw [runE_min hv]
  by_cases h : runE d w = 0
  · rw [if_pos h, if_pos h]
    exact minD_acc hv (runE_zero.1 h).2.2
  · rw [if_neg h, if_neg h]
end Go.Lx

namespace Go.Lx
open Go.RowKit
set_option linter.unusedVariables false
def prRow (a b : DFA) (s t : Nat) : List Int := (List.range (letN a)).map fun x => ((toN a s x * b.next.length + toN b t x : Nat) : Int)
def prNext (a b : DFA) : List (List Int) := (List.range (a.next.length * b.next.length)).map fun c => prRow a b (c / b.next.length) (c % b.next.length)
def prFin (f : Bool → Bool → Bool) (a b : DFA) : List Bool := (List.range (a.next.length * b.next.length)).map fun c => f (finN a (c / b.next.length)) (finN b (c % b.next.length))
def prodD (f : Bool → Bool → Bool) (a b : DFA) : DFA := ⟨a.vars, ((a.start.toNat * b.next.length + b.start.toNat : Nat) : Int), prNext a b, prFin f a b⟩
theorem pr_div {n s t : Nat} (ht : t < n) : (s * n + t) / n = s ∧ (s * n + t) % n = t := by
  rw [Nat.mul_comm]
  exact ⟨by rw [Nat.mul_add_div (by omega), Nat.div_eq_of_lt ht, Nat.add_zero], by rw [Nat.mul_add_mod, Nat.mod_eq_of_lt ht]⟩
theorem pr_lt {n k s t : Nat} (hs : s < k) (ht : t < n) : s * n + t < k * n := by
  have := Nat.mul_le_mul_right n (show s + 1 ≤ k by omega); rw [Nat.succ_mul] at this; omega
theorem pr_split {n k c : Nat} (h : c < k * n) : c / n < k ∧ c % n < n := by
  have hn : 0 < n := by
    rcases Nat.eq_zero_or_pos n with h0 | h0
    · rw [h0, Nat.mul_zero] at h; exact absurd h (Nat.not_lt_zero _)
    · exact h0
  exact ⟨(Nat.div_lt_iff_lt_mul hn).2 h, Nat.mod_lt _ hn⟩
theorem prod_len (f : Bool → Bool → Bool) (a b : DFA) : (prodD f a b).next.length = a.next.length * b.next.length := by
  show (prNext a b).length = _; unfold prNext; simp
theorem prod_valid {f : Bool → Bool → Bool} {a b : DFA} (ha : Valid a) (hb : Valid b) (hv : a.vars = b.vars) (hn : a.next.length * b.next.length ≤ 4096) : Valid (prodD f a b) := by
  have a0 := start_lt ha; have b0 := start_lt hb
  have hlt := pr_lt a0 b0
  refine { v0 := ha.v0, v6 := ha.v6, n0 := ?_, n4 := ?_, fin := ?_, s0 := ?_, s1 := ?_, len := ?_, ok := ?_ }
  · rw [prod_len]; omega
  · rw [prod_len]; exact hn
  · rw [prod_len]; show (prFin f a b).length = _; unfold prFin; simp
  · show (0 : Int) ≤ ((_ : Nat) : Int); omega
  · rw [prod_len]; show ((_ : Nat) : Int) < ((_ : Nat) : Int); omega
  · intro r hr
    obtain ⟨c, _, rfl⟩ := List.mem_map.1 (show r ∈ prNext a b from hr)
    unfold prRow; simp; rfl
  · intro r hr x hx
    obtain ⟨c, hc, rfl⟩ := List.mem_map.1 (show r ∈ prNext a b from hr)
    obtain ⟨y, hy, rfl⟩ := List.mem_map.1 (show x ∈ prRow a b _ _ from hx)
    rw [List.mem_range] at hc hy
    obtain ⟨h1, h2⟩ := pr_split hc
    have h3 := (ha.toN_lt h1 hy).1
    have h4 := (hb.toN_lt h2 (by rw [← hv]; exact hy)).1
    have := pr_lt h3 h4
    rw [prod_len]; omega
theorem prod_fin {f : Bool → Bool → Bool} {a b : DFA} {s t : Nat} (hs : s < a.next.length) (ht : t < b.next.length) : finN (prodD f a b) (s * b.next.length + t) = f (finN a s) (finN b t) := by
  have hd := pr_div (s := s) ht
  have hc := pr_lt hs ht
  show (prFin f a b).getD _ false = _
  unfold prFin
  rw [List.getD_eq_getElem?_getD, List.getElem?_map, List.getElem?_range hc]
  simp only [Option.map_some, Option.getD_some, hd.1, hd.2]
theorem prod_step {f : Bool → Bool → Bool} {a b : DFA} {s t x : Nat} (hs : s < a.next.length) (ht : t < b.next.length) (hx : x < letN a) : toN (prodD f a b) (s * b.next.length + t) x = toN a s x * b.next.length + toN b t x := by
  have hd := pr_div (s := s) ht
  have hc := pr_lt hs ht
  show (((prNext a b).getD _ []).getD x 0).toNat = _
  unfold prNext
  rw [List.getD_eq_getElem?_getD (l := List.map _ _), List.getElem?_map, List.getElem?_range hc]
  simp only [Option.map_some, Option.getD_some, hd.1, hd.2]
  unfold prRow
  rw [List.getD_eq_getElem?_getD, List.getElem?_map, List.getElem?_range hx]
  exact Int.toNat_natCast _
theorem prod_run {f : Bool → Bool → Bool} {a b : DFA} (ha : Valid a) (hb : Valid b) (hv : a.vars = b.vars) {s t : Nat} (hs : s < a.next.length) (ht : t < b.next.length) : ∀ w, Wd a w → runN (prodD f a b) (s * b.next.length + t) w = runN a s w * b.next.length + runN b t w := by
  refine snocInd (fun _ => rfl) ?_
  intro w x ih hw
  have hw1 : Wd a w := fun y hy => hw y (by simp [hy])
  have hw2 : Wd b w := fun y hy => by have := hw1 y hy; unfold letN at this ⊢; rw [← hv]; exact this
  rw [runN_snoc, runN_snoc, runN_snoc, ih hw1, prod_step (runN_lt ha hs w hw1) (runN_lt hb ht w hw2) (hw x (by simp))]
theorem prod_acc {f : Bool → Bool → Bool} {a b : DFA} (ha : Valid a) (hb : Valid b) (hv : a.vars = b.vars) {w : List Nat} (hw : Wd a w) : acc (prodD f a b) w = f (acc a w) (acc b w) := by
  have a0 := start_lt ha; have b0 := start_lt hb
  have hw2 : Wd b w := fun y hy => by have := hw y hy; unfold letN at this ⊢; rw [← hv]; exact this
  unfold acc
  rw [show (prodD f a b).start.toNat = a.start.toNat * b.next.length + b.start.toNat from Int.toNat_natCast _, prod_run ha hb hv a0 b0 w hw, prod_fin (runN_lt ha a0 w hw) (runN_lt hb b0 w hw2)]
def opD (f : Bool → Bool → Bool) (a b : DFA) : DFA := minD (prodD f a b)
theorem opD_vars (f : Bool → Bool → Bool) (a b : DFA) : (opD f a b).vars = a.vars := rfl
theorem opD_valid {f : Bool → Bool → Bool} {a b : DFA} (ha : Valid a) (hb : Valid b) (hv : a.vars = b.vars) (hn : a.next.length * b.next.length ≤ 4096) : Valid (opD f a b) := minD_valid (prod_valid ha hb hv hn)
theorem opD_acc {f : Bool → Bool → Bool} {a b : DFA} (ha : Valid a) (hb : Valid b) (hv : a.vars = b.vars) (hn : a.next.length * b.next.length ≤ 4096) {w : List Nat} (hw : Wd a w) : acc (opD f a b) w = f (acc a w) (acc b w) := by
  unfold opD; rw [minD_acc (prod_valid ha hb hv hn) hw, prod_acc ha hb hv hw]
theorem opD_min {f : Bool → Bool → Bool} {a b : DFA} (ha : Valid a) (hb : Valid b) (hv : a.vars = b.vars) (hn : a.next.length * b.next.length ≤ 4096) : minD (opD f a b) = opD f a b := minD_min (prod_valid ha hb hv hn)
theorem opD_of {f : Bool → Bool → Bool} {a b d : DFA} (ha : Valid a) (hb : Valid b) (hv : a.vars = b.vars) (hn : a.next.length * b.next.length ≤ 4096) (hd : Valid d) (hdv : d.vars = a.vars) (h : ∀ w, Wd a w → acc d w = f (acc a w) (acc b w)) : minD d = opD f a b :=
  minD_unique hd (prod_valid ha hb hv hn) hdv fun w hw => by
    have hw' : Wd a w := fun y hy => by have := hw y hy; unfold letN at this ⊢; rw [← hdv]; exact this
    rw [h w hw', prod_acc ha hb hv hw']
theorem minD_len {d : DFA} (hv : Valid d) : (minD d).next.length ≤ d.next.length := by
  have h1 : (minD d).next.length ≤ (quoD d).next.length := by
    show (renum (quoD d)).next.length ≤ _
    unfold renum
    rw [List.length_map]; exact order_len (quoD_valid hv)
  have h2 := (quoN_len d (itF d d.next.length) d.next.length).2
  exact Nat.le_trans h1 h2
theorem opD_len {f : Bool → Bool → Bool} {a b : DFA} (ha : Valid a) (hb : Valid b) (hv : a.vars = b.vars) (hn : a.next.length * b.next.length ≤ 4096) : (opD f a b).next.length ≤ a.next.length * b.next.length := by
  rw [← prod_len f a b]; exact minD_len (prod_valid ha hb hv hn)
theorem min_ext {a b : DFA} (ha : Valid a) (hb : Valid b) (hma : minD a = a) (hmb : minD b = b) (hv : a.vars = b.vars) (h : ∀ w, Wd a w → acc a w = acc b w) : a = b := by
  rw [← hma, ← hmb]; exact minD_unique ha hb hv h
def flipD (d : DFA) : DFA := ⟨d.vars, d.start, d.next, d.final.map (!·)⟩
theorem flip_valid {d : DFA} (hv : Valid d) : Valid (flipD d) :=
  { v0 := hv.v0, v6 := hv.v6, n0 := hv.n0, n4 := hv.n4, fin := by show (d.final.map _).length = _; rw [List.length_map]; exact hv.fin, s0 := hv.s0, s1 := hv.s1, len := hv.len, ok := hv.ok }
theorem flip_fin {d : DFA} (hv : Valid d) {s : Nat} (hs : s < d.next.length) : finN (flipD d) s = !finN d s := by
  have hl : s < d.final.length := by rw [hv.fin]; exact hs
  show (d.final.map _).getD s false = _
  unfold finN
  rw [List.getD_eq_getElem?_getD, List.getD_eq_getElem?_getD, List.getElem?_map, List.getElem?_eq_getElem hl]
  rfl
theorem flip_acc {d : DFA} (hv : Valid d) {w : List Nat} (hw : Wd d w) : acc (flipD d) w = !acc d w := by
  unfold acc
  have hr : ∀ u s, runN (flipD d) s u = runN d s u := fun u s => rfl
  rw [hr]
  exact flip_fin hv (runN_lt hv (start_lt hv) w hw)
end Go.Lx

namespace Go.Lx
set_option linter.unusedVariables false
def withS (d : DFA) (s : Int) : DFA := ⟨d.vars, s, d.next, d.final⟩
theorem withS_valid {d : DFA} (hv : Valid d) {s : Nat} (hs : s < d.next.length) : Valid (withS d (s : Int)) :=
  ⟨hv.v0, hv.v6, hv.n0, hv.n4, hv.fin, Int.natCast_nonneg _, show ((s : Nat) : Int) < (d.next.length : Int) by omega, hv.len, hv.ok⟩
theorem withS_acc {d : DFA} (hv : Valid d) {s : Nat} (hs : s < d.next.length) {w : List Nat} (h : runE (withS d (s : Int)) w = 0) : accV (withS d (s : Int)) w = finN d (runN d s w) := by
  unfold accV
  rw [if_pos h]; rfl
theorem withS_runE {d : DFA} (hv : Valid d) {s t : Nat} (hs : s < d.next.length) (ht : t < d.next.length) (w : List Nat) : runE (withS d (s : Int)) w = runE (withS d (t : Int)) w := by
  unfold runE
  rw [checkD_zero.2 (withS_valid hv hs), checkD_zero.2 (withS_valid hv ht)]
  rfl
theorem dif_short {d : DFA} (hv : Valid d) {s t : Nat} (hs : s < d.next.length) (ht : t < d.next.length) (m : Nat) (h : dif d m s t = true) : dif d (d.next.length - 1) s t = true := by
  have hn := hv.n0
  have key : itF d (d.next.length - 1) = itF d d.next.length := by
    rcases itF_grow hv (d.next.length - 1) with ⟨j, hj, h⟩ | h
    · have hst : refineF d (itF d j) = itF d j := by rw [← itF]; exact h
      rw [itF_stable hst _ (show j ≤ d.next.length - 1 by omega), itF_stable hst _ (show j ≤ d.next.length by omega)]
    · obtain ⟨h1, h2⟩ := clsN_step hv (d.next.length - 1)
      have h3 := clsN_le d (d.next.length - 1 + 1)
      have h4 := h2 (by omega)
      rw [show d.next.length - 1 + 1 = d.next.length by omega] at h4
      exact h4.symm
  rcases Bool.eq_false_or_eq_true (dif d (d.next.length - 1) s t) with hh | hh
  · exact hh
  · rw [← itF_iff hv _ s t hs ht, key] at hh
    have h5 : dif d (max m d.next.length) s t = true := dif_mono (by omega) h
    have h6 := (itF_iff hv (max m d.next.length) s t hs ht).1 (by rw [itF_stab hv _ (by omega)]; exact hh)
    rw [h6] at h5; cases h5
theorem Tell.lt {d : DFA} (hv : Valid d) {s t : Nat} (hs : s < d.next.length) (ht : t < d.next.length) {u : List Nat} (h : Tell d s t (some u)) : u.length < d.next.length := by
  have h : IsLeast d s t u := h
  have hd := dif_short hv hs ht u.length ((dif_iff d _ s t).2 ⟨u, h.wd, Nat.le_refl _, h.dst⟩)
  obtain ⟨w, h1, h2, h3⟩ := (dif_iff d _ s t).1 hd
  have := code_len u w (hv.wd64 h.wd) (hv.wd64 h1) (h.le w h1 h3)
  have := hv.n0
  omega
theorem minD_apart {d : DFA} (hv : Valid d) {p q : Nat} (hp : p < (minD d).next.length) (hq : q < (minD d).next.length) {res : Option (List Nat)} (h : Tell (minD d) p q res) : res.isSome = true ↔ p ≠ q := by
  have hQ := quoD_valid hv
  have hpo : p < (order (quoD d)).length := by simpa [minD, renum, quoD] using hp
  have hqo : q < (order (quoD d)).length := by simpa [minD, renum, quoD] using hq
  constructor
  · intro hs e
    subst e
    cases res with
    | none => cases hs
    | some u => exact (show IsLeast (minD d) p p u from h).dst rfl
  · intro hne
    cases res with
    | some u => rfl
    | none =>
      exfalso
      have hnd : (order (quoD d)).Nodup := (bfsN_ok hQ _).1
      have hix : ∀ i (hi : i < (order (quoD d)).length), ix (order (quoD d))[i] (order (quoD d)) = i := fun i hi => by
        have g := ix_get (List.getElem_mem hi)
        exact (List.getElem_inj (h₀ := ix_lt (List.getElem_mem hi)) (h₁ := hi) hnd).1 (Option.some.inj (by rw [← List.getElem?_eq_getElem, g]))
      obtain ⟨a, ha, hac, _, _⟩ := quoD_at hv (order_lt hQ _ (List.getElem_mem hpo))
      obtain ⟨b, hb, hbc, _, _⟩ := quoD_at hv (order_lt hQ _ (List.getElem_mem hqo))
      have hab : clsOf d a = clsOf d b := by
        rw [clsOf_iff hv ha hb]
        intro u hu hd
        have hn := (show ∀ u, Wd (minD d) u → ¬ dst (minD d) p q u from h) u hu
        apply hn
        have r1 := renum_run hQ (List.getElem_mem hpo) u hu
        have r2 := renum_run hQ (List.getElem_mem hqo) u hu
        rw [hix p hpo] at r1
        rw [hix q hqo] at r2
        unfold dst at *
        show finN (renum (quoD d)) (runN (renum (quoD d)) p u) ≠ finN (renum (quoD d)) (runN (renum (quoD d)) q u)
        rw [r1, r2, renum_fin (order_run hQ (List.getElem_mem hpo) u hu), renum_fin (order_run hQ (List.getElem_mem hqo) u hu), ← hac, ← hbc, quoD_run hv ha u hu, quoD_run hv hb u hu, quoD_fin hv (runN_lt hv ha u hu), quoD_fin hv (runN_lt hv hb u hu)]
        exact hd
      rw [hac, hbc] at hab
      exact hne ((List.getElem_inj (h₀ := hpo) (h₁ := hqo) hnd).1 hab)
theorem code_append : ∀ (v p : List Nat), code (p ++ v) = code p * 65 ^ v.length + code v := by
  intro v
  induction v with
  | nil => intro p; simp [code]
  | cons x v ih =>
    intro p
    rw [show p ++ x :: v = (p ++ [x]) ++ v by simp, ih, code_snoc, code_cons, List.length_cons, Nat.pow_succ, Nat.add_mul, Nat.mul_assoc (code p) 65, Nat.mul_comm 65, Nat.add_assoc]
theorem code_diff {xs ys : List Nat} {k : Nat} (hl : xs.length = ys.length) (hk : k < xs.length) (hk' : k < ys.length) (ht : xs.take k = ys.take k) (hy : ∀ y ∈ ys, y < 64) (h : ys[k] < xs[k]) : code ys < code xs := by
  have e1 : xs = xs.take k ++ xs[k] :: xs.drop (k + 1) := by rw [← List.drop_eq_getElem_cons hk, List.take_append_drop]
  have e2 : ys = ys.take k ++ ys[k] :: ys.drop (k + 1) := by rw [← List.drop_eq_getElem_cons hk', List.take_append_drop]
  rw [e1, e2, code_append, code_append, ht]
  have hll : (ys.drop (k + 1)).length = (xs.drop (k + 1)).length := by rw [List.length_drop, List.length_drop, hl]
  have := code_lt_head hll (fun z hz => hy z (List.mem_of_mem_drop hz)) h
  simp only [List.length_cons, hll]
  omega
end Go.Lx

namespace Go.Lx
set_option linter.unusedVariables false
def both (a b : DFA) : DFA := ⟨a.vars, a.start, a.next ++ b.next.map fun r => r.map fun x => (a.next.length : Int) + x, a.final ++ b.final⟩
def bothN (a b : DFA) (k : Nat) : DFA := ⟨a.vars, a.start, a.next ++ (b.next.take k).map fun r => r.map fun x => (a.next.length : Int) + x, a.final ++ b.final.take k⟩
theorem bothN_full {a b : DFA} (hb : Valid b) : bothN a b b.next.length = both a b := by
  unfold bothN both
  rw [List.take_of_length_le (Nat.le_refl _), List.take_of_length_le (by rw [hb.fin]; exact Nat.le_refl _)]
theorem both_len (a b : DFA) : (both a b).next.length = a.next.length + b.next.length := by simp [both]
theorem both_valid {a b : DFA} (ha : Valid a) (hb : Valid b) (hv : a.vars = b.vars) (hn : a.next.length + b.next.length ≤ 4096) : Valid (both a b) := by
  refine ⟨ha.v0, ha.v6, ?_, ?_, ?_, ha.s0, ?_, ?_, ?_⟩
  · rw [both_len]; have := ha.n0; omega
  · rw [both_len]; exact hn
  · rw [both_len]; show (a.final ++ b.final).length = _; rw [List.length_append, ha.fin, hb.fin]
  · rw [both_len]; show a.start < _; have := ha.s1; omega
  · intro r hr
    rcases List.mem_append.1 hr with hr | hr
    · exact ha.len r hr
    · obtain ⟨r', hr', rfl⟩ := List.mem_map.1 hr
      rw [List.length_map, hb.len r' hr']
      show 2 ^ b.vars.toNat = 2 ^ a.vars.toNat
      rw [hv]
  · intro r hr x hx
    rw [both_len]
    rcases List.mem_append.1 hr with hr | hr
    · have := ha.ok r hr x hx; omega
    · obtain ⟨r', hr', rfl⟩ := List.mem_map.1 hr
      obtain ⟨y, hy, rfl⟩ := List.mem_map.1 hx
      have := hb.ok r' hr' y hy
      omega
theorem both_left {a b : DFA} (ha : Valid a) {s : Nat} (hs : s < a.next.length) : finN (both a b) s = finN a s ∧ ∀ x, x < letN a → toN (both a b) s x = toN a s x := by
  have hf : s < a.final.length := by rw [ha.fin]; exact hs
  refine ⟨?_, fun x hx => ?_⟩
  · show (a.final ++ b.final).getD s false = _
    rw [List.getD_eq_getElem?_getD, List.getElem?_append_left hf, finN, List.getD_eq_getElem?_getD]
  · have e : (both a b).next.getD s [] = a.next.getD s [] := by
      show (a.next ++ _).getD s [] = _
      simp [List.getD_eq_getElem?_getD, List.getElem?_append_left hs]
    unfold toN
    rw [e]
theorem both_right {a b : DFA} (ha : Valid a) (hb : Valid b) (hv : a.vars = b.vars) {t : Nat} (ht : t < b.next.length) : finN (both a b) (a.next.length + t) = finN b t ∧ ∀ x, x < letN a → toN (both a b) (a.next.length + t) x = a.next.length + toN b t x := by
  refine ⟨?_, fun x hx => ?_⟩
  · show (a.final ++ b.final).getD _ false = _
    rw [List.getD_eq_getElem?_getD, List.getElem?_append_right (by rw [ha.fin]; omega), ha.fin, finN, List.getD_eq_getElem?_getD, Nat.add_sub_cancel_left]
  · have hxb : x < letN b := by unfold letN at *; rw [← hv]; exact hx
    have hl : b.next[t].length = letN b := hb.len _ (List.getElem_mem ht)
    have hx' : x < b.next[t].length := by omega
    have hok := hb.ok _ (List.getElem_mem ht) _ (List.getElem_mem hx')
    have e : (both a b).next.getD (a.next.length + t) [] = b.next[t].map fun x => (a.next.length : Int) + x := by
      show (a.next ++ _).getD _ [] = _
      rw [List.getD_eq_getElem?_getD, List.getElem?_append_right (by omega), Nat.add_sub_cancel_left]
      simp [ht]
    unfold toN
    rw [e]
    simp [ht, hx', List.getD_eq_getElem?_getD]
    omega
theorem both_runL {a b : DFA} (ha : Valid a) {s : Nat} (hs : s < a.next.length) : ∀ w, Wd a w → runN (both a b) s w = runN a s w := by
  refine snocInd (fun _ => rfl) ?_
  intro w x ih hw
  have hw' : Wd a w := fun y hy => hw y (by simp [hy])
  rw [runN_snoc, runN_snoc, ih hw', (both_left ha (runN_lt ha hs w hw')).2 x (hw x (by simp))]
theorem both_runR {a b : DFA} (ha : Valid a) (hb : Valid b) (hv : a.vars = b.vars) {t : Nat} (ht : t < b.next.length) : ∀ w, Wd a w → runN (both a b) (a.next.length + t) w = a.next.length + runN b t w := by
  refine snocInd (fun _ => rfl) ?_
  intro w x ih hw
  have hw' : Wd a w := fun y hy => hw y (by simp [hy])
  have hwb : Wd b w := fun y hy => by have := hw' y hy; unfold letN at *; rw [← hv]; exact this
  rw [runN_snoc, runN_snoc, ih hw', (both_right ha hb hv (runN_lt hb ht w hwb)).2 x (hw x (by simp))]
theorem both_dst {a b : DFA} (ha : Valid a) (hb : Valid b) (hv : a.vars = b.vars) {w : List Nat} (hw : Wd a w) : dst (both a b) a.start.toNat (a.next.length + b.start.toNat) w ↔ acc a w ≠ acc b w := by
  have hwb : Wd b w := fun y hy => by have := hw y hy; unfold letN at *; rw [← hv]; exact this
  unfold dst acc
  rw [both_runL ha (start_lt ha) w hw, both_runR ha hb hv (start_lt hb) w hw, (both_left ha (runN_lt ha (start_lt ha) w hw)).1, (both_right ha hb hv (runN_lt hb (start_lt hb) w hwb)).1]
theorem both_tell {a b : DFA} (ha : Valid a) (hb : Valid b) (hv : a.vars = b.vars) {res : Option (List Nat)} (h : Tell (both a b) a.start.toNat (a.next.length + b.start.toNat) res) : res.isSome = true ↔ minD a ≠ minD b := by
  have hwd : ∀ w, Wd a w → Wd b w := fun w hw y hy => by have := hw y hy; unfold letN at *; rw [← hv]; exact this
  cases res with
  | some u =>
    have h : IsLeast (both a b) a.start.toNat (a.next.length + b.start.toNat) u := h
    refine ⟨fun _ e => ?_, fun _ => rfl⟩
    have hu : Wd a u := h.wd
    have hd := (both_dst ha hb hv hu).1 h.dst
    rw [← minD_acc ha hu, ← minD_acc hb (hwd u hu), e] at hd
    exact hd rfl
  | none =>
    refine ⟨fun h => absurd h (by simp), fun hne => ?_⟩
    exfalso
    apply hne
    refine minD_unique ha hb hv fun w hw => ?_
    have hn := (show ∀ u, Wd (both a b) u → ¬ dst (both a b) a.start.toNat (a.next.length + b.start.toNat) u from h) w hw
    rw [both_dst ha hb hv hw] at hn
    exact Classical.not_not.1 hn
theorem bothN_next {a b : DFA} {k : Nat} (hk : k < b.next.length) : (bothN a b (k + 1)).next = (bothN a b k).next ++ [b.next[k].map fun x => (a.next.length : Int) + x] := by
  show a.next ++ _ = (a.next ++ _) ++ _
  rw [List.take_succ_eq_append_getElem hk, List.map_append, List.append_assoc]; rfl
theorem bothN_final {a b : DFA} {k : Nat} (hk : k < b.final.length) : (bothN a b (k + 1)).final = (bothN a b k).final ++ [b.final[k]] := by
  show a.final ++ _ = (a.final ++ _) ++ _
  rw [List.take_succ_eq_append_getElem hk, List.append_assoc]
theorem accV_zero {d : DFA} {w : List Nat} (h : runE d w = 0) : accV d w = acc d w := by unfold accV acc; rw [if_pos h]
theorem both_runE {a b : DFA} (ha : Valid a) (hb : Valid b) (hv : a.vars = b.vars) (w : List Nat) : runE a w = runE b w := by
  unfold runE
  rw [checkD_zero.2 ha, checkD_zero.2 hb, hv]
end Go.Lx

namespace Go.Lx
open Go.RowKit
set_option linter.unusedVariables false
def stayD (v : Int) (f : Bool) : DFA := ⟨v, 0, [List.replicate (2 ^ v.toNat) 0], [f]⟩
theorem stay_valid {v : Int} (h0 : 0 ≤ v) (h6 : v ≤ 6) (f : Bool) : Valid (stayD v f) := by
  refine { v0 := h0, v6 := h6, n0 := ?_, n4 := ?_, fin := rfl, s0 := Int.le_refl _, s1 := ?_, len := ?_, ok := ?_ }
  · show 0 < [_].length; simp
  · show [_].length ≤ 4096; simp
  · show (0 : Int) < (([_].length : Nat) : Int); simp
  · intro r hr
    rw [List.mem_singleton.1 (show r ∈ [List.replicate (2 ^ v.toNat) (0 : Int)] from hr), List.length_replicate]; rfl
  · intro r hr x hx
    rw [List.mem_singleton.1 (show r ∈ [List.replicate (2 ^ v.toNat) (0 : Int)] from hr)] at hx
    rw [List.eq_of_mem_replicate hx]
    exact ⟨Int.le_refl _, by show (0 : Int) < (([_].length : Nat) : Int); simp⟩
theorem stay_acc {v : Int} (h0 : 0 ≤ v) (h6 : v ≤ 6) (f : Bool) {w : List Nat} (hw : Wd (stayD v f) w) : acc (stayD v f) w = f := by
  have hv := stay_valid h0 h6 f
  have h1 := runN_lt hv (start_lt hv) w hw
  have h2 : runN (stayD v f) (stayD v f).start.toNat w = 0 := Nat.lt_one_iff.1 h1
  unfold acc; rw [h2]; rfl
def LeastA (d : DFA) : Option (List Nat) → Prop
  | some w => Wd d w ∧ acc d w = true ∧ ∀ u, Wd d u → acc d u = true → code w ≤ code u
  | none => ∀ u, Wd d u → acc d u = false
theorem LeastA.unique {d : DFA} (hv : Valid d) {a b : Option (List Nat)} (ha : LeastA d a) (hb : LeastA d b) : a = b := by
  cases a with
  | none =>
    cases b with
    | none => rfl
    | some w => have := ha w hb.1; rw [hb.2.1] at this; cases this
  | some w =>
    cases b with
    | none => have := hb w ha.1; rw [ha.2.1] at this; cases this
    | some u =>
      have h1 := ha.2.2 u hb.1 hb.2.1
      have h2 := hb.2.2 w ha.1 ha.2.1
      rw [code_inj w u (hv.wd64 ha.1) (hv.wd64 hb.1) (Nat.le_antisymm h1 h2)]
theorem LeastA.congr {d e : DFA} (hv : d.vars = e.vars) (h : ∀ w, Wd d w → acc d w = acc e w) {r : Option (List Nat)} (hr : LeastA d r) : LeastA e r := by
  have hwd : ∀ w, Wd e w → Wd d w := fun w hw y hy => by have := hw y hy; unfold letN at *; rw [hv]; exact this
  have hwe : ∀ w, Wd d w → Wd e w := fun w hw y hy => by have := hw y hy; unfold letN at *; rw [← hv]; exact this
  cases r with
  | none => exact fun u hu => by rw [← h u (hwd u hu)]; exact hr u (hwd u hu)
  | some w => exact ⟨hwe w hr.1, by rw [← h w hr.1]; exact hr.2.1, fun u hu hau => hr.2.2 u (hwd u hu) (by rw [h u (hwd u hu)]; exact hau)⟩
theorem tell_least {m : DFA} (hm : Valid m) (hn : m.next.length + 1 ≤ 4096) {r : Option (List Nat)} (h : Tell (both m (stayD m.vars false)) m.start.toNat m.next.length r) : LeastA m r := by
  have hs := stay_valid hm.v0 hm.v6 false
  have hd : ∀ w, Wd m w → (dst (both m (stayD m.vars false)) m.start.toNat m.next.length w ↔ acc m w = true) := fun w hw => by
    have h1 := both_dst (a := m) (b := stayD m.vars false) hm hs rfl hw
    rw [show m.next.length + (stayD m.vars false).start.toNat = m.next.length from rfl] at h1
    rw [h1, stay_acc hm.v0 hm.v6 false (show Wd (stayD m.vars false) w from hw)]
    cases acc m w <;> simp
  cases r with
  | none =>
    have h : ∀ u, Wd m u → ¬ dst (both m (stayD m.vars false)) m.start.toNat m.next.length u := h
    exact fun u hu => by
      have := mt (hd u hu).2 (h u hu)
      simpa using this
  | some w =>
    have h : IsLeast (both m (stayD m.vars false)) m.start.toNat m.next.length w := h
    have hw : Wd m w := h.wd
    exact ⟨hw, (hd w hw).1 h.dst, fun u hu ha => h.le u hu ((hd u hu).2 ha)⟩
end Go.Lx
