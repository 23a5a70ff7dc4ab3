/- Contracts of functions of the program (Awk): what each call answers and that it leaves memory as it was. Conditions: those each theorem names. -/
import Derived.Test.YthfemndklplpbaaDoorUni
import Derived.Test.YthfemndklplpbaaDoorDR
set_option linter.unusedSectionVars false
set_option linter.unusedSimpArgs false
set_option linter.unusedVariables false
set_option linter.unnecessarySimpa false
namespace Go.Proofs.YthfemndklplpbaaDoor
open Go.Lx Go.RowKit
set_option linter.unusedVariables false
set_option linter.unusedSimpArgs false

theorem equalNats (w : World) (b1 b2 : Option Addr) (c1 c2 m n : Nat) (xs ys : List Nat) (hm : m = xs.length) (hn : n = ys.length) (h1 : Sl w b1 (nats xs)) (h2 : Sl w b2 (nats ys)) (hb : xs.length < 9223372036854775807) :
    PureT Tryd.prog 21 [.slice b1 m c1, .slice b2 n c2] w fun v N => v = .bool (decide (xs = ys)) ∧ N = [] := by
  subst hm; subst hn
  have h := equalInts w b1 b2 c1 c2 (xs.map fun x : Nat => (x : Int)) (ys.map fun x : Nat => (x : Int)) (by simpa [Function.comp_def] using h1) (by simpa [Function.comp_def] using h2) (by simpa using hb)
  have e : decide ((xs.map fun x : Nat => (x : Int)) = ys.map fun x : Nat => (x : Int)) = decide (xs = ys) := decide_eq_decide.2 ⟨fun h => castL h, fun h => by rw [h]⟩
  rw [e, List.length_map, List.length_map] at h
  exact h

theorem equalDFA0 (w : World) (d e : DFA) (nb1 nb2 fb1 fb2 : Option Addr) (nc1 nc2 fc1 fc2 : Nat) (vs us : List Value) (h1 : DfaAt w d nb1 vs fb1) (h2 : DfaAt w e nb2 us fb2) (hb : d.next.length < 9223372036854775807) (hbr : ∀ r ∈ d.next, r.length < 9223372036854775807) (hbf : d.final.length < 9223372036854775807) :
    PureT Tryd.prog 20 [.agg (dfaCells d nb1 nc1 fb1 fc1).toArray, .agg (dfaCells e nb2 nc2 fb2 fc2).toArray] w fun v N => v = .bool (decide (d = e)) ∧ N = [] :=
  (CallT.none (equalDFA w d e nb1 nb2 fb1 fb2 nc1 nc2 fc1 fc2 vs us h1 h2 hb hbr hbf)).mono fun v N ⟨h1, O2, h2, _⟩ => ⟨h2, h1⟩

theorem equalNatsT (w : World) (b1 b2 : Option Addr) (c1 c2 m n : Nat) (xs : List Nat) (hm : m = xs.length) (hn : n = xs.length) (h1 : Sl w b1 (nats xs)) (h2 : Sl w b2 (nats xs)) (hb : xs.length < 9223372036854775807) :
    PureT Tryd.prog 21 [.slice b1 m c1, .slice b2 n c2] w fun v N => v = .bool true ∧ N = [] :=
  (equalNats w b1 b2 c1 c2 m n xs xs hm hn h1 h2 hb).mono fun v N ⟨h1, h2⟩ => ⟨h1.trans (congrArg Value.bool (decide_eq_true rfl)), h2⟩

theorem equalDFAT (w : World) (d : DFA) (nb1 nb2 fb1 fb2 : Option Addr) (nc1 nc2 fc1 fc2 : Nat) (vs us : List Value) (h1 : DfaAt w d nb1 vs fb1) (h2 : DfaAt w d nb2 us fb2) (hb : d.next.length < 9223372036854775807) (hbr : ∀ r ∈ d.next, r.length < 9223372036854775807) (hbf : d.final.length < 9223372036854775807) :
    PureT Tryd.prog 20 [.agg (dfaCells d nb1 nc1 fb1 fc1).toArray, .agg (dfaCells d nb2 nc2 fb2 fc2).toArray] w fun v N => v = .bool true ∧ N = [] :=
  (equalDFA0 w d d nb1 nb2 fb1 fb2 nc1 nc2 fc1 fc2 vs us h1 h2 hb hbr hbf).mono fun v N ⟨h1, h2⟩ => ⟨h1.trans (congrArg Value.bool (decide_eq_true rfl)), h2⟩

theorem classesOkE (w : World) (d : DFA) (nb fb : Option Addr) (nc fc : Nat) (vs : List Value) (h : DfaAt w d nb vs fb) (hv : Valid d) (hn : d.next.length < 100) {xs : List Nat} (hx : itF d d.next.length = xs) :
    PureT Tryd.prog 18 [.agg (dfaCells d nb nc fb fc).toArray] w fun v N => ∃ b c, v = .tuple #[.slice b d.next.length c, .int .i64 0] ∧ N = [rowI b c 3 1 (nats xs)] := by
  subst hx; exact classesOk w d nb fb nc fc vs h hv hn

theorem roundsOkE (w : World) (d : DFA) (nb fb : Option Addr) (nc fc : Nat) (vs : List Value) (h : DfaAt w d nb vs fb) (hv : Valid d) (hn : d.next.length < 100) (k : Int) (hk9 : k ≤ 9223372036854775807) {xs : List Nat} (hx : itF d k.toNat = xs) :
    PureT Tryd.prog 19 [.agg (dfaCells d nb nc fb fc).toArray, .int .i64 k] w fun v N => ∃ b c, v = .tuple #[.slice b d.next.length c, .int .i64 0] ∧ N = [rowI b c 3 1 (nats xs)] := by
  subst hx; exact roundsOk w d nb fb nc fc vs h hv hn k hk9

theorem minOkE (w : World) (d : DFA) (nb fb : Option Addr) (nc fc : Nat) (vs : List Value) (h : DfaAt w d nb vs fb) (hv : Valid d) (hn : d.next.length < 100) {M : DFA} (hM : minD d = M) :
    PureT Tryd.prog 17 [.agg (dfaCells d nb nc fb fc).toArray] w fun v N => ∃ nb' nc' fb' fc' qs, v = .tuple #[.agg (dfaCells M nb' nc' fb' fc').toArray, .int .i64 0] ∧ N = [rowI nb' nc' 33 1 (vals qs), rowI fb' fc' 4 1 (bools M.final)] ++ itms 3 qs ∧ nums qs = M.next := by
  subst hM
  exact minOk w d nb fb nc fc vs h hv hn (quo_itF hv _).1 (Nat.lt_of_le_of_lt (quo_itF hv _).2 hn)

set_option maxHeartbeats 1000000 in
set_option maxRecDepth 20000 in
theorem longC (w : World) (b : Option Addr) (c : Nat) (L : List DRec) (hS : Sl w b (dcells L)) (hD : ∀ r ∈ L, DfaAt w r.d r.nb r.vs r.fb) (hL : L.length < 9223372036854775807) (hB : ∀ r ∈ L, r.d.next.length < 9223372036854775807) :
    PureT Tryd.prog 10 [.slice b L.length c] w fun v N => v = .bool (L.any fun r => longD r.d) ∧ N = [] := by
  refine CallT.enter Tryd.func10 rfl Tryd.ntmps10 rfl ?_
  refine T.seq ?_
  refine T.region ?_
  refine TO.quiet (q_assign rfl) ?_
  refine TO.nil ?_
  refine T.seq ?_
  refine T.seq ?_
  refine T.region ?_
  refine TO.quiet (q_assign rfl) ?_
  refine TO.nil ?_
  refine T.block ?_
  refine T.loop (fun (i : Nat) ρ O => O = [] ∧ i ≤ L.length ∧ (L.take i).any (fun r => longD r.d) = false ∧ Heads [(0, (.slice b L.length c)), (3, .int .i64 (i : Int))] ρ) (fun i => L.length - i) 0 ?_ ?_
  · exact ⟨rfl, Nat.zero_le _, rfl, ⟨rfl, rfl, trivial⟩⟩
  · rintro i ρ O ⟨rfl, hi, hany, hH⟩
    obtain ⟨ρ0, rfl⟩ := hH.elim
    clear hH
    refine T.seq ?_
    refine T.seq ?_
    refine T.region ?_
    refine TO.quiet (q_move rfl) ?_
    refine TO.quiet (q_move rfl) ?_
    refine TO.quiet (q_len Tryd.underlying58 rfl) ?_
    refine TO.quiet (q_lss rfl rfl) ?_
    refine TO.nil ?_
    refine T.condP rfl (fun hc => ?_) (fun hc => ?_)
    · have hlt8 : i < L.length := by omega
      refine T.skip ?_
      refine T.seq ?_
      refine T.block ?_
      refine T.seq ?_
      refine T.seq ?_
      refine T.region ?_
      refine TO.quiet (q_move rfl) ?_
      refine TO.quiet (q_move rfl) ?_
      refine TO.quiet (q_ixK (i := i) Tryd.underlying58 inf25 rfl rfl (Sl.o hS) hlt8 (by rw [dcells_len]; omega)) ?_
      refine TO.quiet (q_fieldEl Tryd.underlying25 rfl inf22 rfl rfl (Sl.o hS) (by rw [dcells_len]; omega)) ?_
      refine TO.quiet (q_ld Tryd.underlying22 rfl rfl (Sl.o hS) (show (dcells L)[i * 4 + 2]? = some (.slice L[i].nb L[i].d.next.length L[i].nc) by rw [dcells_get hlt8 (by decide)]; rfl)) ?_
      refine TO.quiet (q_len Tryd.underlying22 rfl) ?_
      by_cases h1 : (L[i].d.next.length : Int) > 40
      · refine TO.quiet (QT.toB (q_gtr rfl rfl) (decide_eq_true h1)) ?_
        refine TO.quiet (q_move rfl) ?_
        refine TO.passed rfl rfl ?_
        refine TO.passed rfl rfl ?_
        refine TO.passed rfl rfl ?_
        refine TO.passed rfl rfl ?_
        refine TO.passed rfl rfl ?_
        refine TO.passed rfl rfl ?_
        refine TO.passed rfl rfl ?_
        refine TO.quiet (q_pick1 rfl rfl) ?_
        refine TO.nil ?_
        refine T.cond1 rfl ?_
        refine T.seq ?_
        refine T.region ?_
        refine TO.quiet (q_assign rfl) ?_
        refine TO.nil ?_
        refine T.ret ?_
        refine Res.one (.bool true) Tryd.results10 rfl ?_
        exact ⟨congrArg Value.bool (any_at hlt8 (by simp only [longD, Bool.or_eq_true, decide_eq_true_eq]; exact .inl (.inl (by omega)))).symm, rfl⟩
      · refine TO.quiet (QT.toB (q_gtr rfl rfl) (decide_eq_false h1)) ?_
        refine TO.quiet (q_move rfl) ?_
        refine TO.guarded rfl rfl rfl (LT.of_quiet rfl rfl (q_move rfl) ?_)
        refine TO.guarded rfl rfl rfl (LT.of_quiet rfl rfl (q_move rfl) ?_)
        refine TO.guarded rfl rfl rfl (LT.of_quiet rfl rfl (q_ixK (i := i) Tryd.underlying58 inf25 rfl rfl (Sl.o hS) hlt8 (by rw [dcells_len]; omega)) ?_)
        refine TO.guarded rfl rfl rfl (LT.of_quiet rfl rfl (q_fieldEl Tryd.underlying25 rfl inf23 rfl rfl (Sl.o hS) (by rw [dcells_len]; omega)) ?_)
        refine TO.guarded rfl rfl rfl (LT.of_quiet rfl rfl (q_ld Tryd.underlying23 rfl rfl (Sl.o hS) (show (dcells L)[i * 4 + 3]? = some (.slice L[i].fb L[i].d.final.length L[i].fc) by rw [dcells_get hlt8 (by decide)]; rfl)) ?_)
        refine TO.guarded rfl rfl rfl (LT.of_quiet rfl rfl (q_len Tryd.underlying23 rfl) ?_)
        by_cases h2 : (L[i].d.final.length : Int) > 40
        · refine TO.guarded rfl rfl rfl (LT.of_quiet rfl rfl (QT.toB (q_gtr rfl rfl) (decide_eq_true h2)) ?_)
          refine TO.quiet (q_pick0 rfl rfl) ?_
          refine TO.nil ?_
          refine T.cond1 rfl ?_
          refine T.seq ?_
          refine T.region ?_
          refine TO.quiet (q_assign rfl) ?_
          refine TO.nil ?_
          refine T.ret ?_
          refine Res.one (.bool true) Tryd.results10 rfl ?_
          exact ⟨congrArg Value.bool (any_at hlt8 (by simp only [longD, Bool.or_eq_true, decide_eq_true_eq]; exact .inl (.inr (by omega)))).symm, rfl⟩
        · refine TO.guarded rfl rfl rfl (LT.of_quiet rfl rfl (QT.toB (q_gtr rfl rfl) (decide_eq_false h2)) ?_)
          refine TO.quiet (q_pick0 rfl rfl) ?_
          refine TO.nil ?_
          refine T.cond0 rfl ?_
          refine T.skip ?_
          refine T.seq ?_
          refine T.region ?_
          refine TO.quiet (q_assign rfl) ?_
          refine TO.nil ?_
          refine T.block ?_
          refine T.loop (fun (s : Nat) ρ O => O = [] ∧ s ≤ L[i].d.next.length ∧ (L[i].d.next.take s).any (fun r => decide (100 < r.length)) = false ∧ Heads [(0, (.slice b L.length c)), (3, .int .i64 (i : Int)), (4, .int .i64 (s : Int))] ρ) (fun s => L[i].d.next.length - s) 0 ?_ ?_
          · exact ⟨rfl, Nat.zero_le _, rfl, ⟨rfl, rfl, rfl, trivial⟩⟩
          · rintro s ρ O ⟨rfl, hs, hany2, hH⟩
            obtain ⟨ρ0, rfl⟩ := hH.elim
            clear hH
            refine T.seq ?_
            refine T.seq ?_
            refine T.region ?_
            refine TO.quiet (q_move rfl) ?_
            refine TO.quiet (q_move rfl) ?_
            refine TO.quiet (q_move rfl) ?_
            refine TO.quiet (q_ixK (i := i) Tryd.underlying58 inf25 rfl rfl (Sl.o hS) hlt8 (by rw [dcells_len]; omega)) ?_
            refine TO.quiet (q_fieldEl Tryd.underlying25 rfl inf22 rfl rfl (Sl.o hS) (by rw [dcells_len]; omega)) ?_
            refine TO.quiet (q_ld Tryd.underlying22 rfl rfl (Sl.o hS) (show (dcells L)[i * 4 + 2]? = some (.slice L[i].nb L[i].d.next.length L[i].nc) by rw [dcells_get hlt8 (by decide)]; rfl)) ?_
            refine TO.quiet (q_len Tryd.underlying22 rfl) ?_
            refine TO.quiet (q_lss rfl rfl) ?_
            refine TO.nil ?_
            refine T.condP rfl (fun hc => ?_) (fun hc => ?_)
            · have hlt34 : s < L[i].d.next.length := by omega
              obtain ⟨vb, vc, g1, s1⟩ := (hD _ (List.getElem_mem hlt8)).rows.get hlt34
              have hB9 := hB _ (List.getElem_mem hlt8)
              refine T.skip ?_
              refine T.seq ?_
              refine T.block ?_
              refine T.seq ?_
              refine T.region ?_
              refine TO.quiet (q_move rfl) ?_
              refine TO.quiet (q_move rfl) ?_
              refine TO.quiet (q_ixK (i := i) Tryd.underlying58 inf25 rfl rfl (Sl.o hS) hlt8 (by rw [dcells_len]; omega)) ?_
              refine TO.quiet (q_fieldEl Tryd.underlying25 rfl inf22 rfl rfl (Sl.o hS) (by rw [dcells_len]; omega)) ?_
              refine TO.quiet (q_ld Tryd.underlying22 rfl rfl (Sl.o hS) (show (dcells L)[i * 4 + 2]? = some (.slice L[i].nb L[i].d.next.length L[i].nc) by rw [dcells_get hlt8 (by decide)]; rfl)) ?_
              refine TO.quiet (q_move rfl) ?_
              refine TO.quiet (q_ix (i := s) Tryd.underlying22 inf33 rfl rfl (Sl.o (hD _ (List.getElem_mem hlt8)).outer) hlt34 (by rw [(hD _ (List.getElem_mem hlt8)).rows.1]; exact hlt34)) ?_
              refine TO.quiet (q_ld Tryd.underlying33 rfl rfl (Sl.o (hD _ (List.getElem_mem hlt8)).outer) g1) ?_
              refine TO.quiet (q_len Tryd.underlying33 rfl) ?_
              refine TO.quiet (q_gtr rfl rfl) ?_
              refine TO.nil ?_
              refine T.condP rfl (fun hc => ?_) (fun hc => ?_)
              · have hlt46 : L[i].d.next[s].length > 100 := by omega
                refine T.seq ?_
                refine T.region ?_
                refine TO.quiet (q_assign rfl) ?_
                refine TO.nil ?_
                refine T.ret ?_
                refine Res.one (.bool true) Tryd.results10 rfl ?_
                exact ⟨congrArg Value.bool (any_at hlt8 (by simp only [longD, Bool.or_eq_true, decide_eq_true_eq]; exact .inr (any_at hlt34 (by simp; omega)))).symm, rfl⟩
              · have hge46 : ¬ L[i].d.next[s].length > 100 := by omega
                refine T.skip ?_
                refine T.region ?_
                refine TO.quiet (q_move rfl) ?_
                refine TO.quiet (q_inc rfl rfl (by omega)) ?_
                refine TO.quiet (q_assign rfl) ?_
                refine TO.nil ?_
                exact ⟨s + 1, by omega, rfl, by omega, any_take hlt34 hany2 (by simp; omega), ⟨rfl, rfl, rfl, trivial⟩⟩
            · have hge34 : ¬ s < L[i].d.next.length := by omega
              refine T.exit ?_
              refine T.region ?_
              refine TO.quiet (q_move rfl) ?_
              refine TO.quiet (q_inc rfl rfl (by omega)) ?_
              refine TO.quiet (q_assign rfl) ?_
              refine TO.nil ?_
              have hLi : longD L[i].d = false := by
                simp only [longD, Bool.or_eq_false_iff, decide_eq_false_iff_not]
                exact ⟨⟨by omega, by omega⟩, by rwa [List.take_of_length_le (by omega)] at hany2⟩
              exact ⟨i + 1, by omega, rfl, by omega, any_take hlt8 hany hLi, ⟨rfl, rfl, trivial⟩⟩
    · have hge8 : ¬ i < L.length := by omega
      refine T.exit ?_
      refine T.seq ?_
      refine T.region ?_
      refine TO.quiet (q_assign rfl) ?_
      refine TO.nil ?_
      refine T.ret ?_
      refine Res.one (.bool false) Tryd.results10 rfl ?_
      exact ⟨congrArg Value.bool (by rw [List.take_of_length_le (by omega)] at hany; exact hany.symm), rfl⟩

theorem long1 (w : World) (b : Option Addr) (c : Nat) (d : DFA) (nb fb : Option Addr) (nc fc : Nat) (vs : List Value) (hS : Sl w b (dfaCells d nb nc fb fc)) (hD : DfaAt w d nb vs fb) (hB : d.next.length < 9223372036854775807) :
    PureT Tryd.prog 10 [.slice b 1 c] w fun v N => v = .bool (decide (longD d = true)) ∧ N = [] :=
  (longC w b c [⟨d, nb, fb, nc, fc, vs⟩] hS (allC hD allN) (show 1 < 9223372036854775807 by decide) (allC hB allN)).mono fun v N ⟨h1, h2⟩ => ⟨by rw [h1]; simp, h2⟩

abbrev onQ (r1 r2 r3 : Nat) : List Rec := [⟨some ⟨r1, 0, none⟩, 2, [1, 2]⟩, ⟨some ⟨r2, 0, none⟩, 2, [1, 2]⟩, ⟨some ⟨r3, 0, none⟩, 2, [2, 2]⟩]

set_option maxHeartbeats 1000000 in
set_option maxRecDepth 20000 in
theorem oneC (w : World) : PureT Tryd.prog 30 [] w fun v N => ∃ a f r1 r2 r3 : Nat, v = .agg (dfaCells oneD (some ⟨a, 0, none⟩) 3 (some ⟨f, 0, none⟩) 3).toArray ∧ N = [rowI (some ⟨f, 0, none⟩) 3 4 1 (bools [true, true, false]), rowI (some ⟨a, 0, none⟩) 3 33 1 (vals (onQ r1 r2 r3)), Rec.itm 3 ⟨some ⟨r3, 0, none⟩, 2, [2, 2]⟩, Rec.itm 3 ⟨some ⟨r2, 0, none⟩, 2, [1, 2]⟩, Rec.itm 3 ⟨some ⟨r1, 0, none⟩, 2, [1, 2]⟩] := by
  refine CallT.enter Tryd.func30 rfl Tryd.ntmps30 rfl ?_
  refine T.seq ?_
  refine T.region ?_
  refine TO.loud rfl (l_alloc inf25 rfl (fun b1 => ?_))
  refine TO.nil ?_
  refine T.seq ?_
  refine T.region ?_
  refine TO.loud rfl (l_buildSlice (m := 2) (parts := [(0, .const (.int .i64 1)), (1, .const (.int .i64 2))]) (cs := [.int .i64 1, .int .i64 2]) Tryd.underlying33 inf3 (by decide) (by kernel_rfl) rfl (fun b2 => ?_))
  refine TO.loud rfl (l_buildSlice (m := 2) (parts := [(0, .const (.int .i64 1)), (1, .const (.int .i64 2))]) (cs := [.int .i64 1, .int .i64 2]) Tryd.underlying33 inf3 (by decide) (by kernel_rfl) rfl (fun b3 => ?_))
  refine TO.loud rfl (l_buildSlice (m := 2) (parts := [(0, .const (.int .i64 2)), (1, .const (.int .i64 2))]) (cs := [.int .i64 2, .int .i64 2]) Tryd.underlying33 inf3 (by decide) (by kernel_rfl) rfl (fun b4 => ?_))
  refine TO.loud rfl (l_buildSlice (m := 3) (parts := [(0, .tmp 1), (1, .tmp 2), (2, .tmp 3)]) (cs := [(.slice (some ⟨b2, 0, none⟩) 2 2), (.slice (some ⟨b3, 0, none⟩) 2 2), (.slice (some ⟨b4, 0, none⟩) 2 2)]) Tryd.underlying22 inf33 (by decide) (by kernel_rfl) rfl (fun b5 => ?_))
  refine TO.loud rfl (l_buildSlice (m := 3) (parts := [(0, .const (.bool true)), (1, .const (.bool true)), (2, .const (.bool false))]) (cs := [.bool true, .bool true, .bool false]) Tryd.underlying23 inf4 (by decide) (by kernel_rfl) rfl (fun b6 => ?_))
  refine TO.quiet (q_build (cs := [.int .i64 1, (.int .i64 0), (.slice (some ⟨b5, 0, none⟩) 3 3), (.slice (some ⟨b6, 0, none⟩) 3 3)]) plan25 inf25 (by kernel_rfl)) ?_
  refine TO.loud rfl (l_store_box (v := (.agg #[.int .i64 1, (.int .i64 0), (.slice (some ⟨b5, 0, none⟩) 3 3), (.slice (some ⟨b6, 0, none⟩) 3 3)])) (vs := [.int .i64 1, (.int .i64 0), (.slice (some ⟨b5, 0, none⟩) 3 3), (.slice (some ⟨b6, 0, none⟩) 3 3)]) 5 inf25 rfl rfl rfl rfl rfl rfl (by simp [putL]) ?_)
  refine TO.nil ?_
  refine T.ret ?_
  refine Res.drop ?_
  refine Res.cell1 (i := 5) Tryd.results30 Tryd.underlying25 rfl inf25 rfl rfl rfl ?_
  exact ⟨[rowI (some ⟨b6, 0, none⟩) 3 4 1 [.bool true, .bool true, .bool false], rowI (some ⟨b5, 0, none⟩) 3 33 1 [(.slice (some ⟨b2, 0, none⟩) 2 2), (.slice (some ⟨b3, 0, none⟩) 2 2), (.slice (some ⟨b4, 0, none⟩) 2 2)], rowI (some ⟨b4, 0, none⟩) 2 3 1 [.int .i64 2, .int .i64 2], rowI (some ⟨b3, 0, none⟩) 2 3 1 [.int .i64 1, .int .i64 2], rowI (some ⟨b2, 0, none⟩) 2 3 1 [.int .i64 1, .int .i64 2]], (Sub.pick [0, 0, 0, 0, 0] rfl), _, _, _, _, _, rfl, rfl⟩

abbrev twQ (r1 r2 r3 : Nat) : List Rec := [⟨some ⟨r1, 0, none⟩, 1, [1]⟩, ⟨some ⟨r2, 0, none⟩, 1, [2]⟩, ⟨some ⟨r3, 0, none⟩, 1, [2]⟩]

set_option maxHeartbeats 1000000 in
set_option maxRecDepth 20000 in
theorem twoC (w : World) : PureT Tryd.prog 31 [] w fun v N => ∃ a f r1 r2 r3 : Nat, v = .agg (dfaCells twoD (some ⟨a, 0, none⟩) 3 (some ⟨f, 0, none⟩) 3).toArray ∧ N = [rowI (some ⟨f, 0, none⟩) 3 4 1 (bools [false, false, true]), rowI (some ⟨a, 0, none⟩) 3 33 1 (vals (twQ r1 r2 r3)), Rec.itm 3 ⟨some ⟨r3, 0, none⟩, 1, [2]⟩, Rec.itm 3 ⟨some ⟨r2, 0, none⟩, 1, [2]⟩, Rec.itm 3 ⟨some ⟨r1, 0, none⟩, 1, [1]⟩] := by
  refine CallT.enter Tryd.func31 rfl Tryd.ntmps31 rfl ?_
  refine T.seq ?_
  refine T.region ?_
  refine TO.loud rfl (l_alloc inf25 rfl (fun b1 => ?_))
  refine TO.nil ?_
  refine T.seq ?_
  refine T.region ?_
  refine TO.loud rfl (l_build1 (v := .int .i64 1) Tryd.underlying33 inf3 rfl rfl rfl (fun b2 => ?_))
  refine TO.loud rfl (l_build1 (v := .int .i64 2) Tryd.underlying33 inf3 rfl rfl rfl (fun b3 => ?_))
  refine TO.loud rfl (l_build1 (v := .int .i64 2) Tryd.underlying33 inf3 rfl rfl rfl (fun b4 => ?_))
  refine TO.loud rfl (l_buildSlice (m := 3) (parts := [(0, .tmp 1), (1, .tmp 2), (2, .tmp 3)]) (cs := [(.slice (some ⟨b2, 0, none⟩) 1 1), (.slice (some ⟨b3, 0, none⟩) 1 1), (.slice (some ⟨b4, 0, none⟩) 1 1)]) Tryd.underlying22 inf33 (by decide) (by kernel_rfl) rfl (fun b5 => ?_))
  refine TO.loud rfl (l_buildSlice (m := 3) (parts := [(0, .const (.bool false)), (1, .const (.bool false)), (2, .const (.bool true))]) (cs := [.bool false, .bool false, .bool true]) Tryd.underlying23 inf4 (by decide) (by kernel_rfl) rfl (fun b6 => ?_))
  refine TO.quiet (q_build (cs := [(.int .i64 0), (.int .i64 0), (.slice (some ⟨b5, 0, none⟩) 3 3), (.slice (some ⟨b6, 0, none⟩) 3 3)]) plan25 inf25 (by kernel_rfl)) ?_
  refine TO.loud rfl (l_store_box (v := (.agg #[(.int .i64 0), (.int .i64 0), (.slice (some ⟨b5, 0, none⟩) 3 3), (.slice (some ⟨b6, 0, none⟩) 3 3)])) (vs := [(.int .i64 0), (.int .i64 0), (.slice (some ⟨b5, 0, none⟩) 3 3), (.slice (some ⟨b6, 0, none⟩) 3 3)]) 5 inf25 rfl rfl rfl rfl rfl rfl (by simp [putL]) ?_)
  refine TO.nil ?_
  refine T.ret ?_
  refine Res.drop ?_
  refine Res.cell1 (i := 5) Tryd.results31 Tryd.underlying25 rfl inf25 rfl rfl rfl ?_
  exact ⟨[rowI (some ⟨b6, 0, none⟩) 3 4 1 [.bool false, .bool false, .bool true], rowI (some ⟨b5, 0, none⟩) 3 33 1 [(.slice (some ⟨b2, 0, none⟩) 1 1), (.slice (some ⟨b3, 0, none⟩) 1 1), (.slice (some ⟨b4, 0, none⟩) 1 1)], rowI (some ⟨b4, 0, none⟩) 1 3 1 [.int .i64 2], rowI (some ⟨b3, 0, none⟩) 1 3 1 [.int .i64 2], rowI (some ⟨b2, 0, none⟩) 1 3 1 [.int .i64 1]], (Sub.pick [0, 0, 0, 0, 0] rfl), _, _, _, _, _, rfl, rfl⟩

set_option maxHeartbeats 1000000 in
set_option maxRecDepth 20000 in
theorem eqvA (w : World) (d : DFA) (nb fb : Option Addr) (nc fc : Nat) (vs : List Value) (h : DfaAt w d nb vs fb) (hb : d.next.length < 9223372036854775807) (hbr : ∀ r ∈ d.next, r.length < 9223372036854775807) (hbf : d.final.length < 9223372036854775807) (hn : Valid d → d.next.length < 100) (s t : Int) :
    PureT Tryd.prog 27 [.agg (dfaCells d nb nc fb fc).toArray, .int .i64 s, .int .i64 t] w fun v N => ∃ res, TellA d s t res ∧ v = .tuple #[.bool (eqvV d s t res), .int .i64 (eD d s t : Int)] ∧ N = [] := by
  refine CallT.enter Tryd.func27 rfl Tryd.ntmps27 rfl ?_
  refine T.seq ?_
  refine T.region ?_
  refine TO.loud rfl (l_box (v := (.agg #[(.int .i64 d.vars), (.int .i64 d.start), (.slice nb d.next.length nc), (.slice fb d.final.length fc)])) (cs := [(.int .i64 d.vars), (.int .i64 d.start), (.slice nb d.next.length nc), (.slice fb d.final.length fc)]) rfl rfl (fun b1 => ?_))
  refine TO.quiet (q_assign rfl) ?_
  refine TO.quiet (q_assign rfl) ?_
  refine TO.nil ?_
  refine T.seq ?_
  refine T.region ?_
  refine TO.quiet (q_load_boxAgg 0 Tryd.underlying25 rfl inf25 rfl rfl rfl) ?_
  refine TO.quiet (q_move rfl) ?_
  refine TO.quiet (q_move rfl) ?_
  have hk15 := fun (w1 : World) (hI : Inv w [objI b1 (.cells (List.toArray [(.int .i64 d.vars), (.int .i64 d.start), (.slice nb d.next.length nc), (.slice fb d.final.length fc)]) 25 (0, 0))] w1) => distA w1 d nb fb nc fc vs (hI.dfa h) hb hbr hbf hn s t
  refine TO.loud rfl (l_call ent25 (CallT.of_pure hk15) rfl ?_)
  clear hk15
  rintro v O' ⟨N, rfl, res, wb, wc, hT, rfl, rfl⟩
  refine TO.quiet (q_move rfl) ?_
  refine TO.quiet (q_extract (vs := _) rfl rfl) ?_
  refine TO.quiet (q_extract (vs := _) rfl rfl) ?_
  refine TO.quiet (q_extract (vs := _) rfl rfl) ?_
  refine TO.quiet (q_assign rfl) ?_
  refine TO.quiet (q_assign rfl) ?_
  refine TO.quiet (q_assign rfl) ?_
  refine TO.nil ?_
  refine T.seq ?_
  refine T.region ?_
  refine TO.quiet (q_move rfl) ?_
  by_cases h0 : (eD d s t : Int) = 0
  · refine TO.quiet (QT.toB (q_eql rfl rfl) (decide_eq_true h0)) ?_
    refine TO.quiet (q_move rfl) ?_
    refine TO.guarded rfl rfl rfl (LT.of_quiet rfl rfl (q_move rfl) ?_)
    refine TO.guarded rfl rfl rfl (LT.of_quiet rfl rfl (q_not rfl) ?_)
    refine TO.quiet (q_pick1 rfl rfl) ?_
    refine TO.quiet (q_move rfl) ?_
    refine TO.quiet (q_assign rfl) ?_
    refine TO.quiet (q_assign rfl) ?_
    refine TO.nil ?_
    refine T.ret ?_
    refine Res.drop ?_
    refine Res.two (.bool (!res.isSome)) (.int .i64 (eD d s t : Int)) Tryd.results27 rfl rfl ?_
    have h9 : eD d s t = 0 := by omega
    exact ⟨[], Sub.of (List.nil_sublist _), res, hT, by unfold eqvV; rw [decide_eq_true h9]; rfl, rfl⟩
  · refine TO.quiet (QT.toB (q_eql rfl rfl) (decide_eq_false h0)) ?_
    refine TO.quiet (q_move rfl) ?_
    refine TO.passed rfl rfl ?_
    refine TO.passed rfl rfl ?_
    refine TO.quiet (q_pick0 rfl rfl) ?_
    refine TO.quiet (q_move rfl) ?_
    refine TO.quiet (q_assign rfl) ?_
    refine TO.quiet (q_assign rfl) ?_
    refine TO.nil ?_
    refine T.ret ?_
    refine Res.drop ?_
    refine Res.two (.bool false) (.int .i64 (eD d s t : Int)) Tryd.results27 rfl rfl ?_
    have h9 : ¬ eD d s t = 0 := by omega
    exact ⟨[], Sub.of (List.nil_sublist _), res, hT, by unfold eqvV; rw [decide_eq_false h9]; rfl, rfl⟩

set_option maxHeartbeats 4000000 in
set_option maxRecDepth 20000 in
theorem awakeC (w : World) : PureT Tryd.prog 12 [] w fun v N => v = .bool true ∧ N = [] := by
  refine CallT.enter Tryd.func12 rfl Tryd.ntmps12 rfl ?_
  refine T.seq ?_
  refine T.region ?_
  refine TO.quiet (q_assign rfl) ?_
  refine TO.nil ?_
  refine T.seq ?_
  refine T.region ?_
  have hk19 := fun (w1 : World) (hI : Inv w [] w1) => oneC w1
  refine TO.loud rfl (l_call ent30 (CallT.of_pure hk19) rfl ?_)
  clear hk19
  rintro v O' ⟨N, rfl, a1, f1, r1_1, r2_1, r3_1, rfl, rfl⟩
  have hk20 := fun (w1 : World) (hI : Inv w [rowI (some ⟨f1, 0, none⟩) 3 4 1 (bools [true, true, false]), rowI (some ⟨a1, 0, none⟩) 3 33 1 (vals (onQ r1_1 r2_1 r3_1)), Rec.itm 3 ⟨some ⟨r3_1, 0, none⟩, 2, [2, 2]⟩, Rec.itm 3 ⟨some ⟨r2_1, 0, none⟩, 2, [1, 2]⟩, Rec.itm 3 ⟨some ⟨r1_1, 0, none⟩, 2, [1, 2]⟩] w1) => classesOk w1 oneD (some ⟨a1, 0, none⟩) (some ⟨f1, 0, none⟩) 3 3 (vals (onQ r1_1 r2_1 r3_1)) (show DfaAt w1 oneD (some ⟨a1, 0, none⟩) (vals (onQ r1_1 r2_1 r3_1)) (some ⟨f1, 0, none⟩) from ⟨hI.slOf (List.mem_of_getElem? (i := 1) rfl), hI.recs (qs := onQ r1_1 r2_1 r3_1) (E := 3) (allC (List.mem_of_getElem? (i := 4) rfl) (allC (List.mem_of_getElem? (i := 3) rfl) (allC (List.mem_of_getElem? (i := 2) rfl) allN))), hI.slOf (List.mem_of_getElem? (i := 0) rfl)⟩) one_valid (by decide)
  refine TO.loud rfl (l_call ent18 (CallT.of_pure hk20) rfl ?_)
  clear hk20
  rintro v O' ⟨N, rfl, b1c, c1c, rfl, rfl⟩
  rw [show itF oneD oneD.next.length = [0, 0, 1] from one_it]
  refine TO.quiet (q_move rfl) ?_
  refine TO.quiet (q_extract (vs := _) rfl rfl) ?_
  refine TO.quiet (q_extract (vs := _) rfl rfl) ?_
  refine TO.quiet (q_assign rfl) ?_
  refine TO.quiet (q_assign rfl) ?_
  refine TO.sub (O' := [rowI b1c c1c 3 1 (nats [0, 0, 1])]) (Sub.pick [0] rfl) ?_
  refine TO.nil ?_
  refine T.seq ?_
  refine T.region ?_
  have hk24 := fun (w1 : World) (hI : Inv w [rowI b1c c1c 3 1 (nats [0, 0, 1])] w1) => oneC w1
  refine TO.loud rfl (l_call ent30 (CallT.of_pure hk24) rfl ?_)
  clear hk24
  rintro v O' ⟨N, rfl, a2, f2, r1_2, r2_2, r3_2, rfl, rfl⟩
  have hk25 := fun (w1 : World) (hI : Inv w [rowI (some ⟨f2, 0, none⟩) 3 4 1 (bools [true, true, false]), rowI (some ⟨a2, 0, none⟩) 3 33 1 (vals (onQ r1_2 r2_2 r3_2)), Rec.itm 3 ⟨some ⟨r3_2, 0, none⟩, 2, [2, 2]⟩, Rec.itm 3 ⟨some ⟨r2_2, 0, none⟩, 2, [1, 2]⟩, Rec.itm 3 ⟨some ⟨r1_2, 0, none⟩, 2, [1, 2]⟩, rowI b1c c1c 3 1 (nats [0, 0, 1])] w1) => minOk w1 oneD (some ⟨a2, 0, none⟩) (some ⟨f2, 0, none⟩) 3 3 (vals (onQ r1_2 r2_2 r3_2)) (show DfaAt w1 oneD (some ⟨a2, 0, none⟩) (vals (onQ r1_2 r2_2 r3_2)) (some ⟨f2, 0, none⟩) from ⟨hI.slOf (List.mem_of_getElem? (i := 1) rfl), hI.recs (qs := onQ r1_2 r2_2 r3_2) (E := 3) (allC (List.mem_of_getElem? (i := 4) rfl) (allC (List.mem_of_getElem? (i := 3) rfl) (allC (List.mem_of_getElem? (i := 2) rfl) allN))), hI.slOf (List.mem_of_getElem? (i := 0) rfl)⟩) one_valid (by decide) (quo_itF one_valid _).1 (Nat.lt_of_le_of_lt (quo_itF one_valid _).2 (by decide))
  refine TO.loud rfl (l_call ent17 (CallT.of_pure hk25) rfl ?_)
  clear hk25
  rintro v O' ⟨N, rfl, nbm, ncm, fbm, fcm, qm, rfl, rfl, hnm⟩
  have hM1 : renum (quo oneD (itF oneD oneD.next.length)) = oneM := one_min
  rw [hM1] at hnm ⊢
  refine TO.sub (O' := ([rowI nbm ncm 33 1 (vals qm), rowI fbm fcm 4 1 (bools oneM.final), rowI (some ⟨f2, 0, none⟩) 3 4 1 (bools [true, true, false]), rowI (some ⟨a2, 0, none⟩) 3 33 1 (vals (onQ r1_2 r2_2 r3_2)), Rec.itm 3 ⟨some ⟨r3_2, 0, none⟩, 2, [2, 2]⟩, Rec.itm 3 ⟨some ⟨r2_2, 0, none⟩, 2, [1, 2]⟩, Rec.itm 3 ⟨some ⟨r1_2, 0, none⟩, 2, [1, 2]⟩, rowI b1c c1c 3 1 (nats [0, 0, 1])] ++ (itms 3 qm))) (Sub.cnt [] (by intro a; simp only [itms, List.set_cons_zero, List.set_cons_succ, putL, List.cons_append, List.nil_append, List.append_nil, List.append_assoc, List.map_append, List.map_cons, List.map_nil, cnt_append, cnt_cons, cnt_nil] <;> omega)) ?_
  refine TO.quiet (q_move rfl) ?_
  refine TO.quiet (q_extract (vs := _) rfl rfl) ?_
  refine TO.quiet (q_extract (vs := _) rfl rfl) ?_
  refine TO.loud rfl (l_alloc inf25 rfl (fun b1 => ?_))
  refine TO.loud rfl (l_store_box (v := (.agg #[(.int .i64 oneM.vars), (.int .i64 oneM.start), (.slice nbm oneM.next.length ncm), (.slice fbm oneM.final.length fcm)])) (vs := [(.int .i64 oneM.vars), (.int .i64 oneM.start), (.slice nbm oneM.next.length ncm), (.slice fbm oneM.final.length fcm)]) 0 inf25 rfl rfl rfl rfl rfl rfl (by simp [putL]) ?_)
  refine TO.quiet (q_assign rfl) ?_
  refine TO.sub (O' := ([objI b1 (.cells (List.toArray [(.int .i64 oneM.vars), (.int .i64 oneM.start), (.slice nbm oneM.next.length ncm), (.slice fbm oneM.final.length fcm)]) 25 (0, 0)), rowI nbm ncm 33 1 (vals qm), rowI fbm fcm 4 1 (bools oneM.final), rowI b1c c1c 3 1 (nats [0, 0, 1])] ++ (itms 3 qm))) (Sub.pickR [0, 0, 0, 5] [objI b1 (.cells (List.toArray [(.int .i64 oneM.vars), (.int .i64 oneM.start), (.slice nbm oneM.next.length ncm), (.slice fbm oneM.final.length fcm)]) 25 (0, 0)), rowI nbm ncm 33 1 (vals qm), rowI fbm fcm 4 1 (bools oneM.final), rowI (some ⟨f2, 0, none⟩) 3 4 1 (bools [true, true, false]), rowI (some ⟨a2, 0, none⟩) 3 33 1 (vals (onQ r1_2 r2_2 r3_2)), Rec.itm 3 ⟨some ⟨r3_2, 0, none⟩, 2, [2, 2]⟩, Rec.itm 3 ⟨some ⟨r2_2, 0, none⟩, 2, [1, 2]⟩, Rec.itm 3 ⟨some ⟨r1_2, 0, none⟩, 2, [1, 2]⟩, rowI b1c c1c 3 1 (nats [0, 0, 1])] (itms 3 qm) rfl rfl) ?_
  refine TO.nil ?_
  refine T.seq ?_
  refine T.region ?_
  have hk29 := fun (w1 : World) (hI : Inv w ([objI b1 (.cells (List.toArray [(.int .i64 oneM.vars), (.int .i64 oneM.start), (.slice nbm oneM.next.length ncm), (.slice fbm oneM.final.length fcm)]) 25 (0, 0)), rowI nbm ncm 33 1 (vals qm), rowI fbm fcm 4 1 (bools oneM.final), rowI b1c c1c 3 1 (nats [0, 0, 1])] ++ (itms 3 qm)) w1) => oneC w1
  refine TO.loud rfl (l_call ent30 (CallT.of_pure hk29) rfl ?_)
  clear hk29
  rintro v O' ⟨N, rfl, a3, f3, r1_3, r2_3, r3_3, rfl, rfl⟩
  have hk30 := fun (w1 : World) (hI : Inv w ([rowI (some ⟨f3, 0, none⟩) 3 4 1 (bools [true, true, false]), rowI (some ⟨a3, 0, none⟩) 3 33 1 (vals (onQ r1_3 r2_3 r3_3)), Rec.itm 3 ⟨some ⟨r3_3, 0, none⟩, 2, [2, 2]⟩, Rec.itm 3 ⟨some ⟨r2_3, 0, none⟩, 2, [1, 2]⟩, Rec.itm 3 ⟨some ⟨r1_3, 0, none⟩, 2, [1, 2]⟩, objI b1 (.cells (List.toArray [(.int .i64 oneM.vars), (.int .i64 oneM.start), (.slice nbm oneM.next.length ncm), (.slice fbm oneM.final.length fcm)]) 25 (0, 0)), rowI nbm ncm 33 1 (vals qm), rowI fbm fcm 4 1 (bools oneM.final), rowI b1c c1c 3 1 (nats [0, 0, 1])] ++ (itms 3 qm)) w1) => distOk w1 oneD (some ⟨a3, 0, none⟩) (some ⟨f3, 0, none⟩) 3 3 (vals (onQ r1_3 r2_3 r3_3)) (show DfaAt w1 oneD (some ⟨a3, 0, none⟩) (vals (onQ r1_3 r2_3 r3_3)) (some ⟨f3, 0, none⟩) from ⟨hI.slOf (List.mem_of_getElem? (i := 1) rfl), hI.recs (qs := onQ r1_3 r2_3 r3_3) (E := 3) (allC (List.mem_of_getElem? (i := 4) rfl) (allC (List.mem_of_getElem? (i := 3) rfl) (allC (List.mem_of_getElem? (i := 2) rfl) allN))), hI.slOf (List.mem_of_getElem? (i := 0) rfl)⟩) one_valid (by decide) 0 2 (by decide) (by decide)
  refine TO.loud rfl (l_call ent25 (CallT.of_pure hk30) rfl ?_)
  clear hk30
  rintro v O' ⟨N, rfl, res, hT, hV⟩
  obtain rfl := one_tell02 hT
  obtain ⟨b3c, c3c, rfl, rfl⟩ := hV
  refine TO.quiet (q_move rfl) ?_
  refine TO.quiet (q_extract (vs := _) rfl rfl) ?_
  refine TO.quiet (q_extract (vs := _) rfl rfl) ?_
  refine TO.quiet (q_extract (vs := _) rfl rfl) ?_
  refine TO.quiet (q_assign rfl) ?_
  refine TO.quiet (q_assign rfl) ?_
  refine TO.quiet (q_assign rfl) ?_
  refine TO.sub (O' := ([rowI b3c c3c 5 1 (byts []), objI b1 (.cells (List.toArray [(.int .i64 oneM.vars), (.int .i64 oneM.start), (.slice nbm oneM.next.length ncm), (.slice fbm oneM.final.length fcm)]) 25 (0, 0)), rowI nbm ncm 33 1 (vals qm), rowI fbm fcm 4 1 (bools oneM.final), rowI b1c c1c 3 1 (nats [0, 0, 1])] ++ (itms 3 qm))) (Sub.pickR [0, 5, 5, 5, 5] [rowI b3c c3c 5 1 (byts []), rowI (some ⟨f3, 0, none⟩) 3 4 1 (bools [true, true, false]), rowI (some ⟨a3, 0, none⟩) 3 33 1 (vals (onQ r1_3 r2_3 r3_3)), Rec.itm 3 ⟨some ⟨r3_3, 0, none⟩, 2, [2, 2]⟩, Rec.itm 3 ⟨some ⟨r2_3, 0, none⟩, 2, [1, 2]⟩, Rec.itm 3 ⟨some ⟨r1_3, 0, none⟩, 2, [1, 2]⟩, objI b1 (.cells (List.toArray [(.int .i64 oneM.vars), (.int .i64 oneM.start), (.slice nbm oneM.next.length ncm), (.slice fbm oneM.final.length fcm)]) 25 (0, 0)), rowI nbm ncm 33 1 (vals qm), rowI fbm fcm 4 1 (bools oneM.final), rowI b1c c1c 3 1 (nats [0, 0, 1])] (itms 3 qm) rfl rfl) ?_
  refine TO.nil ?_
  refine T.seq ?_
  refine T.region ?_
  have hk35 := fun (w1 : World) (hI : Inv w ([rowI b3c c3c 5 1 (byts []), objI b1 (.cells (List.toArray [(.int .i64 oneM.vars), (.int .i64 oneM.start), (.slice nbm oneM.next.length ncm), (.slice fbm oneM.final.length fcm)]) 25 (0, 0)), rowI nbm ncm 33 1 (vals qm), rowI fbm fcm 4 1 (bools oneM.final), rowI b1c c1c 3 1 (nats [0, 0, 1])] ++ (itms 3 qm)) w1) => oneC w1
  refine TO.loud rfl (l_call ent30 (CallT.of_pure hk35) rfl ?_)
  clear hk35
  rintro v O' ⟨N, rfl, a4, f4, r1_4, r2_4, r3_4, rfl, rfl⟩
  have hk36 := fun (w1 : World) (hI : Inv w ([rowI (some ⟨f4, 0, none⟩) 3 4 1 (bools [true, true, false]), rowI (some ⟨a4, 0, none⟩) 3 33 1 (vals (onQ r1_4 r2_4 r3_4)), Rec.itm 3 ⟨some ⟨r3_4, 0, none⟩, 2, [2, 2]⟩, Rec.itm 3 ⟨some ⟨r2_4, 0, none⟩, 2, [1, 2]⟩, Rec.itm 3 ⟨some ⟨r1_4, 0, none⟩, 2, [1, 2]⟩, rowI b3c c3c 5 1 (byts []), objI b1 (.cells (List.toArray [(.int .i64 oneM.vars), (.int .i64 oneM.start), (.slice nbm oneM.next.length ncm), (.slice fbm oneM.final.length fcm)]) 25 (0, 0)), rowI nbm ncm 33 1 (vals qm), rowI fbm fcm 4 1 (bools oneM.final), rowI b1c c1c 3 1 (nats [0, 0, 1])] ++ (itms 3 qm)) w1) => distOk w1 oneD (some ⟨a4, 0, none⟩) (some ⟨f4, 0, none⟩) 3 3 (vals (onQ r1_4 r2_4 r3_4)) (show DfaAt w1 oneD (some ⟨a4, 0, none⟩) (vals (onQ r1_4 r2_4 r3_4)) (some ⟨f4, 0, none⟩) from ⟨hI.slOf (List.mem_of_getElem? (i := 1) rfl), hI.recs (qs := onQ r1_4 r2_4 r3_4) (E := 3) (allC (List.mem_of_getElem? (i := 4) rfl) (allC (List.mem_of_getElem? (i := 3) rfl) (allC (List.mem_of_getElem? (i := 2) rfl) allN))), hI.slOf (List.mem_of_getElem? (i := 0) rfl)⟩) one_valid (by decide) 0 1 (by decide) (by decide)
  refine TO.loud rfl (l_call ent25 (CallT.of_pure hk36) rfl ?_)
  clear hk36
  rintro v O' ⟨N, rfl, res, hT, hV⟩
  obtain rfl := one_tell01 hT
  obtain ⟨rfl, rfl⟩ := hV
  refine TO.quiet (q_move rfl) ?_
  refine TO.quiet (q_extract (vs := _) rfl rfl) ?_
  refine TO.quiet (q_extract (vs := _) rfl rfl) ?_
  refine TO.quiet (q_extract (vs := _) rfl rfl) ?_
  refine TO.quiet (q_assign rfl) ?_
  refine TO.quiet (q_assign rfl) ?_
  refine TO.quiet (q_assign rfl) ?_
  refine TO.sub (O' := ([rowI b3c c3c 5 1 (byts []), objI b1 (.cells (List.toArray [(.int .i64 oneM.vars), (.int .i64 oneM.start), (.slice nbm oneM.next.length ncm), (.slice fbm oneM.final.length fcm)]) 25 (0, 0)), rowI nbm ncm 33 1 (vals qm), rowI fbm fcm 4 1 (bools oneM.final), rowI b1c c1c 3 1 (nats [0, 0, 1])] ++ (itms 3 qm))) (Sub.pickR [5, 5, 5, 5, 5] [rowI (some ⟨f4, 0, none⟩) 3 4 1 (bools [true, true, false]), rowI (some ⟨a4, 0, none⟩) 3 33 1 (vals (onQ r1_4 r2_4 r3_4)), Rec.itm 3 ⟨some ⟨r3_4, 0, none⟩, 2, [2, 2]⟩, Rec.itm 3 ⟨some ⟨r2_4, 0, none⟩, 2, [1, 2]⟩, Rec.itm 3 ⟨some ⟨r1_4, 0, none⟩, 2, [1, 2]⟩, rowI b3c c3c 5 1 (byts []), objI b1 (.cells (List.toArray [(.int .i64 oneM.vars), (.int .i64 oneM.start), (.slice nbm oneM.next.length ncm), (.slice fbm oneM.final.length fcm)]) 25 (0, 0)), rowI nbm ncm 33 1 (vals qm), rowI fbm fcm 4 1 (bools oneM.final), rowI b1c c1c 3 1 (nats [0, 0, 1])] (itms 3 qm) rfl rfl) ?_
  refine TO.nil ?_
  refine T.seq ?_
  refine T.region ?_
  have hk41 := fun (w1 : World) (hI : Inv w ([rowI b3c c3c 5 1 (byts []), objI b1 (.cells (List.toArray [(.int .i64 oneM.vars), (.int .i64 oneM.start), (.slice nbm oneM.next.length ncm), (.slice fbm oneM.final.length fcm)]) 25 (0, 0)), rowI nbm ncm 33 1 (vals qm), rowI fbm fcm 4 1 (bools oneM.final), rowI b1c c1c 3 1 (nats [0, 0, 1])] ++ (itms 3 qm)) w1) => twoC w1
  refine TO.loud rfl (l_call ent31 (CallT.of_pure hk41) rfl ?_)
  clear hk41
  rintro v O' ⟨N, rfl, a5, f5, r1_5, r2_5, r3_5, rfl, rfl⟩
  have hk42 := fun (w1 : World) (hI : Inv w ([rowI (some ⟨f5, 0, none⟩) 3 4 1 (bools [false, false, true]), rowI (some ⟨a5, 0, none⟩) 3 33 1 (vals (twQ r1_5 r2_5 r3_5)), Rec.itm 3 ⟨some ⟨r3_5, 0, none⟩, 1, [2]⟩, Rec.itm 3 ⟨some ⟨r2_5, 0, none⟩, 1, [2]⟩, Rec.itm 3 ⟨some ⟨r1_5, 0, none⟩, 1, [1]⟩, rowI b3c c3c 5 1 (byts []), objI b1 (.cells (List.toArray [(.int .i64 oneM.vars), (.int .i64 oneM.start), (.slice nbm oneM.next.length ncm), (.slice fbm oneM.final.length fcm)]) 25 (0, 0)), rowI nbm ncm 33 1 (vals qm), rowI fbm fcm 4 1 (bools oneM.final), rowI b1c c1c 3 1 (nats [0, 0, 1])] ++ (itms 3 qm)) w1) => roundsOk w1 twoD (some ⟨a5, 0, none⟩) (some ⟨f5, 0, none⟩) 3 3 (vals (twQ r1_5 r2_5 r3_5)) (show DfaAt w1 twoD (some ⟨a5, 0, none⟩) (vals (twQ r1_5 r2_5 r3_5)) (some ⟨f5, 0, none⟩) from ⟨hI.slOf (List.mem_of_getElem? (i := 1) rfl), hI.recs (qs := twQ r1_5 r2_5 r3_5) (E := 3) (allC (List.mem_of_getElem? (i := 4) rfl) (allC (List.mem_of_getElem? (i := 3) rfl) (allC (List.mem_of_getElem? (i := 2) rfl) allN))), hI.slOf (List.mem_of_getElem? (i := 0) rfl)⟩) two_valid (by decide) 0 (by decide)
  refine TO.loud rfl (l_call ent19 (CallT.of_pure hk42) rfl ?_)
  clear hk42
  rintro v O' ⟨N, rfl, b5c, c5c, rfl, rfl⟩
  rw [show itF twoD (0 : Int).toNat = [0, 0, 1] from two_it0]
  refine TO.quiet (q_move rfl) ?_
  refine TO.quiet (q_extract (vs := _) rfl rfl) ?_
  refine TO.quiet (q_extract (vs := _) rfl rfl) ?_
  refine TO.quiet (q_assign rfl) ?_
  refine TO.quiet (q_assign rfl) ?_
  refine TO.sub (O' := ([rowI b5c c5c 3 1 (nats [0, 0, 1]), rowI b3c c3c 5 1 (byts []), objI b1 (.cells (List.toArray [(.int .i64 oneM.vars), (.int .i64 oneM.start), (.slice nbm oneM.next.length ncm), (.slice fbm oneM.final.length fcm)]) 25 (0, 0)), rowI nbm ncm 33 1 (vals qm), rowI fbm fcm 4 1 (bools oneM.final), rowI b1c c1c 3 1 (nats [0, 0, 1])] ++ (itms 3 qm))) (Sub.pickR [0, 5, 5, 5, 5, 5] [rowI b5c c5c 3 1 (nats [0, 0, 1]), rowI (some ⟨f5, 0, none⟩) 3 4 1 (bools [false, false, true]), rowI (some ⟨a5, 0, none⟩) 3 33 1 (vals (twQ r1_5 r2_5 r3_5)), Rec.itm 3 ⟨some ⟨r3_5, 0, none⟩, 1, [2]⟩, Rec.itm 3 ⟨some ⟨r2_5, 0, none⟩, 1, [2]⟩, Rec.itm 3 ⟨some ⟨r1_5, 0, none⟩, 1, [1]⟩, rowI b3c c3c 5 1 (byts []), objI b1 (.cells (List.toArray [(.int .i64 oneM.vars), (.int .i64 oneM.start), (.slice nbm oneM.next.length ncm), (.slice fbm oneM.final.length fcm)]) 25 (0, 0)), rowI nbm ncm 33 1 (vals qm), rowI fbm fcm 4 1 (bools oneM.final), rowI b1c c1c 3 1 (nats [0, 0, 1])] (itms 3 qm) rfl rfl) ?_
  refine TO.nil ?_
  refine T.seq ?_
  refine T.region ?_
  have hk46 := fun (w1 : World) (hI : Inv w ([rowI b5c c5c 3 1 (nats [0, 0, 1]), rowI b3c c3c 5 1 (byts []), objI b1 (.cells (List.toArray [(.int .i64 oneM.vars), (.int .i64 oneM.start), (.slice nbm oneM.next.length ncm), (.slice fbm oneM.final.length fcm)]) 25 (0, 0)), rowI nbm ncm 33 1 (vals qm), rowI fbm fcm 4 1 (bools oneM.final), rowI b1c c1c 3 1 (nats [0, 0, 1])] ++ (itms 3 qm)) w1) => twoC w1
  refine TO.loud rfl (l_call ent31 (CallT.of_pure hk46) rfl ?_)
  clear hk46
  rintro v O' ⟨N, rfl, a6, f6, r1_6, r2_6, r3_6, rfl, rfl⟩
  have hk47 := fun (w1 : World) (hI : Inv w ([rowI (some ⟨f6, 0, none⟩) 3 4 1 (bools [false, false, true]), rowI (some ⟨a6, 0, none⟩) 3 33 1 (vals (twQ r1_6 r2_6 r3_6)), Rec.itm 3 ⟨some ⟨r3_6, 0, none⟩, 1, [2]⟩, Rec.itm 3 ⟨some ⟨r2_6, 0, none⟩, 1, [2]⟩, Rec.itm 3 ⟨some ⟨r1_6, 0, none⟩, 1, [1]⟩, rowI b5c c5c 3 1 (nats [0, 0, 1]), rowI b3c c3c 5 1 (byts []), objI b1 (.cells (List.toArray [(.int .i64 oneM.vars), (.int .i64 oneM.start), (.slice nbm oneM.next.length ncm), (.slice fbm oneM.final.length fcm)]) 25 (0, 0)), rowI nbm ncm 33 1 (vals qm), rowI fbm fcm 4 1 (bools oneM.final), rowI b1c c1c 3 1 (nats [0, 0, 1])] ++ (itms 3 qm)) w1) => roundsOk w1 twoD (some ⟨a6, 0, none⟩) (some ⟨f6, 0, none⟩) 3 3 (vals (twQ r1_6 r2_6 r3_6)) (show DfaAt w1 twoD (some ⟨a6, 0, none⟩) (vals (twQ r1_6 r2_6 r3_6)) (some ⟨f6, 0, none⟩) from ⟨hI.slOf (List.mem_of_getElem? (i := 1) rfl), hI.recs (qs := twQ r1_6 r2_6 r3_6) (E := 3) (allC (List.mem_of_getElem? (i := 4) rfl) (allC (List.mem_of_getElem? (i := 3) rfl) (allC (List.mem_of_getElem? (i := 2) rfl) allN))), hI.slOf (List.mem_of_getElem? (i := 0) rfl)⟩) two_valid (by decide) 1 (by decide)
  refine TO.loud rfl (l_call ent19 (CallT.of_pure hk47) rfl ?_)
  clear hk47
  rintro v O' ⟨N, rfl, b6c, c6c, rfl, rfl⟩
  rw [show itF twoD (1 : Int).toNat = [0, 1, 2] from two_it1]
  refine TO.quiet (q_move rfl) ?_
  refine TO.quiet (q_extract (vs := _) rfl rfl) ?_
  refine TO.quiet (q_extract (vs := _) rfl rfl) ?_
  refine TO.quiet (q_assign rfl) ?_
  refine TO.quiet (q_assign rfl) ?_
  refine TO.sub (O' := ([rowI b6c c6c 3 1 (nats [0, 1, 2]), rowI b5c c5c 3 1 (nats [0, 0, 1]), rowI b3c c3c 5 1 (byts []), objI b1 (.cells (List.toArray [(.int .i64 oneM.vars), (.int .i64 oneM.start), (.slice nbm oneM.next.length ncm), (.slice fbm oneM.final.length fcm)]) 25 (0, 0)), rowI nbm ncm 33 1 (vals qm), rowI fbm fcm 4 1 (bools oneM.final), rowI b1c c1c 3 1 (nats [0, 0, 1])] ++ (itms 3 qm))) (Sub.pickR [0, 5, 5, 5, 5, 5, 5] [rowI b6c c6c 3 1 (nats [0, 1, 2]), rowI (some ⟨f6, 0, none⟩) 3 4 1 (bools [false, false, true]), rowI (some ⟨a6, 0, none⟩) 3 33 1 (vals (twQ r1_6 r2_6 r3_6)), Rec.itm 3 ⟨some ⟨r3_6, 0, none⟩, 1, [2]⟩, Rec.itm 3 ⟨some ⟨r2_6, 0, none⟩, 1, [2]⟩, Rec.itm 3 ⟨some ⟨r1_6, 0, none⟩, 1, [1]⟩, rowI b5c c5c 3 1 (nats [0, 0, 1]), rowI b3c c3c 5 1 (byts []), objI b1 (.cells (List.toArray [(.int .i64 oneM.vars), (.int .i64 oneM.start), (.slice nbm oneM.next.length ncm), (.slice fbm oneM.final.length fcm)]) 25 (0, 0)), rowI nbm ncm 33 1 (vals qm), rowI fbm fcm 4 1 (bools oneM.final), rowI b1c c1c 3 1 (nats [0, 0, 1])] (itms 3 qm) rfl rfl) ?_
  refine TO.nil ?_
  refine T.seq ?_
  refine T.region ?_
  have hk51 := fun (w1 : World) (hI : Inv w ([rowI b6c c6c 3 1 (nats [0, 1, 2]), rowI b5c c5c 3 1 (nats [0, 0, 1]), rowI b3c c3c 5 1 (byts []), objI b1 (.cells (List.toArray [(.int .i64 oneM.vars), (.int .i64 oneM.start), (.slice nbm oneM.next.length ncm), (.slice fbm oneM.final.length fcm)]) 25 (0, 0)), rowI nbm ncm 33 1 (vals qm), rowI fbm fcm 4 1 (bools oneM.final), rowI b1c c1c 3 1 (nats [0, 0, 1])] ++ (itms 3 qm)) w1) => twoC w1
  refine TO.loud rfl (l_call ent31 (CallT.of_pure hk51) rfl ?_)
  clear hk51
  rintro v O' ⟨N, rfl, a7, f7, r1_7, r2_7, r3_7, rfl, rfl⟩
  have hk52 := fun (w1 : World) (hI : Inv w ([rowI (some ⟨f7, 0, none⟩) 3 4 1 (bools [false, false, true]), rowI (some ⟨a7, 0, none⟩) 3 33 1 (vals (twQ r1_7 r2_7 r3_7)), Rec.itm 3 ⟨some ⟨r3_7, 0, none⟩, 1, [2]⟩, Rec.itm 3 ⟨some ⟨r2_7, 0, none⟩, 1, [2]⟩, Rec.itm 3 ⟨some ⟨r1_7, 0, none⟩, 1, [1]⟩, rowI b6c c6c 3 1 (nats [0, 1, 2]), rowI b5c c5c 3 1 (nats [0, 0, 1]), rowI b3c c3c 5 1 (byts []), objI b1 (.cells (List.toArray [(.int .i64 oneM.vars), (.int .i64 oneM.start), (.slice nbm oneM.next.length ncm), (.slice fbm oneM.final.length fcm)]) 25 (0, 0)), rowI nbm ncm 33 1 (vals qm), rowI fbm fcm 4 1 (bools oneM.final), rowI b1c c1c 3 1 (nats [0, 0, 1])] ++ (itms 3 qm)) w1) => distOk w1 twoD (some ⟨a7, 0, none⟩) (some ⟨f7, 0, none⟩) 3 3 (vals (twQ r1_7 r2_7 r3_7)) (show DfaAt w1 twoD (some ⟨a7, 0, none⟩) (vals (twQ r1_7 r2_7 r3_7)) (some ⟨f7, 0, none⟩) from ⟨hI.slOf (List.mem_of_getElem? (i := 1) rfl), hI.recs (qs := twQ r1_7 r2_7 r3_7) (E := 3) (allC (List.mem_of_getElem? (i := 4) rfl) (allC (List.mem_of_getElem? (i := 3) rfl) (allC (List.mem_of_getElem? (i := 2) rfl) allN))), hI.slOf (List.mem_of_getElem? (i := 0) rfl)⟩) two_valid (by decide) 0 1 (by decide) (by decide)
  refine TO.loud rfl (l_call ent25 (CallT.of_pure hk52) rfl ?_)
  clear hk52
  rintro v O' ⟨N, rfl, res, hT, hV⟩
  obtain rfl := two_tell01 hT
  obtain ⟨b7c, c7c, rfl, rfl⟩ := hV
  refine TO.quiet (q_move rfl) ?_
  refine TO.quiet (q_extract (vs := _) rfl rfl) ?_
  refine TO.quiet (q_extract (vs := _) rfl rfl) ?_
  refine TO.quiet (q_extract (vs := _) rfl rfl) ?_
  refine TO.quiet (q_assign rfl) ?_
  refine TO.quiet (q_assign rfl) ?_
  refine TO.quiet (q_assign rfl) ?_
  refine TO.sub (O' := ([rowI b7c c7c 5 1 (byts [0]), rowI b6c c6c 3 1 (nats [0, 1, 2]), rowI b5c c5c 3 1 (nats [0, 0, 1]), rowI b3c c3c 5 1 (byts []), objI b1 (.cells (List.toArray [(.int .i64 oneM.vars), (.int .i64 oneM.start), (.slice nbm oneM.next.length ncm), (.slice fbm oneM.final.length fcm)]) 25 (0, 0)), rowI nbm ncm 33 1 (vals qm), rowI fbm fcm 4 1 (bools oneM.final), rowI b1c c1c 3 1 (nats [0, 0, 1])] ++ (itms 3 qm))) (Sub.pickR [0, 5, 5, 5, 5, 5, 5, 5] [rowI b7c c7c 5 1 (byts [0]), rowI (some ⟨f7, 0, none⟩) 3 4 1 (bools [false, false, true]), rowI (some ⟨a7, 0, none⟩) 3 33 1 (vals (twQ r1_7 r2_7 r3_7)), Rec.itm 3 ⟨some ⟨r3_7, 0, none⟩, 1, [2]⟩, Rec.itm 3 ⟨some ⟨r2_7, 0, none⟩, 1, [2]⟩, Rec.itm 3 ⟨some ⟨r1_7, 0, none⟩, 1, [1]⟩, rowI b6c c6c 3 1 (nats [0, 1, 2]), rowI b5c c5c 3 1 (nats [0, 0, 1]), rowI b3c c3c 5 1 (byts []), objI b1 (.cells (List.toArray [(.int .i64 oneM.vars), (.int .i64 oneM.start), (.slice nbm oneM.next.length ncm), (.slice fbm oneM.final.length fcm)]) 25 (0, 0)), rowI nbm ncm 33 1 (vals qm), rowI fbm fcm 4 1 (bools oneM.final), rowI b1c c1c 3 1 (nats [0, 0, 1])] (itms 3 qm) rfl rfl) ?_
  refine TO.nil ?_
  refine T.seq ?_
  refine T.seq ?_
  refine T.region ?_
  refine TO.quiet (q_move rfl) ?_
  refine TO.quiet (QT.toB (q_neq rfl rfl) (decide_eq_false (fun h => h rfl))) ?_
  refine TO.quiet (q_move rfl) ?_
  refine TO.guarded rfl rfl rfl (LT.of_quiet rfl rfl (q_move rfl) ?_)
  refine TO.guarded rfl rfl rfl (LT.of_quiet rfl rfl (QT.toB (q_neq rfl rfl) (decide_eq_false (fun h => h rfl))) ?_)
  refine TO.quiet (q_pick0 rfl rfl) ?_
  refine TO.quiet (q_move rfl) ?_
  refine TO.guarded rfl rfl rfl (LT.of_quiet rfl rfl (q_move rfl) ?_)
  refine TO.guarded rfl rfl rfl (LT.of_quiet rfl rfl (QT.toB (q_neq rfl rfl) (decide_eq_false (fun h => h rfl))) ?_)
  refine TO.quiet (q_pick0 rfl rfl) ?_
  refine TO.quiet (q_move rfl) ?_
  refine TO.guarded rfl rfl rfl (LT.of_quiet rfl rfl (q_move rfl) ?_)
  refine TO.guarded rfl rfl rfl (LT.of_quiet rfl rfl (QT.toB (q_neq rfl rfl) (decide_eq_false (fun h => h rfl))) ?_)
  refine TO.quiet (q_pick0 rfl rfl) ?_
  refine TO.quiet (q_move rfl) ?_
  refine TO.guarded rfl rfl rfl (LT.of_quiet rfl rfl (q_move rfl) ?_)
  refine TO.guarded rfl rfl rfl (LT.of_quiet rfl rfl (QT.toB (q_neq rfl rfl) (decide_eq_false (fun h => h rfl))) ?_)
  refine TO.quiet (q_pick0 rfl rfl) ?_
  refine TO.quiet (q_move rfl) ?_
  refine TO.guarded rfl rfl rfl (LT.of_quiet rfl rfl (q_move rfl) ?_)
  refine TO.guarded rfl rfl rfl (LT.of_quiet rfl rfl (QT.toB (q_neq rfl rfl) (decide_eq_false (fun h => h rfl))) ?_)
  refine TO.quiet (q_pick0 rfl rfl) ?_
  refine TO.quiet (q_move rfl) ?_
  refine TO.guarded rfl rfl rfl (LT.of_quiet rfl rfl (q_move rfl) ?_)
  refine TO.guarded rfl rfl rfl (LT.of_quiet rfl rfl (QT.toB (q_neq rfl rfl) (decide_eq_false (fun h => h rfl))) ?_)
  refine TO.quiet (q_pick0 rfl rfl) ?_
  refine TO.nil ?_
  refine T.cond0 rfl ?_
  refine T.skip ?_
  refine T.seq ?_
  refine T.region ?_
  refine TO.quiet (q_move rfl) ?_
  refine TO.loud rfl (l_buildSlice (m := 3) (parts := [(0, .const (.int .i64 0)), (1, .const (.int .i64 0)), (2, .const (.int .i64 1))]) (cs := [.int .i64 0, .int .i64 0, .int .i64 1]) Tryd.underlying33 inf3 (by decide) (by kernel_rfl) rfl (fun b2 => ?_))
  have hk84 := fun (w1 : World) (hI : Inv w ([rowI (some ⟨b2, 0, none⟩) 3 3 1 [.int .i64 0, .int .i64 0, .int .i64 1], rowI b7c c7c 5 1 (byts [0]), rowI b6c c6c 3 1 (nats [0, 1, 2]), rowI b5c c5c 3 1 (nats [0, 0, 1]), rowI b3c c3c 5 1 (byts []), objI b1 (.cells (List.toArray [(.int .i64 oneM.vars), (.int .i64 oneM.start), (.slice nbm oneM.next.length ncm), (.slice fbm oneM.final.length fcm)]) 25 (0, 0)), rowI nbm ncm 33 1 (vals qm), rowI fbm fcm 4 1 (bools oneM.final), rowI b1c c1c 3 1 (nats [0, 0, 1])] ++ (itms 3 qm)) w1) => equalNatsT w1 b1c (some ⟨b2, 0, none⟩) c1c 3 3 3 ([0, 0, 1] : List Nat) rfl rfl (hI.slOf (List.mem_of_getElem? (i := 8) rfl)) (hI.slOf (List.mem_of_getElem? (i := 0) rfl)) (by decide)
  refine TO.loud rfl (l_call ent21 (CallT.of_pure hk84) rfl ?_)
  clear hk84
  rintro v O' ⟨N, rfl, rfl, rfl⟩
  refine TO.quiet (q_move rfl) ?_
  refine TO.guarded rfl rfl rfl (LT.of_quiet rfl rfl (q_load_boxAgg 5 Tryd.underlying25 rfl inf25 rfl rfl rfl) ?_)
  refine TO.guarded rfl rfl rfl (l_buildSlice (m := 2) (parts := [(0, .const (.int .i64 0)), (1, .const (.int .i64 1))]) (cs := [.int .i64 0, .int .i64 1]) Tryd.underlying33 inf3 (by decide) (by kernel_rfl) rfl (fun b3 => ?_))
  refine TO.guarded rfl rfl rfl (l_buildSlice (m := 2) (parts := [(0, .const (.int .i64 1)), (1, .const (.int .i64 1))]) (cs := [.int .i64 1, .int .i64 1]) Tryd.underlying33 inf3 (by decide) (by kernel_rfl) rfl (fun b4 => ?_))
  refine TO.guarded rfl rfl rfl (l_buildSlice (m := 2) (parts := [(0, .tmp 87), (1, .tmp 88)]) (cs := [(.slice (some ⟨b3, 0, none⟩) 2 2), (.slice (some ⟨b4, 0, none⟩) 2 2)]) Tryd.underlying22 inf33 (by decide) (by kernel_rfl) rfl (fun b5 => ?_))
  refine TO.guarded rfl rfl rfl (l_buildSlice (m := 2) (parts := [(0, .const (.bool true)), (1, .const (.bool false))]) (cs := [.bool true, .bool false]) Tryd.underlying23 inf4 (by decide) (by kernel_rfl) rfl (fun b6 => ?_))
  refine TO.guarded rfl rfl rfl (LT.of_quiet rfl rfl (q_build (cs := [.int .i64 1, (.int .i64 0), (.slice (some ⟨b5, 0, none⟩) 2 2), (.slice (some ⟨b6, 0, none⟩) 2 2)]) plan25 inf25 (by kernel_rfl)) ?_)
  have hk92 := fun (w1 : World) (hI : Inv w ([rowI (some ⟨b6, 0, none⟩) 2 4 1 [.bool true, .bool false], rowI (some ⟨b5, 0, none⟩) 2 33 1 [(.slice (some ⟨b3, 0, none⟩) 2 2), (.slice (some ⟨b4, 0, none⟩) 2 2)], rowI (some ⟨b4, 0, none⟩) 2 3 1 [.int .i64 1, .int .i64 1], rowI (some ⟨b3, 0, none⟩) 2 3 1 [.int .i64 0, .int .i64 1], rowI (some ⟨b2, 0, none⟩) 3 3 1 [.int .i64 0, .int .i64 0, .int .i64 1], rowI b7c c7c 5 1 (byts [0]), rowI b6c c6c 3 1 (nats [0, 1, 2]), rowI b5c c5c 3 1 (nats [0, 0, 1]), rowI b3c c3c 5 1 (byts []), objI b1 (.cells (List.toArray [(.int .i64 oneM.vars), (.int .i64 oneM.start), (.slice nbm oneM.next.length ncm), (.slice fbm oneM.final.length fcm)]) 25 (0, 0)), rowI nbm ncm 33 1 (vals qm), rowI fbm fcm 4 1 (bools oneM.final), rowI b1c c1c 3 1 (nats [0, 0, 1])] ++ (itms 3 qm)) w1) => equalDFAT w1 oneM nbm (some ⟨b5, 0, none⟩) fbm (some ⟨b6, 0, none⟩) ncm 2 fcm 2 (vals qm) (vals [⟨(some ⟨b3, 0, none⟩), 2, [0, 1]⟩, ⟨(some ⟨b4, 0, none⟩), 2, [1, 1]⟩]) (show DfaAt w1 oneM nbm (vals qm) fbm from ⟨hI.slOf (List.mem_of_getElem? (i := 10) rfl), hnm ▸ hI.recs (fun q hq => List.mem_append_right _ (List.mem_map_of_mem (f := Rec.itm 3) hq)), hI.slOf (List.mem_of_getElem? (i := 11) rfl)⟩) (show DfaAt w1 oneM (some ⟨b5, 0, none⟩) (vals [⟨(some ⟨b3, 0, none⟩), 2, [0, 1]⟩, ⟨(some ⟨b4, 0, none⟩), 2, [1, 1]⟩]) (some ⟨b6, 0, none⟩) from ⟨hI.slOf (List.mem_of_getElem? (i := 1) rfl), hI.recs (qs := [⟨(some ⟨b3, 0, none⟩), 2, [0, 1]⟩, ⟨(some ⟨b4, 0, none⟩), 2, [1, 1]⟩]) (E := 3) (allC (List.mem_of_getElem? (i := 3) rfl) (allC (List.mem_of_getElem? (i := 2) rfl) allN)), hI.slOf (List.mem_of_getElem? (i := 0) rfl)⟩) (by decide) (by decide) (by decide)
  refine TO.guarded rfl rfl rfl (l_call ent20 (CallT.of_pure hk92) rfl ?_)
  clear hk92
  rintro v O' ⟨N, rfl, rfl, rfl⟩
  refine TO.quiet (q_pick1 rfl rfl) ?_
  refine TO.quiet (q_move rfl) ?_
  refine TO.guarded rfl rfl rfl (LT.of_quiet rfl rfl (q_move rfl) ?_)
  refine TO.quiet (q_pick1 rfl rfl) ?_
  refine TO.quiet (q_move rfl) ?_
  refine TO.guarded rfl rfl rfl (LT.of_quiet rfl rfl (q_move rfl) ?_)
  refine TO.guarded rfl rfl rfl (LT.of_quiet rfl rfl (q_len Tryd.underlying42 rfl) ?_)
  refine TO.guarded rfl rfl rfl (LT.of_quiet rfl rfl (QT.toB (q_eql rfl rfl) (decide_eq_true rfl)) ?_)
  refine TO.quiet (q_pick1 rfl rfl) ?_
  refine TO.quiet (q_move rfl) ?_
  refine TO.guarded rfl rfl rfl (LT.of_quiet rfl rfl (q_move rfl) ?_)
  refine TO.guarded rfl rfl rfl (LT.of_quiet rfl rfl (q_not rfl) ?_)
  refine TO.quiet (q_pick1 rfl rfl) ?_
  refine TO.quiet (q_move rfl) ?_
  refine TO.guarded rfl rfl rfl (LT.of_quiet rfl rfl (q_move rfl) ?_)
  refine TO.guarded rfl rfl rfl (l_buildSlice (m := 3) (parts := [(0, .const (.int .i64 0)), (1, .const (.int .i64 0)), (2, .const (.int .i64 1))]) (cs := [.int .i64 0, .int .i64 0, .int .i64 1]) Tryd.underlying33 inf3 (by decide) (by kernel_rfl) rfl (fun b7 => ?_))
  have hk109 := fun (w1 : World) (hI : Inv w ([rowI (some ⟨b7, 0, none⟩) 3 3 1 [.int .i64 0, .int .i64 0, .int .i64 1], rowI (some ⟨b6, 0, none⟩) 2 4 1 [.bool true, .bool false], rowI (some ⟨b5, 0, none⟩) 2 33 1 [(.slice (some ⟨b3, 0, none⟩) 2 2), (.slice (some ⟨b4, 0, none⟩) 2 2)], rowI (some ⟨b4, 0, none⟩) 2 3 1 [.int .i64 1, .int .i64 1], rowI (some ⟨b3, 0, none⟩) 2 3 1 [.int .i64 0, .int .i64 1], rowI (some ⟨b2, 0, none⟩) 3 3 1 [.int .i64 0, .int .i64 0, .int .i64 1], rowI b7c c7c 5 1 (byts [0]), rowI b6c c6c 3 1 (nats [0, 1, 2]), rowI b5c c5c 3 1 (nats [0, 0, 1]), rowI b3c c3c 5 1 (byts []), objI b1 (.cells (List.toArray [(.int .i64 oneM.vars), (.int .i64 oneM.start), (.slice nbm oneM.next.length ncm), (.slice fbm oneM.final.length fcm)]) 25 (0, 0)), rowI nbm ncm 33 1 (vals qm), rowI fbm fcm 4 1 (bools oneM.final), rowI b1c c1c 3 1 (nats [0, 0, 1])] ++ (itms 3 qm)) w1) => equalNatsT w1 b5c (some ⟨b7, 0, none⟩) c5c 3 3 3 ([0, 0, 1] : List Nat) rfl rfl (hI.slOf (List.mem_of_getElem? (i := 8) rfl)) (hI.slOf (List.mem_of_getElem? (i := 0) rfl)) (by decide)
  refine TO.guarded rfl rfl rfl (l_call ent21 (CallT.of_pure hk109) rfl ?_)
  clear hk109
  rintro v O' ⟨N, rfl, rfl, rfl⟩
  refine TO.quiet (q_pick1 rfl rfl) ?_
  refine TO.quiet (q_move rfl) ?_
  refine TO.guarded rfl rfl rfl (LT.of_quiet rfl rfl (q_move rfl) ?_)
  refine TO.guarded rfl rfl rfl (l_buildSlice (m := 3) (parts := [(0, .const (.int .i64 0)), (1, .const (.int .i64 1)), (2, .const (.int .i64 2))]) (cs := [.int .i64 0, .int .i64 1, .int .i64 2]) Tryd.underlying33 inf3 (by decide) (by kernel_rfl) rfl (fun b8 => ?_))
  have hk114 := fun (w1 : World) (hI : Inv w ([rowI (some ⟨b8, 0, none⟩) 3 3 1 [.int .i64 0, .int .i64 1, .int .i64 2], rowI (some ⟨b7, 0, none⟩) 3 3 1 [.int .i64 0, .int .i64 0, .int .i64 1], rowI (some ⟨b6, 0, none⟩) 2 4 1 [.bool true, .bool false], rowI (some ⟨b5, 0, none⟩) 2 33 1 [(.slice (some ⟨b3, 0, none⟩) 2 2), (.slice (some ⟨b4, 0, none⟩) 2 2)], rowI (some ⟨b4, 0, none⟩) 2 3 1 [.int .i64 1, .int .i64 1], rowI (some ⟨b3, 0, none⟩) 2 3 1 [.int .i64 0, .int .i64 1], rowI (some ⟨b2, 0, none⟩) 3 3 1 [.int .i64 0, .int .i64 0, .int .i64 1], rowI b7c c7c 5 1 (byts [0]), rowI b6c c6c 3 1 (nats [0, 1, 2]), rowI b5c c5c 3 1 (nats [0, 0, 1]), rowI b3c c3c 5 1 (byts []), objI b1 (.cells (List.toArray [(.int .i64 oneM.vars), (.int .i64 oneM.start), (.slice nbm oneM.next.length ncm), (.slice fbm oneM.final.length fcm)]) 25 (0, 0)), rowI nbm ncm 33 1 (vals qm), rowI fbm fcm 4 1 (bools oneM.final), rowI b1c c1c 3 1 (nats [0, 0, 1])] ++ (itms 3 qm)) w1) => equalNatsT w1 b6c (some ⟨b8, 0, none⟩) c6c 3 3 3 ([0, 1, 2] : List Nat) rfl rfl (hI.slOf (List.mem_of_getElem? (i := 8) rfl)) (hI.slOf (List.mem_of_getElem? (i := 0) rfl)) (by decide)
  refine TO.guarded rfl rfl rfl (l_call ent21 (CallT.of_pure hk114) rfl ?_)
  clear hk114
  rintro v O' ⟨N, rfl, rfl, rfl⟩
  refine TO.quiet (q_pick1 rfl rfl) ?_
  refine TO.quiet (q_move rfl) ?_
  refine TO.guarded rfl rfl rfl (LT.of_quiet rfl rfl (q_move rfl) ?_)
  refine TO.quiet (q_pick1 rfl rfl) ?_
  refine TO.quiet (q_move rfl) ?_
  refine TO.guarded rfl rfl rfl (LT.of_quiet rfl rfl (q_move rfl) ?_)
  refine TO.guarded rfl rfl rfl (LT.of_quiet rfl rfl (q_len Tryd.underlying42 rfl) ?_)
  refine TO.guarded rfl rfl rfl (LT.of_quiet rfl rfl (QT.toB (q_eql rfl rfl) (decide_eq_true rfl)) ?_)
  refine TO.quiet (q_pick1 rfl rfl) ?_
  refine TO.quiet (q_assign rfl) ?_
  refine TO.nil ?_
  refine T.ret ?_
  refine Res.drop ?_
  refine Res.one (.bool true) Tryd.results12 rfl ?_
  exact ⟨[], Sub.of (List.nil_sublist _), rfl, rfl⟩
end Go.Proofs.YthfemndklplpbaaDoor
