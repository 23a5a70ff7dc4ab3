/- Contracts of functions of the program (Check, Shelf, Str, Min, Ren, Rn, Quo, Dist, Uni, P1, P2, P3, P4, P5, W1, W2): what each call answers and that it leaves memory as it was. Conditions: those each theorem names. -/
import Derived.Test.YtnmfefmhfkhihaaDoorKit
import Derived.Test.YtnmfefmhfkhihaaDoorCoreV
import Derived.Shelf.Strconv.Itoa3
import Derived.Test.YtnmfefmhfkhihaaDoorProg
set_option linter.unusedSectionVars false
set_option linter.unusedSimpArgs false
set_option linter.unusedVariables false
set_option linter.unnecessarySimpa false
namespace Go.Proofs.YtnmfefmhfkhihaaDoor
open Go.Lx Go.RowKit
set_option linter.unusedVariables false
set_option linter.unusedSimpArgs false
set_option maxHeartbeats 1000000 in
set_option maxRecDepth 20000 in
theorem varsF (w : World) (v : Int) : PureT Tryd.prog 48 [.int .i64 v] w fun x N => x = .bool (decide (0 ≤ v ∧ v ≤ 6)) ∧ N = [] := by
  refine CallT.enter Tryd.func48 rfl Tryd.ntmps48 rfl ?_
  refine T.seq (T.region ?_)
  refine TO.quiet (q_assign rfl) ?_
  refine TO.nil (T.seq (T.region ?_))
  refine TO.quiet (q_move rfl) ?_
  by_cases h4 : 0 ≤ v
  · refine TO.quiet (QT.toB (q_geq rfl rfl) (decide_eq_true h4)) ?_
    refine TO.quiet (q_move rfl) ?_
    refine TO.guarded rfl rfl rfl (LT.of_quiet rfl rfl (q_move rfl) ?_)
    by_cases h7 : v ≤ 6
    · refine TO.guarded rfl rfl rfl (LT.of_quiet rfl rfl (QT.toB (q_leq rfl rfl) (decide_eq_true h7)) ?_)
      refine TO.quiet (q_pick1 rfl rfl) (TO.quiet (q_assign rfl) ?_)
      refine TO.nil (T.ret ?_)
      refine Res.one (.bool true) Tryd.results48 rfl ?_
      exact ⟨by simp [h4, h7], rfl⟩
    refine TO.guarded rfl rfl rfl (LT.of_quiet rfl rfl (QT.toB (q_leq rfl rfl) (decide_eq_false h7)) ?_)
    refine TO.quiet (q_pick1 rfl rfl) (TO.quiet (q_assign rfl) ?_)
    refine TO.nil (T.ret ?_)
    refine Res.one (.bool false) Tryd.results48 rfl ?_
    exact ⟨by simp [h4, h7], rfl⟩
  refine TO.quiet (QT.toB (q_geq rfl rfl) (decide_eq_false h4)) (TO.quiet (q_move rfl) ?_)
  refine TO.passed rfl rfl ?_
  refine TO.passed rfl rfl ?_
  refine TO.quiet (q_pick0 rfl rfl) (TO.quiet (q_assign rfl) ?_)
  refine TO.nil (T.ret ?_)
  refine Res.one (.bool false) Tryd.results48 rfl ?_
  exact ⟨by simp [h4], rfl⟩
set_option maxHeartbeats 1000000 in
set_option maxRecDepth 20000 in
theorem lettersF (w : World) (v : Int) (h0 : 0 ≤ v) (h6 : v ≤ 6) : PureT Tryd.prog 37 [.int .i64 v] w fun x N => x = .int .i64 ((2 ^ v.toNat : Nat) : Int) ∧ N = [] := by
  refine CallT.enter Tryd.func37 rfl Tryd.ntmps37 rfl ?_
  refine T.seq (T.region ?_)
  refine TO.quiet (q_assign rfl) ?_
  refine TO.nil (T.seq (T.region ?_))
  refine TO.quiet (q_move rfl) (TO.quiet (q_conv_id Tryd.underlying3 Tryd.underlying58 rfl (show IntKind.u64.wrap v = v by unfold IntKind.wrap; simp [IntKind.bits, IntKind.signed]; omega)) (TO.quiet (q_shl1 (v := v.toNat) rfl (by show Value.int _ v = _; rw [Int.toNat_of_nonneg h0]) (by omega)) (TO.quiet (q_assign rfl) ?_)))
  refine TO.nil (T.ret ?_)
  refine Res.one (.int .i64 ((2 ^ v.toNat : Nat) : Int)) Tryd.results37 rfl ?_
  exact ⟨rfl, rfl⟩
set_option maxHeartbeats 1000000 in
set_option maxRecDepth 20000 in
theorem refCheck (w : World) (d : DFA) (nb fb : Option Addr) (nc fc : Nat) (vs : List Value) (h : DfaAt w d nb vs fb) (hb : d.next.length < 9223372036854775807) (hbr : ∀ r ∈ d.next, r.length < 9223372036854775807) (hbf : d.final.length < 9223372036854775807) :
    PureT Tryd.prog 24 [.agg (dfaCells d nb nc fb fc).toArray] w fun v N => v = .int .i64 (checkD d : Int) ∧ N = [] := by
  refine CallT.enter Tryd.func24 rfl Tryd.ntmps24 rfl ?_
  have hvl := h.rows.1
  refine T.seq (T.region ?_)
  refine TO.loud rfl (l_box (v := (.agg #[(.int .i64 d.vars), (.int .i64 d.start), (.slice nb d.next.length nc), (.slice fb d.final.length fc)])) (cs := [(.int .i64 d.vars), (.int .i64 d.start), (.slice nb d.next.length nc), (.slice fb d.final.length fc)]) rfl rfl (fun b1 => ?_))
  refine TO.quiet (q_assign rfl) ?_
  refine TO.nil (T.seq (T.region ?_))
  refine TO.quiet (q_fieldAddr Tryd.underlying25 rfl inf22 rfl rfl) (TO.quiet (q_load_box 0 Tryd.underlying22 rfl rfl rfl rfl) (TO.quiet (q_len Tryd.underlying22 rfl) (TO.quiet (q_assign rfl) ?_)))
  refine TO.nil (T.seq (T.seq (T.region ?_)))
  refine TO.quiet (q_fieldAddr Tryd.underlying25 rfl inf3 rfl rfl) (TO.quiet (q_load_box 0 Tryd.underlying3 rfl rfl rfl rfl) ?_)
  by_cases hv : 0 ≤ d.vars ∧ d.vars ≤ 6
  · have hk11 := fun (w1 : World) (hI : Inv w [oI b1 25 [(.int .i64 d.vars), (.int .i64 d.start), (.slice nb d.next.length nc), (.slice fb d.final.length fc)]] w1) => varsF w1 d.vars
    refine TO.loud rfl (l_call ent48 (CallT.of_pure hk11) rfl ?_)
    clear hk11
    rintro v O' ⟨N, rfl, rfl, rfl⟩
    rw [decide_eq_true hv]
    refine TO.quiet (q_not rfl) ?_
    refine TO.nil ?_
    refine T.cond0 rfl ?_
    refine T.skip (T.seq (T.seq (T.region ?_)))
    refine TO.quiet (q_move rfl) (TO.quiet (q_eql rfl rfl) ?_)
    refine TO.nil ?_
    refine T.condP rfl (fun hc => ?_) (fun hc => ?_)
    · have hlt14 : d.next.length = 0 := by omega
      refine T.seq (T.region ?_)
      refine TO.quiet (q_assign rfl) ?_
      refine TO.nil (T.ret (Res.drop ?_))
      refine Res.one (.int .i64 3) Tryd.results24 rfl ?_
      refine ⟨[], Sub.of (List.nil_sublist _), congrArg (fun z : Nat => Value.int .i64 (z : Int)) (show 3 = checkD d from Eq.symm ?_), rfl⟩
      unfold checkD
      rw [if_neg (by simp; exact hv), if_pos hlt14]
    have hge14 : ¬ d.next.length = 0 := by omega
    refine T.skip (T.seq (T.seq (T.region ?_)))
    refine TO.quiet (q_move rfl) (TO.quiet (q_gtr rfl rfl) ?_)
    refine TO.nil ?_
    refine T.condP rfl (fun hc => ?_) (fun hc => ?_)
    · have hlt16 : d.next.length > 4096 := by omega
      refine T.seq (T.region ?_)
      refine TO.quiet (q_assign rfl) ?_
      refine TO.nil (T.ret (Res.drop ?_))
      refine Res.one (.int .i64 4) Tryd.results24 rfl ?_
      refine ⟨[], Sub.of (List.nil_sublist _), congrArg (fun z : Nat => Value.int .i64 (z : Int)) (show 4 = checkD d from Eq.symm ?_), rfl⟩
      unfold checkD
      rw [if_neg (by simp; exact hv), if_neg hge14, if_pos hlt16]
    have hge16 : ¬ d.next.length > 4096 := by omega
    refine T.skip (T.seq (T.seq (T.region ?_)))
    refine TO.quiet (q_fieldAddr Tryd.underlying25 rfl inf23 rfl rfl) (TO.quiet (q_load_box 0 Tryd.underlying23 rfl rfl rfl rfl) (TO.quiet (q_len Tryd.underlying23 rfl) (TO.quiet (q_move rfl) ?_)))
    refine TO.quiet (q_neq rfl rfl) ?_
    refine TO.nil ?_
    refine T.condP rfl (fun hc => ?_) (fun hc => ?_)
    · have hlt21 : d.final.length ≠ d.next.length := by omega
      refine T.seq (T.region ?_)
      refine TO.quiet (q_assign rfl) ?_
      refine TO.nil (T.ret (Res.drop ?_))
      refine Res.one (.int .i64 2) Tryd.results24 rfl ?_
      refine ⟨[], Sub.of (List.nil_sublist _), congrArg (fun z : Nat => Value.int .i64 (z : Int)) (show 2 = checkD d from Eq.symm ?_), rfl⟩
      unfold checkD
      rw [if_neg (by simp; exact hv), if_neg hge14, if_neg hge16, if_pos hlt21]
    have hge21 : ¬ d.final.length ≠ d.next.length := by omega
    refine T.skip (T.seq (T.seq (T.region ?_)))
    refine TO.quiet (q_fieldAddr Tryd.underlying25 rfl inf3 rfl rfl) (TO.quiet (q_load_box 0 Tryd.underlying3 rfl rfl rfl rfl) ?_)
    by_cases hs0 : d.start < 0
    · refine TO.quiet (QT.toB (q_lss rfl rfl) (decide_eq_true hs0)) ?_
      refine TO.quiet (q_move rfl) ?_
      refine TO.passed rfl rfl ?_
      refine TO.passed rfl rfl ?_
      refine TO.passed rfl rfl ?_
      refine TO.passed rfl rfl ?_
      refine TO.quiet (q_pick1 rfl rfl) ?_
      refine TO.nil ?_
      refine T.cond1 rfl ?_
      refine T.seq (T.region ?_)
      refine TO.quiet (q_assign rfl) ?_
      refine TO.nil (T.ret (Res.drop ?_))
      refine Res.one (.int .i64 8) Tryd.results24 rfl ?_
      refine ⟨[], Sub.of (List.nil_sublist _), congrArg (fun z : Nat => Value.int .i64 (z : Int)) (show 8 = checkD d from Eq.symm ?_), rfl⟩
      unfold checkD
      rw [if_neg (by simp; exact hv), if_neg hge14, if_neg hge16, if_neg (by simpa using hge21), if_pos (.inl hs0)]
    refine TO.quiet (QT.toB (q_lss rfl rfl) (decide_eq_false hs0)) (TO.quiet (q_move rfl) ?_)
    refine TO.guarded rfl rfl rfl (LT.of_quiet rfl rfl (q_fieldAddr Tryd.underlying25 rfl inf3 rfl rfl) ?_)
    refine TO.guarded rfl rfl rfl (LT.of_quiet rfl rfl (q_load_box 0 Tryd.underlying3 rfl rfl rfl rfl) ?_)
    refine TO.guarded rfl rfl rfl (LT.of_quiet rfl rfl (q_move rfl) ?_)
    by_cases hs1 : (d.next.length : Int) ≤ d.start
    · refine TO.guarded rfl rfl rfl (LT.of_quiet rfl rfl (QT.toB (q_geq rfl rfl) (decide_eq_true hs1)) ?_)
      refine TO.quiet (q_pick0 rfl rfl) ?_
      refine TO.nil ?_
      refine T.cond1 rfl ?_
      refine T.seq (T.region ?_)
      refine TO.quiet (q_assign rfl) ?_
      refine TO.nil (T.ret (Res.drop ?_))
      refine Res.one (.int .i64 8) Tryd.results24 rfl ?_
      refine ⟨[], Sub.of (List.nil_sublist _), congrArg (fun z : Nat => Value.int .i64 (z : Int)) (show 8 = checkD d from Eq.symm ?_), rfl⟩
      unfold checkD
      rw [if_neg (by simp; exact hv), if_neg hge14, if_neg hge16, if_neg (by simpa using hge21), if_pos (.inr hs1)]
    refine TO.guarded rfl rfl rfl (LT.of_quiet rfl rfl (QT.toB (q_geq rfl rfl) (decide_eq_false hs1)) ?_)
    refine TO.quiet (q_pick0 rfl rfl) ?_
    refine TO.nil ?_
    refine T.cond0 rfl ?_
    refine T.skip (T.seq (T.seq (T.region ?_)))
    refine TO.quiet (q_assign rfl) ?_
    refine TO.nil (T.block ?_)
    refine T.loop (fun (k : Nat) ρ O => O = [oI b1 25 [(.int .i64 d.vars), (.int .i64 d.start), (.slice nb d.next.length nc), (.slice fb d.final.length fc)]] ∧ k ≤ d.next.length ∧ rowsE (2 ^ d.vars.toNat) d.next.length (d.next.drop k) = checkD d ∧ Heads [(0, (.agg #[(.int .i64 d.vars), (.int .i64 d.start), (.slice nb d.next.length nc), (.slice fb d.final.length fc)])), (1, (.pointer (some ⟨b1, 0, none⟩))), (3, .int .i64 (d.next.length : Int)), (4, .int .i64 (k : Int))] ρ) (fun k => d.next.length - k) 0 ?_ ?_
    · refine ⟨rfl, Nat.zero_le _, ?_, ⟨rfl, rfl, rfl, rfl, trivial⟩⟩
      unfold checkD
      rw [if_neg (by simp; exact hv), if_neg hge14, if_neg hge16, if_neg (by simp; omega), if_neg (by omega)]; rfl
    rintro k ρ O ⟨rfl, hk, hr, hH⟩
    obtain ⟨ρ0, rfl⟩ := hH.elim
    clear hH
    refine T.seq (T.seq (T.region ?_))
    refine TO.quiet (q_move rfl) (TO.quiet (q_move rfl) (TO.quiet (q_lss rfl rfl) ?_))
    refine TO.nil ?_
    refine T.condP rfl (fun hc => ?_) (fun hc => ?_)
    · have hlt33 : k < d.next.length := by omega
      obtain ⟨vb1, vc1, g1, s1⟩ := h.rows.get hlt33
      have hrl := hbr _ (List.getElem_mem hlt33)
      refine T.skip (T.seq (T.block (T.seq (T.seq ?_))))
      refine T.draws _ [(0, 0), (1, 0), (2, 0), (3, 0), (4, 0), (5, 0), (6, 0), (7, 0), (8, 1), (9, 0)] mixed (by kernel_rfl) (Sub.of (List.Sublist.refl _)) (fun _ _ _ h => h) ?_
      refine DO.quiet rfl (q_fieldAddr Tryd.underlying25 rfl inf22 rfl rfl) (DO.quiet rfl (q_load_box 0 Tryd.underlying22 rfl rfl rfl rfl) (DO.quiet rfl (q_move rfl) (DO.quiet rfl (q_ix (i := k) Tryd.underlying22 inf41 rfl rfl (Sl.o h.outer)) ?_)))
      refine DO.quiet rfl (q_ld Tryd.underlying41 rfl rfl (Sl.o h.outer) g1) (DO.quiet rfl (q_len Tryd.underlying41 rfl) (DO.quiet rfl (q_fieldAddr Tryd.underlying25 rfl inf3 rfl rfl) (DO.quiet rfl (q_load_box 0 Tryd.underlying3 rfl rfl rfl rfl) ?_)))
      have hk44 := fun (w1 : World) (hI : Inv w [oI b1 25 [(.int .i64 d.vars), (.int .i64 d.start), (.slice nb d.next.length nc), (.slice fb d.final.length fc)]] w1) => lettersF w1 d.vars hv.1 hv.2
      refine DO.loud rfl rfl (l_call ent37 (CallT.of_pure hk44) rfl ?_)
      clear hk44
      rintro v O' ⟨N, rfl, rfl, rfl⟩
      refine ⟨Sub.pick [0] rfl, ?_⟩
      refine DO.quiet rfl (q_neq rfl rfl) ?_
      refine DO.done ?_
      refine T.condP rfl (fun hc => ?_) (fun hc => ?_)
      · have hlt45 : d.next[k].length ≠ 2 ^ d.vars.toNat := by omega
        refine T.seq (T.region ?_)
        refine TO.quiet (q_assign rfl) ?_
        refine TO.nil (T.ret (Res.drop ?_))
        refine Res.one (.int .i64 2) Tryd.results24 rfl ?_
        refine ⟨[], Sub.of (List.nil_sublist _), congrArg (fun z : Nat => Value.int .i64 (z : Int)) (show 2 = checkD d from Eq.symm ?_), rfl⟩
        rw [← hr, rowsE_at hlt33, if_pos hlt45]
      have hge45 : ¬ d.next[k].length ≠ 2 ^ d.vars.toNat := by omega
      refine T.skip (T.seq (T.region ?_))
      refine TO.quiet (q_assign rfl) ?_
      refine TO.nil (T.block ?_)
      refine T.loop (fun (j : Nat) ρ O => O = [oI b1 25 [(.int .i64 d.vars), (.int .i64 d.start), (.slice nb d.next.length nc), (.slice fb d.final.length fc)]] ∧ j ≤ d.next[k].length ∧ rowOk d.next.length (d.next[k].take j) = true ∧ Heads [(0, (.agg #[(.int .i64 d.vars), (.int .i64 d.start), (.slice nb d.next.length nc), (.slice fb d.final.length fc)])), (1, (.pointer (some ⟨b1, 0, none⟩))), (3, .int .i64 (d.next.length : Int)), (4, .int .i64 (k : Int)), (5, .int .i64 (j : Int))] ρ) (fun j => d.next[k].length - j) 0 ?_ ?_
      · exact ⟨rfl, Nat.zero_le _, rfl, ⟨rfl, rfl, rfl, rfl, rfl, trivial⟩⟩
      rintro j ρ O ⟨rfl, hj, hok, hH⟩
      obtain ⟨ρ0, rfl⟩ := hH.elim
      clear hH
      refine T.seq (T.seq (T.region ?_))
      refine TO.quiet (q_move rfl) (TO.quiet (q_fieldAddr Tryd.underlying25 rfl inf22 rfl rfl) (TO.quiet (q_load_box 0 Tryd.underlying22 rfl rfl rfl rfl) (TO.quiet (q_move rfl) ?_)))
      refine TO.quiet (q_ix (i := k) Tryd.underlying22 inf41 rfl rfl (Sl.o h.outer)) (TO.quiet (q_ld Tryd.underlying41 rfl rfl (Sl.o h.outer) g1) (TO.quiet (q_len Tryd.underlying41 rfl) (TO.quiet (q_lss rfl rfl) ?_)))
      refine TO.nil ?_
      refine T.condP rfl (fun hc => ?_) (fun hc => ?_)
      · have hlt53 : j < d.next[k].length := by omega
        refine T.skip (T.seq (T.block (T.seq (T.region ?_))))
        refine TO.quiet (q_fieldAddr Tryd.underlying25 rfl inf22 rfl rfl) (TO.quiet (q_load_box 0 Tryd.underlying22 rfl rfl rfl rfl) (TO.quiet (q_move rfl) (TO.quiet (q_ix (i := k) Tryd.underlying22 inf41 rfl rfl (Sl.o h.outer)) ?_)))
        refine TO.quiet (q_ld Tryd.underlying41 rfl rfl (Sl.o h.outer) g1) (TO.quiet (q_move rfl) (TO.quiet (q_ix (i := j) Tryd.underlying41 inf3 rfl rfl (Sl.o s1)) (TO.quiet (q_ld Tryd.underlying3 rfl rfl (Sl.o s1) ints_get) ?_)))
        by_cases he0 : d.next[k][j] < 0
        · refine TO.quiet (QT.toB (q_lss rfl rfl) (decide_eq_true he0)) ?_
          refine TO.quiet (q_move rfl) ?_
          refine TO.passed rfl rfl ?_
          refine TO.passed rfl rfl ?_
          refine TO.passed rfl rfl ?_
          refine TO.passed rfl rfl ?_
          refine TO.passed rfl rfl ?_
          refine TO.passed rfl rfl ?_
          refine TO.passed rfl rfl ?_
          refine TO.passed rfl rfl ?_
          refine TO.passed rfl rfl ?_
          refine TO.passed rfl rfl ?_
          refine TO.quiet (q_pick1 rfl rfl) ?_
          refine TO.nil ?_
          refine T.cond1 rfl ?_
          refine T.seq (T.region ?_)
          refine TO.quiet (q_assign rfl) ?_
          refine TO.nil (T.ret (Res.drop ?_))
          refine Res.one (.int .i64 8) Tryd.results24 rfl ?_
          refine ⟨[], Sub.of (List.nil_sublist _), congrArg (fun z : Nat => Value.int .i64 (z : Int)) (show 8 = checkD d from Eq.symm ?_), rfl⟩
          rw [← hr, rowsE_at hlt33, if_neg (by simpa using hge45), if_neg (rowOk_bad hlt53 (.inl he0))]
        refine TO.quiet (QT.toB (q_lss rfl rfl) (decide_eq_false he0)) (TO.quiet (q_move rfl) ?_)
        refine TO.guarded rfl rfl rfl (LT.of_quiet rfl rfl (q_fieldAddr Tryd.underlying25 rfl inf22 rfl rfl) ?_)
        refine TO.guarded rfl rfl rfl (LT.of_quiet rfl rfl (q_load_box 0 Tryd.underlying22 rfl rfl rfl rfl) ?_)
        refine TO.guarded rfl rfl rfl (LT.of_quiet rfl rfl (q_move rfl) ?_)
        refine TO.guarded rfl rfl rfl (LT.of_quiet rfl rfl (q_ix (i := k) Tryd.underlying22 inf41 rfl rfl (Sl.o h.outer)) ?_)
        refine TO.guarded rfl rfl rfl (LT.of_quiet rfl rfl (q_ld Tryd.underlying41 rfl rfl (Sl.o h.outer) g1) ?_)
        refine TO.guarded rfl rfl rfl (LT.of_quiet rfl rfl (q_move rfl) ?_)
        refine TO.guarded rfl rfl rfl (LT.of_quiet rfl rfl (q_ix (i := j) Tryd.underlying41 inf3 rfl rfl (Sl.o s1)) ?_)
        refine TO.guarded rfl rfl rfl (LT.of_quiet rfl rfl (q_ld Tryd.underlying3 rfl rfl (Sl.o s1) ints_get) ?_)
        refine TO.guarded rfl rfl rfl (LT.of_quiet rfl rfl (q_move rfl) ?_)
        by_cases he1 : (d.next.length : Int) ≤ d.next[k][j]
        · refine TO.guarded rfl rfl rfl (LT.of_quiet rfl rfl (QT.toB (q_geq rfl rfl) (decide_eq_true he1)) ?_)
          refine TO.quiet (q_pick0 rfl rfl) ?_
          refine TO.nil ?_
          refine T.cond1 rfl ?_
          refine T.seq (T.region ?_)
          refine TO.quiet (q_assign rfl) ?_
          refine TO.nil (T.ret (Res.drop ?_))
          refine Res.one (.int .i64 8) Tryd.results24 rfl ?_
          refine ⟨[], Sub.of (List.nil_sublist _), congrArg (fun z : Nat => Value.int .i64 (z : Int)) (show 8 = checkD d from Eq.symm ?_), rfl⟩
          rw [← hr, rowsE_at hlt33, if_neg (by simpa using hge45), if_neg (rowOk_bad hlt53 (.inr he1))]
        refine TO.guarded rfl rfl rfl (LT.of_quiet rfl rfl (QT.toB (q_geq rfl rfl) (decide_eq_false he1)) ?_)
        refine TO.quiet (q_pick0 rfl rfl) ?_
        refine TO.nil ?_
        refine T.cond0 rfl ?_
        refine T.skip (T.region ?_)
        refine TO.quiet (q_move rfl) (TO.quiet (q_inc rfl rfl (by omega)) (TO.quiet (q_assign rfl) ?_))
        refine TO.nil ?_
        exact ⟨j + 1, by omega, rfl, by omega, rowOk_step hlt53 hok he0 he1, ⟨rfl, rfl, rfl, rfl, rfl, trivial⟩⟩
      have hge53 : ¬ j < d.next[k].length := by omega
      refine T.exit ?_
      refine T.region ?_
      refine TO.quiet (q_move rfl) (TO.quiet (q_inc rfl rfl (by omega)) (TO.quiet (q_assign rfl) ?_))
      refine TO.nil ?_
      refine ⟨k + 1, by omega, rfl, by omega, ?_, ⟨rfl, rfl, rfl, rfl, trivial⟩⟩
      rw [← hr, rowsE_at hlt33, if_neg (by simpa using hge45), if_pos (rowOk_full (by omega) hok)]
    have hge33 : ¬ k < d.next.length := by omega
    refine T.exit ?_
    refine T.seq (T.region ?_)
    refine TO.quiet (q_assign rfl) ?_
    refine TO.nil (T.ret (Res.drop ?_))
    refine Res.one (.int .i64 0) Tryd.results24 rfl ?_
    refine ⟨[], Sub.of (List.nil_sublist _), congrArg (fun z : Nat => Value.int .i64 (z : Int)) (show 0 = checkD d from Eq.symm ?_), rfl⟩
    rw [← hr, rowsE_end (by omega)]
  have hk11 := fun (w1 : World) (hI : Inv w [oI b1 25 [(.int .i64 d.vars), (.int .i64 d.start), (.slice nb d.next.length nc), (.slice fb d.final.length fc)]] w1) => varsF w1 d.vars
  refine TO.loud rfl (l_call ent48 (CallT.of_pure hk11) rfl ?_)
  clear hk11
  rintro v O' ⟨N, rfl, rfl, rfl⟩
  rw [decide_eq_false hv]
  refine TO.quiet (q_not rfl) ?_
  refine TO.nil ?_
  refine T.cond1 rfl ?_
  refine T.seq (T.region ?_)
  refine TO.quiet (q_assign rfl) ?_
  refine TO.nil (T.ret (Res.drop ?_))
  refine Res.one (.int .i64 7) Tryd.results24 rfl ?_
  refine ⟨[], Sub.of (List.nil_sublist _), congrArg (fun z : Nat => Value.int .i64 (z : Int)) (show 7 = checkD d from Eq.symm ?_), rfl⟩
  unfold checkD
  rw [if_pos hv]
set_option maxHeartbeats 1000000 in
set_option maxRecDepth 20000 in
theorem slicesMin (w : World) (b : Option Addr) (c : Nat) (xs : List Int) (h : Sl w b (ints xs)) (h0 : 0 < xs.length) (hb : xs.length < 9223372036854775807) : PureT Tryd.prog 56 [.slice b xs.length c] w fun v N => (∃ m, v = .int .i64 m ∧ m ∈ xs ∧ ∀ x ∈ xs, m ≤ x) ∧ N = [] := by
  refine CallT.enter Tryd.func56 rfl Tryd.ntmps56 rfl ?_
  refine T.seq (T.region ?_)
  refine TO.quiet (q_assign rfl) ?_
  refine TO.nil (T.seq (T.seq (T.region ?_)))
  refine TO.quiet (q_move rfl) (TO.quiet (q_len Tryd.underlying41 rfl) (TO.quiet (q_lss rfl rfl) ?_))
  refine TO.nil ?_
  refine T.condP rfl (fun hc => ?_) (fun hc => ?_)
  · exact absurd hc (by omega)
  have hge7 : ¬ xs.length < 1 := by omega
  refine T.skip (T.seq (T.region ?_))
  refine TO.quiet (q_move rfl) (TO.quiet (q_ix (i := 0) Tryd.underlying41 inf3 rfl rfl (Sl.o h)) (TO.quiet (q_ld Tryd.underlying3 rfl rfl (Sl.o h) ints_get) (TO.quiet (q_assign rfl) ?_)))
  refine TO.nil (T.seq (T.seq (T.region ?_)))
  refine TO.quiet (q_assign rfl) ?_
  refine TO.nil (T.block ?_)
  refine T.loop (fun (k : Nat) ρ O => ∃ (m : Int), O = [] ∧ 1 ≤ k ∧ k ≤ xs.length ∧ m ∈ xs.take k ∧ (∀ x ∈ xs.take k, m ≤ x) ∧ Heads [(0, (.slice b xs.length c)), (2, .int .i64 0), (3, .int .i64 m), (4, .int .i64 (k : Int))] ρ) (fun k => xs.length - k) 1 ?_ ?_
  · refine ⟨xs[0], rfl, Nat.le_refl _, h0, ?_, ?_, ⟨rfl, rfl, rfl, rfl, trivial⟩⟩
    · show xs[0] ∈ xs.take (0 + 1)
      rw [List.take_succ_eq_append_getElem h0]; simp
    · show ∀ x ∈ xs.take (0 + 1), _
      rw [List.take_succ_eq_append_getElem h0]; simp
  rintro k ρ O ⟨m, rfl, hk1, hk, hm, hall, hH⟩
  obtain ⟨ρ0, rfl⟩ := hH.elim
  clear hH
  refine T.seq (T.seq (T.region ?_))
  refine TO.quiet (q_move rfl) (TO.quiet (q_move rfl) (TO.quiet (q_len Tryd.underlying41 rfl) (TO.quiet (q_lss rfl rfl) ?_)))
  refine TO.nil ?_
  refine T.condP rfl (fun hc => ?_) (fun hc => ?_)
  · have hlt15 : k < xs.length := by omega
    refine T.skip (T.seq (T.block (T.region ?_)))
    refine TO.quiet (q_move rfl) (TO.quiet (q_move rfl) (TO.quiet (q_move rfl) (TO.quiet (q_ix (i := k) Tryd.underlying41 inf3 rfl rfl (Sl.o h)) ?_)))
    refine TO.quiet (q_ld Tryd.underlying3 rfl rfl (Sl.o h) ints_get) (TO.quiet (q_min rfl rfl) (TO.quiet (q_assign rfl) ?_))
    refine TO.nil (T.region ?_)
    refine TO.quiet (q_move rfl) (TO.quiet (q_inc rfl rfl (by omega)) (TO.quiet (q_assign rfl) ?_))
    refine TO.nil ?_
    refine ⟨k + 1, by omega, if xs[k] < m then xs[k] else m, rfl, by omega, by omega, ?_, ?_, ⟨rfl, rfl, rfl, rfl, trivial⟩⟩
    · rw [List.take_succ_eq_append_getElem hlt15]; split
      · exact List.mem_append_right _ (List.mem_singleton.2 rfl)
      · exact List.mem_append_left _ hm
    · rw [List.take_succ_eq_append_getElem hlt15]
      intro x hx
      rcases List.mem_append.1 hx with hx | hx
      · have := hall x hx; split <;> omega
      · rw [List.mem_singleton] at hx; subst hx; split <;> omega
  have hge15 : ¬ k < xs.length := by omega
  refine T.exit ?_
  refine T.seq (T.region ?_)
  refine TO.quiet (q_move rfl) (TO.quiet (q_assign rfl) ?_)
  refine TO.nil (T.ret ?_)
  refine Res.one (.int .i64 m) Tryd.results56 rfl ?_
  rw [List.take_of_length_le (by omega)] at hm hall
  exact ⟨⟨m, rfl, hm, hall⟩, rfl⟩
set_option maxHeartbeats 1000000 in
set_option maxRecDepth 20000 in
theorem slicesMax (w : World) (b : Option Addr) (c : Nat) (xs : List Int) (h : Sl w b (ints xs)) (h0 : 0 < xs.length) (hb : xs.length < 9223372036854775807) : PureT Tryd.prog 57 [.slice b xs.length c] w fun v N => (∃ m, v = .int .i64 m ∧ m ∈ xs ∧ ∀ x ∈ xs, x ≤ m) ∧ N = [] := by
  refine CallT.enter Tryd.func57 rfl Tryd.ntmps57 rfl ?_
  refine T.seq (T.region ?_)
  refine TO.quiet (q_assign rfl) ?_
  refine TO.nil (T.seq (T.seq (T.region ?_)))
  refine TO.quiet (q_move rfl) (TO.quiet (q_len Tryd.underlying41 rfl) (TO.quiet (q_lss rfl rfl) ?_))
  refine TO.nil ?_
  refine T.condP rfl (fun hc => ?_) (fun hc => ?_)
  · exact absurd hc (by omega)
  have hge7 : ¬ xs.length < 1 := by omega
  refine T.skip (T.seq (T.region ?_))
  refine TO.quiet (q_move rfl) (TO.quiet (q_ix (i := 0) Tryd.underlying41 inf3 rfl rfl (Sl.o h)) (TO.quiet (q_ld Tryd.underlying3 rfl rfl (Sl.o h) ints_get) (TO.quiet (q_assign rfl) ?_)))
  refine TO.nil (T.seq (T.seq (T.region ?_)))
  refine TO.quiet (q_assign rfl) ?_
  refine TO.nil (T.block ?_)
  refine T.loop (fun (k : Nat) ρ O => ∃ (m : Int), O = [] ∧ 1 ≤ k ∧ k ≤ xs.length ∧ m ∈ xs.take k ∧ (∀ x ∈ xs.take k, x ≤ m) ∧ Heads [(0, (.slice b xs.length c)), (2, .int .i64 0), (3, .int .i64 m), (4, .int .i64 (k : Int))] ρ) (fun k => xs.length - k) 1 ?_ ?_
  · refine ⟨xs[0], rfl, Nat.le_refl _, h0, ?_, ?_, ⟨rfl, rfl, rfl, rfl, trivial⟩⟩
    · show xs[0] ∈ xs.take (0 + 1)
      rw [List.take_succ_eq_append_getElem h0]; simp
    · show ∀ x ∈ xs.take (0 + 1), _
      rw [List.take_succ_eq_append_getElem h0]; simp
  rintro k ρ O ⟨m, rfl, hk1, hk, hm, hall, hH⟩
  obtain ⟨ρ0, rfl⟩ := hH.elim
  clear hH
  refine T.seq (T.seq (T.region ?_))
  refine TO.quiet (q_move rfl) (TO.quiet (q_move rfl) (TO.quiet (q_len Tryd.underlying41 rfl) (TO.quiet (q_lss rfl rfl) ?_)))
  refine TO.nil ?_
  refine T.condP rfl (fun hc => ?_) (fun hc => ?_)
  · have hlt15 : k < xs.length := by omega
    refine T.skip (T.seq (T.block (T.region ?_)))
    refine TO.quiet (q_move rfl) (TO.quiet (q_move rfl) (TO.quiet (q_move rfl) (TO.quiet (q_ix (i := k) Tryd.underlying41 inf3 rfl rfl (Sl.o h)) ?_)))
    refine TO.quiet (q_ld Tryd.underlying3 rfl rfl (Sl.o h) ints_get) (TO.quiet (q_max rfl rfl) (TO.quiet (q_assign rfl) ?_))
    refine TO.nil (T.region ?_)
    refine TO.quiet (q_move rfl) (TO.quiet (q_inc rfl rfl (by omega)) (TO.quiet (q_assign rfl) ?_))
    refine TO.nil ?_
    refine ⟨k + 1, by omega, if xs[k] > m then xs[k] else m, rfl, by omega, by omega, ?_, ?_, ⟨rfl, rfl, rfl, rfl, trivial⟩⟩
    · rw [List.take_succ_eq_append_getElem hlt15]; split
      · exact List.mem_append_right _ (List.mem_singleton.2 rfl)
      · exact List.mem_append_left _ hm
    · rw [List.take_succ_eq_append_getElem hlt15]
      intro x hx
      rcases List.mem_append.1 hx with hx | hx
      · have := hall x hx; split <;> omega
      · rw [List.mem_singleton] at hx; subst hx; split <;> omega
  have hge15 : ¬ k < xs.length := by omega
  refine T.exit ?_
  refine T.seq (T.region ?_)
  refine TO.quiet (q_move rfl) (TO.quiet (q_assign rfl) ?_)
  refine TO.nil (T.ret ?_)
  refine Res.one (.int .i64 m) Tryd.results57 rfl ?_
  rw [List.take_of_length_le (by omega)] at hm hall
  exact ⟨⟨m, rfl, hm, hall⟩, rfl⟩
set_option maxHeartbeats 1000000 in
set_option maxRecDepth 20000 in
theorem subsetCheck (w : World) (d : DFA) (nb fb : Option Addr) (nc fc : Nat) (vs : List Value) (h : DfaAt w d nb vs fb) (hb : d.next.length < 9223372036854775807) (hbr : ∀ r ∈ d.next, r.length < 9223372036854775807) (hbf : d.final.length < 9223372036854775807) :
    PureT Tryd.prog 33 [.agg (dfaCells d nb nc fb fc).toArray] w fun v N => v = .int .i64 (checkD d : Int) ∧ N = [] := by
  refine CallT.enter Tryd.func33 rfl Tryd.ntmps33 rfl ?_
  have hvl := h.rows.1
  refine T.seq (T.region ?_)
  refine TO.loud rfl (l_box (v := (.agg #[(.int .i64 d.vars), (.int .i64 d.start), (.slice nb d.next.length nc), (.slice fb d.final.length fc)])) (cs := [(.int .i64 d.vars), (.int .i64 d.start), (.slice nb d.next.length nc), (.slice fb d.final.length fc)]) rfl rfl (fun b1 => ?_))
  refine TO.quiet (q_assign rfl) ?_
  refine TO.nil (T.seq (T.region ?_))
  refine TO.quiet (q_fieldAddr Tryd.underlying25 rfl inf22 rfl rfl) (TO.quiet (q_load_box 0 Tryd.underlying22 rfl rfl rfl rfl) (TO.quiet (q_len Tryd.underlying22 rfl) (TO.quiet (q_assign rfl) ?_)))
  refine TO.nil (T.seq (T.block (T.seq (T.region ?_))))
  refine TO.quiet (q_fieldAddr Tryd.underlying25 rfl inf3 rfl rfl) (TO.quiet (q_load_box 0 Tryd.underlying3 rfl rfl rfl rfl) ?_)
  by_cases hv0 : d.vars < 0
  · refine TO.quiet (QT.toB (q_lss rfl rfl) (decide_eq_true hv0)) ?_
    refine TO.quiet (q_move rfl) ?_
    refine TO.passed rfl rfl ?_
    refine TO.passed rfl rfl ?_
    refine TO.passed rfl rfl ?_
    refine TO.quiet (q_pick1 rfl rfl) (TO.quiet (q_assign rfl) ?_)
    refine TO.nil ?_
    refine T.cond1 rfl ?_
    refine T.seq (T.region ?_)
    refine TO.quiet (q_assign rfl) ?_
    refine TO.nil (T.ret (Res.drop ?_))
    refine Res.one (.int .i64 7) Tryd.results33 rfl ?_
    refine ⟨[], Sub.of (List.nil_sublist _), congrArg (fun z : Nat => Value.int .i64 (z : Int)) (show 7 = checkD d from Eq.symm ?_), rfl⟩
    unfold checkD
    rw [if_pos (by omega)]
  refine TO.quiet (QT.toB (q_lss rfl rfl) (decide_eq_false hv0)) (TO.quiet (q_move rfl) ?_)
  refine TO.guarded rfl rfl rfl (LT.of_quiet rfl rfl (q_fieldAddr Tryd.underlying25 rfl inf3 rfl rfl) ?_)
  refine TO.guarded rfl rfl rfl (LT.of_quiet rfl rfl (q_load_box 0 Tryd.underlying3 rfl rfl rfl rfl) ?_)
  by_cases hv6 : 6 < d.vars
  · refine TO.guarded rfl rfl rfl (LT.of_quiet rfl rfl (QT.toB (q_gtr rfl rfl) (decide_eq_true hv6)) ?_)
    refine TO.quiet (q_pick0 rfl rfl) (TO.quiet (q_assign rfl) ?_)
    refine TO.nil ?_
    refine T.cond1 rfl ?_
    refine T.seq (T.region ?_)
    refine TO.quiet (q_assign rfl) ?_
    refine TO.nil (T.ret (Res.drop ?_))
    refine Res.one (.int .i64 7) Tryd.results33 rfl ?_
    refine ⟨[], Sub.of (List.nil_sublist _), congrArg (fun z : Nat => Value.int .i64 (z : Int)) (show 7 = checkD d from Eq.symm ?_), rfl⟩
    unfold checkD
    rw [if_pos (by omega)]
  refine TO.guarded rfl rfl rfl (LT.of_quiet rfl rfl (QT.toB (q_gtr rfl rfl) (decide_eq_false hv6)) ?_)
  refine TO.quiet (q_pick0 rfl rfl) (TO.quiet (q_assign rfl) ?_)
  refine TO.nil ?_
  refine T.cond0 rfl ?_
  refine T.seq (T.region ?_)
  refine TO.quiet (q_move rfl) (TO.quiet (q_eql rfl rfl) (TO.quiet (q_assign rfl) ?_))
  refine TO.nil ?_
  refine T.condP rfl (fun hc => ?_) (fun hc => ?_)
  · have hlt18 : d.next.length = 0 := by omega
    refine T.seq (T.region ?_)
    refine TO.quiet (q_assign rfl) ?_
    refine TO.nil (T.ret (Res.drop ?_))
    refine Res.one (.int .i64 3) Tryd.results33 rfl ?_
    refine ⟨[], Sub.of (List.nil_sublist _), congrArg (fun z : Nat => Value.int .i64 (z : Int)) (show 3 = checkD d from Eq.symm ?_), rfl⟩
    unfold checkD
    rw [if_neg (by simp; omega), if_pos hlt18]
  have hge18 : ¬ d.next.length = 0 := by omega
  refine T.seq (T.region ?_)
  refine TO.quiet (q_move rfl) (TO.quiet (q_gtr rfl rfl) (TO.quiet (q_assign rfl) ?_))
  refine TO.nil ?_
  refine T.condP rfl (fun hc => ?_) (fun hc => ?_)
  · have hlt21 : d.next.length > 4096 := by omega
    refine T.seq (T.region ?_)
    refine TO.quiet (q_assign rfl) ?_
    refine TO.nil (T.ret (Res.drop ?_))
    refine Res.one (.int .i64 4) Tryd.results33 rfl ?_
    refine ⟨[], Sub.of (List.nil_sublist _), congrArg (fun z : Nat => Value.int .i64 (z : Int)) (show 4 = checkD d from Eq.symm ?_), rfl⟩
    unfold checkD
    rw [if_neg (by simp; omega), if_neg hge18, if_pos hlt21]
  have hge21 : ¬ d.next.length > 4096 := by omega
  refine T.seq (T.region ?_)
  refine TO.quiet (q_fieldAddr Tryd.underlying25 rfl inf23 rfl rfl) (TO.quiet (q_load_box 0 Tryd.underlying23 rfl rfl rfl rfl) (TO.quiet (q_len Tryd.underlying23 rfl) (TO.quiet (q_move rfl) ?_)))
  refine TO.quiet (q_neq rfl rfl) (TO.quiet (q_assign rfl) ?_)
  refine TO.nil ?_
  refine T.condP rfl (fun hc => ?_) (fun hc => ?_)
  · have hlt24 : d.final.length ≠ d.next.length := by omega
    refine T.seq (T.region ?_)
    refine TO.quiet (q_assign rfl) ?_
    refine TO.nil (T.ret (Res.drop ?_))
    refine Res.one (.int .i64 2) Tryd.results33 rfl ?_
    refine ⟨[], Sub.of (List.nil_sublist _), congrArg (fun z : Nat => Value.int .i64 (z : Int)) (show 2 = checkD d from Eq.symm ?_), rfl⟩
    unfold checkD
    rw [if_neg (by simp; omega), if_neg hge18, if_neg hge21, if_pos hlt24]
  have hge24 : ¬ d.final.length ≠ d.next.length := by omega
  refine T.seq (T.region ?_)
  refine TO.quiet (q_fieldAddr Tryd.underlying25 rfl inf3 rfl rfl) (TO.quiet (q_load_box 0 Tryd.underlying3 rfl rfl rfl rfl) ?_)
  by_cases hs0 : d.start < 0
  · refine TO.quiet (QT.toB (q_lss rfl rfl) (decide_eq_true hs0)) ?_
    refine TO.quiet (q_move rfl) ?_
    refine TO.passed rfl rfl ?_
    refine TO.passed rfl rfl ?_
    refine TO.passed rfl rfl ?_
    refine TO.passed rfl rfl ?_
    refine TO.quiet (q_pick1 rfl rfl) (TO.quiet (q_assign rfl) ?_)
    refine TO.nil ?_
    refine T.cond1 rfl ?_
    refine T.seq (T.region ?_)
    refine TO.quiet (q_assign rfl) ?_
    refine TO.nil (T.ret (Res.drop ?_))
    refine Res.one (.int .i64 8) Tryd.results33 rfl ?_
    refine ⟨[], Sub.of (List.nil_sublist _), congrArg (fun z : Nat => Value.int .i64 (z : Int)) (show 8 = checkD d from Eq.symm ?_), rfl⟩
    unfold checkD
    rw [if_neg (by simp; omega), if_neg hge18, if_neg hge21, if_neg (by simpa using hge24), if_pos (by omega)]
  refine TO.quiet (QT.toB (q_lss rfl rfl) (decide_eq_false hs0)) (TO.quiet (q_move rfl) ?_)
  refine TO.guarded rfl rfl rfl (LT.of_quiet rfl rfl (q_fieldAddr Tryd.underlying25 rfl inf3 rfl rfl) ?_)
  refine TO.guarded rfl rfl rfl (LT.of_quiet rfl rfl (q_load_box 0 Tryd.underlying3 rfl rfl rfl rfl) ?_)
  refine TO.guarded rfl rfl rfl (LT.of_quiet rfl rfl (q_move rfl) ?_)
  by_cases hs1 : (d.next.length : Int) ≤ d.start
  · refine TO.guarded rfl rfl rfl (LT.of_quiet rfl rfl (QT.toB (q_geq rfl rfl) (decide_eq_true hs1)) ?_)
    refine TO.quiet (q_pick0 rfl rfl) (TO.quiet (q_assign rfl) ?_)
    refine TO.nil ?_
    refine T.cond1 rfl ?_
    refine T.seq (T.region ?_)
    refine TO.quiet (q_assign rfl) ?_
    refine TO.nil (T.ret (Res.drop ?_))
    refine Res.one (.int .i64 8) Tryd.results33 rfl ?_
    refine ⟨[], Sub.of (List.nil_sublist _), congrArg (fun z : Nat => Value.int .i64 (z : Int)) (show 8 = checkD d from Eq.symm ?_), rfl⟩
    unfold checkD
    rw [if_neg (by simp; omega), if_neg hge18, if_neg hge21, if_neg (by simpa using hge24), if_pos (by omega)]
  refine TO.guarded rfl rfl rfl (LT.of_quiet rfl rfl (QT.toB (q_geq rfl rfl) (decide_eq_false hs1)) ?_)
  refine TO.quiet (q_pick0 rfl rfl) (TO.quiet (q_assign rfl) ?_)
  refine TO.nil ?_
  refine T.cond0 rfl ?_
  refine T.skip (T.seq (T.seq (T.region ?_)))
  refine TO.quiet (q_fieldAddr Tryd.underlying25 rfl inf22 rfl rfl) (TO.quiet (q_load_box 0 Tryd.underlying22 rfl rfl rfl rfl) (TO.quiet (q_len Tryd.underlying22 rfl) (TO.quiet (q_move rfl) ?_)))
  refine TO.nil (T.block ?_)
  refine T.loop (fun (k : Nat) ρ O => O = [oI b1 25 [(.int .i64 d.vars), (.int .i64 d.start), (.slice nb d.next.length nc), (.slice fb d.final.length fc)]] ∧ k ≤ d.next.length ∧ rowsE (2 ^ d.vars.toNat) d.next.length (d.next.drop k) = checkD d ∧ Heads [(0, (.agg #[(.int .i64 d.vars), (.int .i64 d.start), (.slice nb d.next.length nc), (.slice fb d.final.length fc)])), (1, (.pointer (some ⟨b1, 0, none⟩))), (3, .int .i64 (d.next.length : Int)), (9, .bool false), (18, .bool (decide ((d.next.length : Int) = 0))), (21, .bool (decide ((d.next.length : Int) > 4096))), (24, .bool (decide ((d.final.length : Int) ≠ (d.next.length : Int)))), (30, .bool false), (41, (.slice nb d.next.length nc)), (42, .int .i64 (d.next.length : Int)), (43, .int .i64 (k : Int))] ρ) (fun k => d.next.length - k) 0 ?_ ?_
  · refine ⟨rfl, Nat.zero_le _, ?_, ⟨rfl, rfl, rfl, rfl, rfl, rfl, rfl, rfl, rfl, rfl, rfl, trivial⟩⟩
    unfold checkD
    rw [if_neg (by simp; omega), if_neg hge18, if_neg hge21, if_neg (by simpa using hge24), if_neg (by omega)]; rfl
  rintro k ρ O ⟨rfl, hk, hr, hH⟩
  obtain ⟨ρ0, rfl⟩ := hH.elim
  clear hH
  refine T.seq (T.region ?_)
  refine TO.quiet (q_lss rfl rfl) ?_
  refine TO.nil (T.seq ?_)
  refine T.condP rfl (fun hc => ?_) (fun hc => ?_)
  · have hlt44 : k < d.next.length := by omega
    obtain ⟨vb1, vc1, g1, s1⟩ := h.rows.get hlt44
    have hrl := hbr _ (List.getElem_mem hlt44)
    refine T.skip (T.seq (T.block (T.seq (T.region ?_))))
    refine TO.quiet (q_ix (i := k) Tryd.underlying22 inf41 rfl rfl (Sl.o h.outer)) (TO.quiet (q_ld Tryd.underlying41 rfl rfl (Sl.o h.outer) g1) (TO.quiet (q_assign rfl) ?_))
    refine TO.nil (T.seq (T.seq (T.region ?_)))
    refine TO.quiet (q_move rfl) (TO.quiet (q_len Tryd.underlying41 rfl) (TO.quiet (q_fieldAddr Tryd.underlying25 rfl inf3 rfl rfl) (TO.quiet (q_load_box 0 Tryd.underlying3 rfl rfl rfl rfl) ?_)))
    refine TO.quiet (q_shl1 (v := d.vars.toNat) rfl (by show Value.int _ d.vars = _; rw [Int.toNat_of_nonneg (by omega)]) (by omega)) (TO.quiet (q_neq rfl rfl) ?_)
    refine TO.nil ?_
    refine T.condP rfl (fun hc => ?_) (fun hc => ?_)
    · have hlt52 : d.next[k].length ≠ 2 ^ d.vars.toNat := by omega
      refine T.seq (T.region ?_)
      refine TO.quiet (q_assign rfl) ?_
      refine TO.nil (T.ret (Res.drop ?_))
      refine Res.one (.int .i64 2) Tryd.results33 rfl ?_
      refine ⟨[], Sub.of (List.nil_sublist _), congrArg (fun z : Nat => Value.int .i64 (z : Int)) (show 2 = checkD d from Eq.symm ?_), rfl⟩
      rw [← hr, rowsE_at hlt44, if_pos hlt52]
    have hge52 : ¬ d.next[k].length ≠ 2 ^ d.vars.toNat := by omega
    have hrpos : 0 < d.next[k].length := by
      have := Nat.pow_pos (n := d.vars.toNat) (show 0 < 2 by omega)
      omega
    refine T.skip (T.seq (T.region ?_))
    refine TO.quiet (q_move rfl) ?_
    have hk54 := fun (w1 : World) (hI : Inv w [oI b1 25 [(.int .i64 d.vars), (.int .i64 d.start), (.slice nb d.next.length nc), (.slice fb d.final.length fc)]] w1) => slicesMin w1 vb1 vc1 d.next[k] (hI.sl s1) hrpos hrl
    refine TO.loud rfl (l_call ent56 (CallT.of_pure hk54) rfl ?_)
    clear hk54
    rintro v O' ⟨N, rfl, ⟨m1, rfl, hm1, hall1⟩, rfl⟩
    by_cases he0 : m1 < 0
    · refine TO.quiet (QT.toB (q_lss rfl rfl) (decide_eq_true he0)) ?_
      refine TO.quiet (q_move rfl) ?_
      refine TO.passed rfl rfl ?_
      refine TO.passed rfl rfl ?_
      refine TO.passed rfl rfl ?_
      refine TO.passed rfl rfl ?_
      refine TO.quiet (q_pick1 rfl rfl) ?_
      refine TO.nil ?_
      refine T.cond1 rfl ?_
      refine T.seq (T.region ?_)
      refine TO.quiet (q_assign rfl) ?_
      refine TO.nil (T.ret (Res.drop ?_))
      refine Res.one (.int .i64 8) Tryd.results33 rfl ?_
      refine ⟨[], Sub.of (List.nil_sublist _), congrArg (fun z : Nat => Value.int .i64 (z : Int)) (show 8 = checkD d from Eq.symm ?_), rfl⟩
      rw [← hr, rowsE_at hlt44, if_neg (by simpa using hge52), if_neg ?_]
      intro hh
      simp only [rowOk, List.all_eq_true, Bool.and_eq_true, decide_eq_true_eq] at hh
      have := hh _ hm1; omega
    refine TO.quiet (QT.toB (q_lss rfl rfl) (decide_eq_false he0)) (TO.quiet (q_move rfl) ?_)
    refine TO.guarded rfl rfl rfl (LT.of_quiet rfl rfl (q_move rfl) ?_)
    have hk58 := fun (w1 : World) (hI : Inv w [oI b1 25 [(.int .i64 d.vars), (.int .i64 d.start), (.slice nb d.next.length nc), (.slice fb d.final.length fc)]] w1) => slicesMax w1 vb1 vc1 d.next[k] (hI.sl s1) hrpos hrl
    refine TO.guarded rfl rfl rfl (l_call ent57 (CallT.of_pure hk58) rfl ?_)
    clear hk58
    rintro v O' ⟨N, rfl, ⟨m2, rfl, hm2, hall2⟩, rfl⟩
    refine TO.guarded rfl rfl rfl (LT.of_quiet rfl rfl (q_move rfl) ?_)
    by_cases he1 : (d.next.length : Int) ≤ m2
    · refine TO.guarded rfl rfl rfl (LT.of_quiet rfl rfl (QT.toB (q_geq rfl rfl) (decide_eq_true he1)) ?_)
      refine TO.quiet (q_pick0 rfl rfl) ?_
      refine TO.nil ?_
      refine T.cond1 rfl ?_
      refine T.seq (T.region ?_)
      refine TO.quiet (q_assign rfl) ?_
      refine TO.nil (T.ret (Res.drop ?_))
      refine Res.one (.int .i64 8) Tryd.results33 rfl ?_
      refine ⟨[], Sub.of (List.nil_sublist _), congrArg (fun z : Nat => Value.int .i64 (z : Int)) (show 8 = checkD d from Eq.symm ?_), rfl⟩
      rw [← hr, rowsE_at hlt44, if_neg (by simpa using hge52), if_neg ?_]
      intro hh
      simp only [rowOk, List.all_eq_true, Bool.and_eq_true, decide_eq_true_eq] at hh
      have := hh _ hm2; omega
    refine TO.guarded rfl rfl rfl (LT.of_quiet rfl rfl (QT.toB (q_geq rfl rfl) (decide_eq_false he1)) ?_)
    refine TO.quiet (q_pick0 rfl rfl) ?_
    refine TO.nil ?_
    refine T.cond0 rfl ?_
    refine T.skip (T.region ?_)
    refine TO.quiet (q_inc rfl rfl (by omega)) (TO.quiet (q_move rfl) ?_)
    refine TO.nil ?_
    refine ⟨k + 1, by omega, rfl, by omega, ?_, ⟨rfl, rfl, rfl, rfl, rfl, rfl, rfl, rfl, rfl, rfl, rfl, trivial⟩⟩
    rw [← hr, rowsE_at hlt44, if_neg (by simpa using hge52), if_pos ?_]
    simp only [rowOk, List.all_eq_true, Bool.and_eq_true, decide_eq_true_eq]
    intro x hx
    have := hall1 x hx; have := hall2 x hx; omega
  have hge44 : ¬ k < d.next.length := by omega
  refine T.exit ?_
  refine T.seq (T.region ?_)
  refine TO.quiet (q_assign rfl) ?_
  refine TO.nil (T.ret (Res.drop ?_))
  refine Res.one (.int .i64 0) Tryd.results33 rfl ?_
  refine ⟨[], Sub.of (List.nil_sublist _), congrArg (fun z : Nat => Value.int .i64 (z : Int)) (show 0 = checkD d from Eq.symm ?_), rfl⟩
  rw [← hr, rowsE_end (by omega)]
end Go.Proofs.YtnmfefmhfkhihaaDoor


namespace Go.Proofs
open Go.Shelf
def Tryd.laysM171_ren : Go.Shelf.Ren := ⟨fun | 171 => 65 | 243 => 76 | 246 => 86 | 283 => 90 | 284 => 91 | 285 => 92 | 286 => 93 | 129 => 98 | 317 => 97 | 318 => 99 | 319 => 100 | 320 => 101 | 337 => 104 | 338 => 105 | n => n, fun | 3 => 3 | 9 => 9 | 2 => 2 | 4 => 4 | 171 => 128 | 0 => 0 | 53 => 26 | 37 => 29 | 5 => 5 | 173 => 131 | 212 => 135 | 51 => 136 | 20 => 20 | 213 => 137 | 46 => 58 | 232 => 141 | 233 => 142 | n => n, fun | 17 => 0 | 18 => 1 | 19 => 2 | n => n⟩
theorem Tryd.laysM171 : Go.Proofs.LaysM.n171 Tryd.prog Tryd.laysM171_ren := {
  mixed := by kernel_rfl
  f129 := Tryd.func98.trans (congrArg some (by kernel_rfl))
  f171 := Tryd.func65.trans (congrArg some (by kernel_rfl))
  f243 := Tryd.func76.trans (congrArg some (by kernel_rfl))
  f246 := Tryd.func86.trans (congrArg some (by kernel_rfl))
  f283 := Tryd.func90.trans (congrArg some (by kernel_rfl))
  f284 := Tryd.func91.trans (congrArg some (by kernel_rfl))
  f285 := Tryd.func92.trans (congrArg some (by kernel_rfl))
  f286 := Tryd.func93.trans (congrArg some (by kernel_rfl))
  f317 := Tryd.func97.trans (congrArg some (by kernel_rfl))
  f318 := Tryd.func99.trans (congrArg some (by kernel_rfl))
  f319 := Tryd.func100.trans (congrArg some (by kernel_rfl))
  f320 := Tryd.func101.trans (congrArg some (by kernel_rfl))
  f337 := Tryd.func104.trans (congrArg some (by kernel_rfl))
  f338 := Tryd.func105.trans (congrArg some (by kernel_rfl))
  t0 := Tryd.underlying0
  a0 := Tryd.isAgg0
  z0 := Tryd.sizeOf0
  v0 := Tryd.zeroValue0
  t2 := Tryd.underlying2
  a2 := Tryd.isAgg2
  z2 := Tryd.sizeOf2
  v2 := Tryd.zeroValue2
  t3 := Tryd.underlying3
  a3 := Tryd.isAgg3
  z3 := Tryd.sizeOf3
  v3 := Tryd.zeroValue3
  t4 := Tryd.underlying4
  a4 := Tryd.isAgg4
  z4 := Tryd.sizeOf4
  v4 := Tryd.zeroValue4
  t5 := Tryd.underlying5
  a5 := Tryd.isAgg5
  z5 := Tryd.sizeOf5
  v5 := Tryd.zeroValue5
  t9 := Tryd.underlying9
  a9 := Tryd.isAgg9
  z9 := Tryd.sizeOf9
  v9 := Tryd.zeroValue9
  t20 := Tryd.underlying20
  a20 := Tryd.isAgg20
  z20 := Tryd.sizeOf20
  v20 := Tryd.zeroValue20
  t37 := Tryd.underlying29
  a37 := Tryd.isAgg29
  z37 := Tryd.sizeOf29
  v37 := Tryd.zeroValue29
  t46 := Tryd.underlying58
  a46 := Tryd.isAgg58
  z46 := Tryd.sizeOf58
  v46 := Tryd.zeroValue58
  t51 := Tryd.underlying136
  a51 := Tryd.isAgg136
  z51 := Tryd.sizeOf136
  v51 := Tryd.zeroValue136
  t53 := Tryd.underlying26
  a53 := Tryd.isAgg26
  z53 := Tryd.sizeOf26
  v53 := Tryd.zeroValue26
  t171 := Tryd.underlying128
  a171 := Tryd.isAgg128
  z171 := Tryd.sizeOf128
  v171 := Tryd.zeroValue128
  t173 := Tryd.underlying131
  a173 := Tryd.isAgg131
  z173 := Tryd.sizeOf131
  v173 := Tryd.zeroValue131
  t212 := Tryd.underlying135
  a212 := Tryd.isAgg135
  z212 := Tryd.sizeOf135
  v212 := Tryd.zeroValue135
  t213 := Tryd.underlying137
  a213 := Tryd.isAgg137
  z213 := Tryd.sizeOf137
  t232 := Tryd.underlying141
  a232 := Tryd.isAgg141
  z232 := Tryd.sizeOf141
  v232 := Tryd.zeroValue141
  t233 := Tryd.underlying142
  a233 := Tryd.isAgg142
  z233 := Tryd.sizeOf142
  v233 := Tryd.zeroValue142
  g17 := by kernel_rfl
  g18 := by kernel_rfl
  g19 := by kernel_rfl
  i0 := by kernel_rfl
  i2 := by kernel_rfl
  i3 := by kernel_rfl
  i4 := by kernel_rfl
  i5 := by kernel_rfl
  i9 := by kernel_rfl
  i20 := by kernel_rfl
  i37 := by kernel_rfl
  i46 := by kernel_rfl
  i51 := by kernel_rfl
  i53 := by kernel_rfl
  i171 := by kernel_rfl
  i173 := by kernel_rfl
  i212 := by kernel_rfl
  i232 := by kernel_rfl
  i233 := by kernel_rfl
  m17 := by kernel_rfl
  m18 := by kernel_rfl
  m19 := by kernel_rfl }
open Go.RowKit Go.Sort Go.Lib in
theorem Tryd.strconv_Itoa (n : Int) (h0 : -9223372036854775808 ≤ n) (h1 : n ≤ 9223372036854775807) (w : World) (htab : Lib.TabIs Tryd.prog w "internal/strconv.uint64pow10" .u64 Lib.pow10Tab) :
    Calls Tryd.prog 65 #[.int .i64 n] w fun e w' => e = .returned (.string ⟨(Lib.itoa n).toArray⟩) ∧ ∃ k os, w' = grow (w.drewN k) os := Any.strconv_Itoa Tryd.laysM171 n h0 h1 w htab
end Go.Proofs


namespace Go.Proofs.YtnmfefmhfkhihaaDoor
open Go.Lx Go.RowKit
set_option linter.unusedVariables false
set_option linter.unusedSimpArgs false
theorem itoaF (w : World) [Tab Tryd.prog w] (n : Nat) (hn : n < 1000000000000) : PureT Tryd.prog 65 [.int .i64 (n : Int)] w fun v N => v = str (Lib.decDigits n) ∧ N = [] := fun w1 M hI =>
  (Go.Proofs.Tryd.strconv_Itoa n (by omega) (by omega) w1 (Tab.is (hI.tab (P := Tryd.prog)))).mono (by rintro e w' ⟨rfl, k, os, rfl⟩; exact ⟨_, [], rfl, hI.grow k os, by rw [Lib.itoa_nonneg]; rfl, rfl⟩)
end Go.Proofs.YtnmfefmhfkhihaaDoor


namespace Go.Proofs.YtnmfefmhfkhihaaDoor
open Go.Lx Go.RowKit
set_option linter.unusedVariables false
set_option linter.unusedSimpArgs false
end Go.Proofs.YtnmfefmhfkhihaaDoor


namespace Go.Proofs.YtnmfefmhfkhihaaDoor
open Go.Lx Go.RowKit
set_option linter.unusedVariables false
set_option linter.unusedSimpArgs false
set_option maxHeartbeats 1000000 in
set_option maxRecDepth 20000 in
theorem visitHit (base : World) [Tab Tryd.prog base] (bx m : Nat) (ks : List (List UInt8)) (key : List UInt8) (hk : key ∈ ks) (hb : ks.length < 1000000) :
    CallT Tryd.prog base 77 [str key, .pointer (some ⟨bx, 0, none⟩)] [objI bx (.cells #[.map (some m)] 108 (0, 0)), mapI str (fun n : Nat => Value.int .i64 (n : Int)) m ks.zipIdx] (fun v O' => v = .int .i64 ((ix key (add ks key) : Nat) : Int) ∧ O' = [objI bx (.cells #[.map (some m)] 108 (0, 0)), mapI str (fun n : Nat => Value.int .i64 (n : Int)) m (add ks key).zipIdx]) := by
  refine CallT.enter Tryd.func77 rfl Tryd.ntmps77 rfl ?_
  refine T.seq (T.region ?_)
  refine TO.quiet (q_assign rfl) ?_
  refine TO.nil (T.seq (T.region ?_))
  refine TO.quiet (q_load_box 0 Tryd.underlying108 rfl rfl rfl rfl) (TO.quiet (q_move rfl) (TO.quiet (QT.cast (q_lookupOk (a := key) Tryd.underlying108 inf3 (KeyOk.string Tryd.underlying9) rfl rfl (List.mem_of_getElem? (i := 1) rfl)) (v' := (.tuple #[.int .i64 ((ix key ks : Nat) : Int), .bool true])) (by rw [look_zip]; simp [hk])) (TO.quiet (q_move rfl) ?_)))
  refine TO.quiet (q_extract (vs := _) rfl rfl) (TO.quiet (q_extract (vs := _) rfl rfl) (TO.quiet (q_assign rfl) (TO.quiet (q_assign rfl) ?_)))
  refine TO.nil (T.seq (T.seq (T.region ?_)))
  refine TO.quiet (q_move rfl) (TO.quiet (q_not rfl) ?_)
  refine TO.nil ?_
  refine T.cond0 rfl ?_
  refine T.skip (T.seq (T.region ?_))
  refine TO.quiet (q_move rfl) (TO.quiet (q_assign rfl) ?_)
  refine TO.nil (T.ret ?_)
  refine Res.one (.int .i64 ((ix key ks : Nat) : Int)) Tryd.results77 rfl ?_
  have ha : add ks key = ks := if_pos hk
  rw [ha]; exact ⟨rfl, rfl⟩
set_option maxHeartbeats 1000000 in
set_option maxRecDepth 20000 in
theorem visitMiss (base : World) [Tab Tryd.prog base] (bx m : Nat) (ks : List (List UInt8)) (key : List UInt8) (hk : key ∉ ks) (hb : ks.length < 1000000) :
    CallT Tryd.prog base 77 [str key, .pointer (some ⟨bx, 0, none⟩)] [objI bx (.cells #[.map (some m)] 108 (0, 0)), mapI str (fun n : Nat => Value.int .i64 (n : Int)) m ks.zipIdx] (fun v O' => v = .int .i64 ((ix key (add ks key) : Nat) : Int) ∧ O' = [objI bx (.cells #[.map (some m)] 108 (0, 0)), mapI str (fun n : Nat => Value.int .i64 (n : Int)) m (add ks key).zipIdx]) := by
  refine CallT.enter Tryd.func77 rfl Tryd.ntmps77 rfl ?_
  refine T.seq (T.region ?_)
  refine TO.quiet (q_assign rfl) ?_
  refine TO.nil (T.seq (T.region ?_))
  refine TO.quiet (q_load_box 0 Tryd.underlying108 rfl rfl rfl rfl) (TO.quiet (q_move rfl) (TO.quiet (QT.cast (q_lookupOk (a := key) Tryd.underlying108 inf3 (KeyOk.string Tryd.underlying9) rfl rfl (List.mem_of_getElem? (i := 1) rfl)) (v' := (.tuple #[.int .i64 0, .bool false])) (by rw [look_zip]; simp [hk])) (TO.quiet (q_move rfl) ?_)))
  refine TO.quiet (q_extract (vs := _) rfl rfl) (TO.quiet (q_extract (vs := _) rfl rfl) (TO.quiet (q_assign rfl) (TO.quiet (q_assign rfl) ?_)))
  refine TO.nil (T.seq (T.seq (T.region ?_)))
  refine TO.quiet (q_move rfl) (TO.quiet (q_not rfl) ?_)
  refine TO.nil ?_
  refine T.cond1 rfl ?_
  refine T.seq (T.region ?_)
  refine TO.quiet (q_load_box 0 Tryd.underlying108 rfl rfl rfl rfl) (TO.quiet (QT.cast (q_lenMap Tryd.underlying108 rfl (List.mem_of_getElem? (i := 1) rfl)) (v' := .int .i64 ((ks.length : Nat) : Int)) (by simp)) (TO.quiet (q_assign rfl) ?_))
  refine TO.nil (T.region ?_)
  refine TO.quiet (q_load_box 0 Tryd.underlying108 rfl rfl rfl rfl) (TO.quiet (q_move rfl) (TO.quiet (q_move rfl) ?_))
  refine TO.loud rfl (l_mapPut (a := key) (v := ks.length) 1 Tryd.underlying108 (KeyOk.string Tryd.underlying9) rfl rfl rfl rfl (by rw [zipIdx_fst]; exact hk) ?_)
  refine TO.nil (T.seq (T.region ?_))
  refine TO.quiet (q_move rfl) (TO.quiet (q_assign rfl) ?_)
  refine TO.nil (T.ret ?_)
  refine Res.one (.int .i64 ((ks.length : Nat) : Int)) Tryd.results77 rfl ?_
  have ha : add ks key = ks ++ [key] := if_neg hk
  rw [ha]
  refine ⟨by rw [ix_append_right hk]; simp [ix], ?_⟩
  rw [show (ks ++ [key]).zipIdx = ks.zipIdx ++ [(key, ks.length)] by rw [List.zipIdx_append]; simp]; rfl
theorem visit (base : World) [Tab Tryd.prog base] (bx m : Nat) (ks : List (List UInt8)) (key : List UInt8) (hb : ks.length < 1000000) :
    CallT Tryd.prog base 77 [str key, .pointer (some ⟨bx, 0, none⟩)] [objI bx (.cells #[.map (some m)] 108 (0, 0)), mapI str (fun n : Nat => Value.int .i64 (n : Int)) m ks.zipIdx] (fun v O' => v = .int .i64 ((ix key (add ks key) : Nat) : Int) ∧ O' = [objI bx (.cells #[.map (some m)] 108 (0, 0)), mapI str (fun n : Nat => Value.int .i64 (n : Int)) m (add ks key).zipIdx]) := by
  by_cases hk : key ∈ ks
  · exact visitHit base bx m ks key hk hb
  · exact visitMiss base bx m ks key hk hb
set_option maxHeartbeats 1000000 in
set_option maxRecDepth 20000 in
theorem exploreC (base : World) [Tab Tryd.prog base] (tr : List UInt8 → Nat → List UInt8) (L B : Nat) (start : List UInt8) (fv : Value) (J : List (List UInt8) → List Lx.Item → Prop) (Good : List (List UInt8) → Prop) (hL : L ≤ 64) (hB : B ≤ 4096)
    (hn : ∀ (ks : List (List UInt8)) (s x : Nat) (O : List Lx.Item), s < ks.length → x < L → Good ks → J ks O → CallV Tryd.prog base fv [.int .i64 (s : Int), .int .u8 (x : Int)] O (fun v O' => v = str (tr (ks.getD s []) x) ∧ Good (add ks (tr (ks.getD s []) x)) ∧ J (add ks (tr (ks.getD s []) x)) O'))
    (hg : ∀ ks, Good ks → ks.length ≤ B) (O : List Lx.Item) (h0 : Good [start]) (hJ0 : J [start] O) :
    CallT Tryd.prog base 66 [.int .i64 (L : Int), .int .i64 (B : Int), str start, fv] O (fun v O' => ∃ b c qs N O1, v = .tuple #[.slice b N c, .bool true] ∧ O' = rowI b c 41 1 (vals qs) :: (itms 3 qs ++ O1) ∧ J (exN tr L start N) O1 ∧ Good (exN tr L start N) ∧ (exN tr L start N).length = N ∧ ExOk tr L (exN tr L start N) N (nums qs) ∧ ∀ i, i < N → i < (exN tr L start i).length) := by
  refine CallT.enter Tryd.func66 rfl Tryd.ntmps66 rfl ?_
  refine T.seq (T.region ?_)
  refine TO.quiet (q_assign rfl) (TO.quiet (q_assign rfl) ?_)
  refine TO.nil ?_
  refine T.scope ?_ (fun _ _ _ h => h)
  refine T.seq (T.region ?_)
  refine TO.loud rfl (l_makeMap str (fun n : Nat => Value.int .i64 (n : Int)) (fun m1 => ?_))
  refine TO.quiet (q_move rfl) ?_
  refine TO.loud rfl (l_mapInsert (a := start) (v := (0 : Nat)) 0 Tryd.underlying108 (KeyOk.string Tryd.underlying9) rfl rfl rfl rfl (by simp) ?_)
  refine TO.quiet (q_move rfl) ?_
  refine TO.loud rfl (l_alloc inf108 rfl (fun b2 => ?_))
  refine TO.loud rfl (l_store_box (v := (.map (some m1))) (vs := [(.map (some m1))]) 0 inf108 rfl rfl rfl rfl rfl rfl (by simp [putL]) ?_)
  refine TO.nil (T.seq (T.region ?_))
  refine TO.quiet (q_makeFunc) (TO.quiet (q_assign rfl) ?_)
  refine TO.nil (T.seq ?_)
  refine T.label ?_
  refine T.seq (T.seq (T.region ?_))
  refine TO.quiet (q_assign rfl) ?_
  refine TO.nil (T.block ?_)
  refine T.nilRow 41 1 ?_
  refine T.loop (fun (s : Nat) ρ O => ∃ (ks : List (List UInt8)) (qs : List Rec) (ob : Option Addr) (oc : Nat) (O1 : List Lx.Item), O = ([rowI ob oc 41 1 (vals qs), oI b2 108 [(.map (some m1))], mapI str (fun n : Nat => Value.int .i64 (n : Int)) m1 ks.zipIdx] ++ (itms 3 qs ++ O1)) ∧ exN tr L start s = ks ∧ Good ks ∧ J ks O1 ∧ ExOk tr L ks s (nums qs) ∧ (∀ i, i < s → i < (exN tr L start i).length) ∧ Heads [(0, .int .i64 (L : Int)), (1, .int .i64 (B : Int)), (2, str start), (3, fv), (8, (.slice ob s oc)), (9, .bool false), (10, (.pointer (some ⟨b2, 0, none⟩))), (11, (.func (.func 77) #[] #[(.pointer (some ⟨b2, 0, none⟩))])), (12, .int .i64 (s : Int))] ρ) (fun s => B - s) 0 ?_ ?_
  · exact ⟨[start], [], none, 0, O, rfl, rfl, h0, hJ0, ⟨rfl, by simp, fun i hi => absurd hi (by omega), fun i hi => absurd hi (by omega)⟩, fun i hi => absurd hi (by omega), ⟨rfl, rfl, rfl, rfl, rfl, rfl, rfl, rfl, rfl, trivial⟩⟩
  rintro s ρ O ⟨ks, qs, ob, oc, O1, rfl, hks, hG, hJ, hE, hen, hH⟩
  obtain ⟨ρ0, rfl⟩ := hH.elim
  clear hH
  have hgl := hg _ hG
  have hql : qs.length = s := by have := hE.len; simpa using this
  refine T.seq (T.seq (T.region ?_))
  refine TO.quiet (q_move rfl) (TO.quiet (q_load_box 1 Tryd.underlying108 rfl rfl rfl rfl) (TO.quiet (QT.cast (q_lenMap Tryd.underlying108 rfl (List.mem_of_getElem? (i := 2) rfl)) (v' := .int .i64 (ks.length : Int)) (by rw [List.length_zipIdx])) (TO.quiet (q_lss rfl rfl) ?_)))
  refine TO.nil ?_
  refine T.condP rfl (fun hc => ?_) (fun hc => ?_)
  · have hlt22 : s < ks.length := by omega
    refine T.skip (T.seq (T.block (T.seq (T.region ?_))))
    refine TO.quiet (q_move rfl) ?_
    refine TO.loud rfl (l_makeSlice (m := L) Tryd.underlying41 inf3 rfl rfl (by omega) (by omega) (fun b3 => ?_))
    refine TO.quiet (q_assign rfl) ?_
    refine TO.nil (T.seq (T.seq (T.region ?_)))
    refine TO.quiet (q_move rfl) (TO.quiet (q_len Tryd.underlying41 rfl) (TO.quiet (q_move rfl) ?_))
    refine TO.nil (T.block ?_)
    refine T.loop (fun (x : Nat) ρ O => ∃ (ks2 : List (List UInt8)) (ys : List Int) (O2 : List Lx.Item), O = ([rowI (some ⟨b3, 0, none⟩) L 3 1 (ints ys), rowI ob oc 41 1 (vals qs), oI b2 108 [(.map (some m1))], mapI str (fun n : Nat => Value.int .i64 (n : Int)) m1 ks2.zipIdx] ++ (itms 3 qs ++ O2)) ∧ x ≤ L ∧ ys.length = L ∧ Good ks2 ∧ J ks2 O2 ∧ ks2 = ((List.range x).map (tr (ks.getD s []))).foldl add ks ∧ (∀ i, i < x → ys[i]? = some ((ix (tr (ks.getD s []) i) ks2 : Nat) : Int)) ∧ Heads [(0, .int .i64 (L : Int)), (1, .int .i64 (B : Int)), (2, str start), (3, fv), (8, (.slice ob s oc)), (9, .bool false), (10, (.pointer (some ⟨b2, 0, none⟩))), (11, (.func (.func 77) #[] #[(.pointer (some ⟨b2, 0, none⟩))])), (12, .int .i64 (s : Int)), (13, (.slice (some ⟨b3, 0, none⟩) L L)), (28, .int .i64 (L : Int)), (29, .int .i64 (x : Int))] ρ) (fun x => L - x) 0 ?_ ?_
    · exact ⟨ks, List.replicate L 0, O1, by simp, Nat.zero_le _, by simp, hG, hJ, rfl, fun i hi => absurd hi (by omega), ⟨rfl, rfl, rfl, rfl, rfl, rfl, rfl, rfl, rfl, rfl, rfl, rfl, trivial⟩⟩
    rintro x ρ O ⟨ks2, ys, O2, rfl, hx, hyl, hG2, hJ2, hk2, hys, hH⟩
    obtain ⟨ρ0, rfl⟩ := hH.elim
    clear hH
    have hgl2 := hg _ hG2
    have hpre : ks <+: ks2 := hk2 ▸ foldl_prefix _ _
    have hks2 : ks2.getD s [] = ks.getD s [] := prefix_getD hpre hlt22
    have hple := hpre.length_le
    refine T.seq (T.region ?_)
    refine TO.quiet (q_lss rfl rfl) ?_
    refine TO.nil (T.seq ?_)
    refine T.condP rfl (fun hc => ?_) (fun hc => ?_)
    · have hlt30 : x < L := by omega
      refine T.skip (T.seq (T.block (T.seq (T.region ?_))))
      refine TO.quiet (q_move rfl) (TO.quiet (q_assign rfl) ?_)
      refine TO.nil (T.seq (T.region ?_))
      refine TO.quiet (q_move rfl) (TO.quiet (q_move rfl) (TO.quiet (q_move rfl) (TO.quiet (q_move rfl) ?_)))
      refine TO.quiet (q_move rfl) (TO.quiet (q_move rfl) (TO.quiet (q_conv_id Tryd.underlying3 Tryd.underlying5 rfl (show IntKind.u8.wrap (x : Int) = (x : Int) by unfold IntKind.wrap; simp [IntKind.bits, IntKind.signed]; omega)) ?_))
      have hk39 := CallV.under (B := [rowI (some ⟨b3, 0, none⟩) L 3 1 (ints ys), rowI ob oc 41 1 (vals qs), oI b2 108 [(.map (some m1))], mapI str (fun n : Nat => Value.int .i64 (n : Int)) m1 ks2.zipIdx] ++ itms 3 qs) (O := ([rowI (some ⟨b3, 0, none⟩) L 3 1 (ints ys), rowI ob oc 41 1 (vals qs), oI b2 108 [(.map (some m1))], mapI str (fun n : Nat => Value.int .i64 (n : Int)) m1 ks2.zipIdx] ++ (itms 3 qs ++ O2))) (hn ks2 s x O2 (by omega) hlt30 hG2 hJ2) (Sub.cnt [] (by intro a; simp only [itms, oI, List.set_cons_zero, List.set_cons_succ, putL, List.cons_append, List.nil_append, List.append_nil, List.append_assoc, List.map_append, List.map_cons, List.map_nil, cnt_append, cnt_cons, cnt_nil] <;> omega))
      refine TO.loud rfl (l_callG hk39 rfl rfl ?_)
      clear hk39
      rintro v O' ⟨O3, rfl, rfl, hG3, hJ3⟩
      refine TO.sub (O' := ([rowI (some ⟨b3, 0, none⟩) L 3 1 (ints ys), rowI ob oc 41 1 (vals qs), oI b2 108 [(.map (some m1))], mapI str (fun n : Nat => Value.int .i64 (n : Int)) m1 ks2.zipIdx] ++ (itms 3 qs ++ O3))) (Sub.cnt [] (by intro a; simp only [itms, oI, List.set_cons_zero, List.set_cons_succ, putL, List.cons_append, List.nil_append, List.append_nil, List.append_assoc, List.map_append, List.map_cons, List.map_nil, cnt_append, cnt_cons, cnt_nil] <;> omega)) ?_
      rw [hks2] at hG3 hJ3 ⊢
      have hk40 := CallV.of_fn (first := []) (args := [str (tr (ks.getD s []) x)]) (caps := [(.pointer (some ⟨b2, 0, none⟩))]) ent77 (CallT.under (B := [rowI (some ⟨b3, 0, none⟩) L 3 1 (ints ys), rowI ob oc 41 1 (vals qs)] ++ (itms 3 qs ++ O3)) (O := ([rowI (some ⟨b3, 0, none⟩) L 3 1 (ints ys), rowI ob oc 41 1 (vals qs), oI b2 108 [(.map (some m1))], mapI str (fun n : Nat => Value.int .i64 (n : Int)) m1 ks2.zipIdx] ++ (itms 3 qs ++ O3))) (visit base b2 m1 ks2 (tr (ks.getD s []) x) (by have := hg _ hG2; omega)) (Sub.pickR [2, 2, 0, 0] [rowI (some ⟨b3, 0, none⟩) L 3 1 (ints ys), rowI ob oc 41 1 (vals qs), oI b2 108 [(.map (some m1))], mapI str (fun n : Nat => Value.int .i64 (n : Int)) m1 ks2.zipIdx] (itms 3 qs ++ O3) rfl rfl))
      refine TO.loud rfl (l_callG hk40 rfl rfl ?_)
      clear hk40
      rintro v O' ⟨A1, rfl, rfl, rfl⟩
      refine TO.sub (O' := ([rowI (some ⟨b3, 0, none⟩) L 3 1 (ints ys), rowI ob oc 41 1 (vals qs), oI b2 108 [(.map (some m1))], mapI str (fun n : Nat => Value.int .i64 (n : Int)) m1 ((add ks2 (tr (ks.getD s []) x)).zipIdx)] ++ (itms 3 qs ++ O3))) (Sub.pickR [2, 2, 0, 0] [oI b2 108 [(.map (some m1))], mapI str (fun n : Nat => Value.int .i64 (n : Int)) m1 ((add ks2 (tr (ks.getD s []) x)).zipIdx), rowI (some ⟨b3, 0, none⟩) L 3 1 (ints ys), rowI ob oc 41 1 (vals qs)] (itms 3 qs ++ O3) rfl rfl) ?_
      refine TO.quiet (q_ix (i := x) Tryd.underlying41 inf3 rfl rfl (rowO (List.mem_of_getElem? (i := 0) rfl))) ?_
      refine TO.loud rfl (l_st (j := x) (v := .int .i64 ((ix (tr (ks.getD s []) x) (add ks2 (tr (ks.getD s []) x)) : Nat) : Int)) (vs := [(.int .i64 ((ix (tr (ks.getD s []) x) (add ks2 (tr (ks.getD s []) x)) : Nat) : Int))]) (cs := ints ys) 0 inf3 rfl rfl rfl rfl rfl (by simp) rfl (by first | (simp; omega) | (simp_all; omega)) ?_)
      refine TO.sub (O' := ([rowI (some ⟨b3, 0, none⟩) L 3 1 (ints (ys.set x ((ix (tr (ks.getD s []) x) (add ks2 (tr (ks.getD s []) x)) : Nat) : Int))), rowI ob oc 41 1 (vals qs), oI b2 108 [(.map (some m1))], mapI str (fun n : Nat => Value.int .i64 (n : Int)) m1 ((add ks2 (tr (ks.getD s []) x)).zipIdx)] ++ (itms 3 qs ++ O3))) (by rw [show putL (ints ys) x [(.int .i64 ((ix (tr (ks.getD s []) x) (add ks2 (tr (ks.getD s []) x)) : Nat) : Int))] = ints (ys.set x ((ix (tr (ks.getD s []) x) (add ks2 (tr (ks.getD s []) x)) : Nat) : Int)) from by simp [putL]]; exact Sub.of (List.Sublist.refl _)) ?_
      refine TO.nil (T.seq (T.region ?_))
      refine TO.quiet (q_load_box 2 Tryd.underlying108 rfl rfl rfl rfl) (TO.quiet (QT.cast (q_lenMap Tryd.underlying108 rfl (List.mem_of_getElem? (i := 3) rfl)) (v' := .int .i64 ((add ks2 (tr (ks.getD s []) x)).length : Int)) (by rw [List.length_zipIdx])) (TO.quiet (q_move rfl) (TO.quiet (q_gtr rfl rfl) ?_)))
      refine TO.nil ?_
      refine T.condP rfl (fun hc => ?_) (fun hc => ?_)
      · exact absurd hc (by have := hg _ hG3; omega)
      have hge45 : ¬ (add ks2 (tr (ks.getD s []) x)).length > B := by omega
      refine T.skip (T.region ?_)
      refine TO.quiet (q_inc rfl rfl (by omega)) (TO.quiet (q_move rfl) ?_)
      refine TO.nil ?_
      have hmm : ∀ y, y < x → tr (ks.getD s []) y ∈ ks2 := fun y hy => by rw [hk2, mem_foldl_add]; exact .inr (List.mem_map_of_mem (List.mem_range.2 hy))
      refine ⟨x + 1, by omega, add ks2 (tr (ks.getD s []) x), ys.set x ((ix (tr (ks.getD s []) x) (add ks2 (tr (ks.getD s []) x)) : Nat) : Int), O3, rfl, by omega, by simp [hyl], hG3, hJ3, by rw [foldl_add_snoc, ← hk2], fun i hi => ?_, ⟨rfl, rfl, rfl, rfl, rfl, rfl, rfl, rfl, rfl, rfl, rfl, rfl, trivial⟩⟩
      by_cases e : i = x
      · subst e; rw [List.getElem?_set_self (by omega)]
      · rw [List.getElem?_set_ne (fun h => e h.symm), hys i (by omega), ix_prefix (add_prefix _ _) (hmm i (by omega))]
    have hge30 : ¬ x < L := by omega
    refine T.exit ?_
    refine T.region ?_
    refine TO.quiet (q_move rfl) (TO.quiet (q_move rfl) ?_)
    refine TO.loud rfl (l_build1 (v := (.slice (some ⟨b3, 0, none⟩) L L)) Tryd.underlying22 inf41 rfl rfl rfl (fun b4 => ?_))
    refine TO.loud rfl (l_append 2 Tryd.underlying22 Tryd.underlying22 inf41 rfl rfl rfl rfl (by simp [hql]) (by decide) (Src.row (j := 0) rfl (by simp)) (by simp [oneB]) (by omega) (by decide) (by decide) (fun b5 c6 => ?_))
    refine TO.quiet (q_assign rfl) ?_
    refine TO.nil ?_
    refine T.sub (O' := [rowI b5 c6 41 1 (vals (qs ++ [⟨(some ⟨b3, 0, none⟩), L, ys⟩])), oI b2 108 [(.map (some m1))], mapI str (fun n : Nat => Value.int .i64 (n : Int)) m1 ks2.zipIdx] ++ (itms 3 (qs ++ [⟨(some ⟨b3, 0, none⟩), L, ys⟩]) ++ O2)) (by
      rw [show vals (qs ++ [⟨(some ⟨b3, 0, none⟩), L, ys⟩]) = (vals qs) ++ [(.slice (some ⟨b3, 0, none⟩) L L)] by simp [Rec.val, hyl]]
      exact Sub.cnt [rowI (some ⟨b4, 0, none⟩) 1 41 1 [(.slice (some ⟨b3, 0, none⟩) L L)]] (by intro a; simp only [List.set_cons_zero, List.set_cons_succ, itms, List.map_append, List.map_cons, List.map_nil, Rec.itm, cnt_append, cnt_cons, cnt_nil, List.cons_append, List.nil_append, List.append_assoc, List.append_nil] <;> omega)) ?_
    refine T.region ?_
    refine TO.quiet (q_move rfl) (TO.quiet (q_inc rfl rfl (by omega)) (TO.quiet (q_assign rfl) ?_))
    refine TO.nil ?_
    have hxL : x = L := by omega
    have hmm : ∀ y, y < L → tr (ks.getD s []) y ∈ ks2 := fun y hy => by rw [hk2, mem_foldl_add]; exact .inr (List.mem_map_of_mem (List.mem_range.2 (by omega)))
    have hyr : ys = exRow tr L ks2 s := by
      apply List.ext_getElem?
      intro i
      by_cases hi : i < L
      · rw [hys i (by omega)]; simp only [exRow, hks2]; simp [hi]
      · rw [List.getElem?_eq_none (by omega), List.getElem?_eq_none (by simp [exRow]; omega)]
    have hE2 : ExOk tr L ks2 (s + 1) (nums (qs ++ [⟨(some ⟨b3, 0, none⟩), L, ys⟩])) := by
      have := hE.snoc hpre hlt22 hyr (by rw [hks2]; exact hmm)
      simpa [nums] using this
    have hen2 : ∀ i, i < s + 1 → i < (exN tr L start i).length := fun i hi => by
      by_cases e : i = s
      · subst e; rw [hks]; exact hlt22
      · exact hen i (by omega)
    exact ⟨s + 1, by omega, ks2, qs ++ [⟨(some ⟨b3, 0, none⟩), L, ys⟩], b5, c6, O2, rfl, by rw [exN, hks, hk2, hxL], hG2, hJ2, hE2, hen2, ⟨rfl, rfl, rfl, rfl, rfl, rfl, rfl, rfl, rfl, trivial⟩⟩
  have hge22 : ¬ s < ks.length := by omega
  refine T.exit ?_
  refine T.seq (T.region ?_)
  refine TO.quiet (q_move rfl) (TO.quiet (q_load_box 1 Tryd.underlying108 rfl rfl rfl rfl) (TO.quiet (QT.cast (q_lenMap Tryd.underlying108 rfl (List.mem_of_getElem? (i := 2) rfl)) (v' := .int .i64 (ks.length : Int)) (by rw [List.length_zipIdx])) (TO.quiet (q_move rfl) ?_)))
  refine TO.quiet (QT.toB (q_leq rfl rfl) (decide_eq_true (by have := hg _ hG; omega))) (TO.quiet (q_assign rfl) (TO.quiet (q_assign rfl) ?_))
  refine TO.nil (T.ret (Res.drop ?_))
  refine Res.two (.slice ob s oc) (.bool true) Tryd.results66 rfl rfl ?_
  have hN : ks.length = s := by have := hE.le; omega
  exact ⟨_, (Sub.pickR [0] [rowI ob oc 41 1 (vals qs), oI b2 108 [(.map (some m1))], mapI str (fun n : Nat => Value.int .i64 (n : Int)) m1 ks.zipIdx] (itms 3 qs ++ O1) rfl rfl), ob, oc, qs, s, O1, rfl, rfl, by rw [hks]; exact hJ, by rw [hks]; exact hG, by rw [hks]; exact hN, by rw [hks]; exact hE, hen⟩
set_option maxHeartbeats 1000000 in
set_option maxRecDepth 20000 in
theorem nextC (base : World) [Tab Tryd.prog base] (d : DFA) (nb fb : Option Addr) (nc fc : Nat) (vs : List Value) (h : DfaAt base d nb vs fb) (hv : Valid d) (hn : d.next.length < 10000) (b1 b2 b3 : Nat) (os : List Nat) (sn : List Bool) (ob sb : Option Addr) (oc sc sc2 s x : Nat) (hs : s < os.length) (hx : x < 2 ^ d.vars.toNat) (hos : ∀ o ∈ os, o < d.next.length) (hnd : os.Nodup) (hsl : sn.length = d.next.length) (hsn : ∀ t, t < d.next.length → sn[t]? = some (decide (t ∈ os))) :
    CallT Tryd.prog base 64 ([.int .i64 (s : Int), .int .u8 (x : Int)] ++ [.pointer (some ⟨b1, 0, none⟩), .pointer (some ⟨b2, 0, none⟩), .pointer (some ⟨b3, 0, none⟩)])
      [oI b1 25 [(.int .i64 d.vars), (.int .i64 d.start), (.slice nb d.next.length nc), (.slice fb d.final.length fc)], oI b2 41 [(.slice ob os.length oc)], rowI ob oc 3 1 (nats os), oI b3 23 [(.slice sb d.next.length sc)], rowI sb sc2 4 1 (bools sn)]
      (fun v O' => v = str (Lib.decDigits (toN d os[s] x)) ∧ ∃ ob' oc' sn', sn'.length = d.next.length ∧ (∀ t, t < d.next.length → sn'[t]? = some (decide (t ∈ add os (toN d os[s] x)))) ∧ O' = [oI b1 25 [(.int .i64 d.vars), (.int .i64 d.start), (.slice nb d.next.length nc), (.slice fb d.final.length fc)], oI b2 41 [(.slice ob' ((add os (toN d os[s] x)).length) oc')], rowI ob' oc' 3 1 (nats (add os (toN d os[s] x))), oI b3 23 [(.slice sb d.next.length sc)], rowI sb sc2 4 1 (bools sn')]) := by
  refine CallT.enter Tryd.func64 rfl Tryd.ntmps64 rfl ?_
  obtain ⟨o, hso⟩ : ∃ o, os[s] = o := ⟨_, rfl⟩
  have hso2 : os[s]? = some o := by rw [List.getElem?_eq_getElem hs, hso]
  have ho : o < d.next.length := hso ▸ hos _ (List.getElem_mem hs)
  obtain ⟨t, ht⟩ : ∃ t, toN d o x = t := ⟨_, rfl⟩
  obtain ⟨htn, _, hxr, hdx⟩ := hv.toN_lt ho hx
  rw [ht] at htn hdx
  rw [hso, ht]
  have hvl := h.rows.1
  have hw := hv.width
  obtain ⟨vb, vc, g1, s1⟩ := h.rows.get ho
  have hxt : (ints d.next[o])[x]? = some (.int .i64 ((t : Nat) : Int)) := by rw [ints_get hxr, hdx]
  have hol := nodup_bound hnd hos
  have hst := hsn t htn
  have htl : t < sn.length := by omega
  refine T.seq (T.region ?_)
  refine TO.quiet (q_assign rfl) ?_
  refine TO.nil (T.seq ?_)
  refine T.draws _ [(0, 0), (1, 0), (2, 0), (3, 0), (4, 0), (5, 0), (6, 0), (7, 0), (8, 0), (9, 0), (10, 0), (11, 0)] mixed (drawF_ok (by kernel_rfl)) (Sub.of (List.Sublist.refl _)) (fun _ _ _ h => h) ?_
  refine DO.quiet rfl (q_fieldAddr Tryd.underlying25 rfl inf22 rfl rfl) (DO.quiet rfl (q_load_box 0 Tryd.underlying22 rfl rfl rfl rfl) (DO.quiet rfl (q_load_box 1 Tryd.underlying41 rfl rfl rfl rfl) (DO.quiet rfl (q_move rfl) ?_)))
  refine DO.quiet rfl (q_ix (i := s) Tryd.underlying41 inf3 rfl rfl (rowO (List.mem_of_getElem? (i := 2) rfl)) hs (by rw [List.length_map]; exact hs)) (DO.quiet rfl (q_ld Tryd.underlying3 rfl rfl (rowO (List.mem_of_getElem? (i := 2) rfl)) (show (nats os)[s]? = some (.int .i64 ((o : Nat) : Int)) by rw [List.getElem?_map, hso2]; rfl)) (DO.quiet rfl (q_ix (i := o) Tryd.underlying22 inf41 rfl rfl (Sl.o h.outer) ho) (DO.quiet rfl (q_ld Tryd.underlying41 rfl rfl (Sl.o h.outer) g1) ?_)))
  refine DO.quiet rfl (q_move rfl) (DO.quiet rfl (q_ix (i := x) Tryd.underlying41 inf3 rfl rfl (Sl.o s1) hxr (by rw [List.length_map]; exact hxr)) (DO.quiet rfl (q_ld Tryd.underlying3 rfl rfl (Sl.o s1) hxt) (DO.quiet rfl (q_assign rfl) ?_)))
  refine DO.done ?_
  refine T.seq (T.seq (T.region ?_))
  refine TO.quiet (q_load_box 3 Tryd.underlying23 rfl rfl rfl rfl) (TO.quiet (q_move rfl) (TO.quiet (q_ix (i := t) Tryd.underlying23 inf4 rfl rfl (rowO (List.mem_of_getElem? (i := 4) rfl)) htn (by rw [List.length_map]; exact htl)) (TO.quiet (q_ld Tryd.underlying4 rfl rfl (rowO (List.mem_of_getElem? (i := 4) rfl)) (show (bools sn)[t]? = some (.bool (decide (t ∈ os))) by rw [List.getElem?_map, hst]; rfl)) ?_)))
  refine TO.quiet (q_not rfl) ?_
  refine TO.nil ?_
  refine T.condP (p := t ∉ os) (congrArg Value.bool (by simp)) (fun hc => ?_) (fun hc => ?_)
  · refine T.draws2 [oI b1 25 [(.int .i64 d.vars), (.int .i64 d.start), (.slice nb d.next.length nc), (.slice fb d.final.length fc)], oI b3 23 [(.slice sb d.next.length sc)], rowI sb sc2 4 1 (bools sn)] [oI b2 41 [(.slice ob os.length oc)]] [(0, 0), (1, 0), (2, 3), (3, 0), (4, 1), (5, 1), (6, 4), (7, 0), (8, 2)] mixed (by kernel_rfl) (Sub.pick [0, 2, 2] rfl) (Sub.pick [1] rfl) (fun _ _ _ h => h) ?_
    refine DO.quiet rfl (q_load_box 1 Tryd.underlying23 rfl rfl rfl rfl) (DO.quiet rfl (q_move rfl) ?_)
    refine DO.quiet2 rfl (q_load_box 0 Tryd.underlying41 rfl rfl rfl rfl) ?_
    refine DO.quiet rfl (q_move rfl) ?_
    refine DO.loud2 rfl rfl (l_build1 (v := .int .i64 ((t : Nat) : Int)) Tryd.underlying41 inf3 rfl rfl rfl (fun z1 => ⟨Sub.pick [1, 3, 3] rfl, Sub.pick [2] rfl, ?_⟩))
    refine DO.loud2 rfl rfl (l_append 3 Tryd.underlying41 Tryd.underlying41 inf3 rfl rfl rfl rfl (by simp) (by decide) (Src.row (j := 0) rfl (by simp)) (by simp [oneB]) (by omega) (by decide) (by decide) (fun z2 zc3 => ⟨Sub.pick [1, 3, 3] rfl, Sub.pick [2] rfl, ?_⟩))
    refine DO.last2 rfl rfl (l_store_box (v := (.slice z2 (os.length + 1) zc3)) (vs := [(.slice z2 (os.length + 1) zc3)]) 2 inf41 rfl rfl rfl rfl rfl rfl (by simp [putL]) ⟨Sub.pick [1, 3, 3] rfl, ?_⟩)
    refine DO.quiet rfl (q_ix (i := t) Tryd.underlying23 inf4 rfl rfl (rowO (List.mem_of_getElem? (i := 2) rfl)) htn (by rw [List.length_map]; exact htl)) ?_
    refine DO.last rfl rfl (l_st (j := t) (v := .bool true) (vs := [(.bool true)]) (cs := bools sn) 5 inf4 rfl rfl rfl rfl rfl (by simp) rfl (by first | (simp; omega) | (simp_all; omega)) ?_)
    refine DO.sub (O' := [rowI (some ⟨z1, 0, none⟩) 1 3 1 [.int .i64 ((t : Nat) : Int)], oI b1 25 [(.int .i64 d.vars), (.int .i64 d.start), (.slice nb d.next.length nc), (.slice fb d.final.length fc)], oI b2 41 [(.slice z2 (os.length + 1) zc3)], rowI z2 zc3 3 1 ((nats os) ++ [.int .i64 ((t : Nat) : Int)]), oI b3 23 [(.slice sb d.next.length sc)], rowI sb sc2 4 1 (bools (sn.set t true))]) (by rw [show putL (bools sn) t [(.bool true)] = bools (sn.set t true) from by simp [putL]]; exact Sub.of (List.Sublist.refl _)) ?_
    refine DO.done ?_
    refine T.seq (T.region ?_)
    refine TO.quiet (q_move rfl) ?_
    have hk33 := fun (w1 : World) (hI : Inv base [rowI (some ⟨z1, 0, none⟩) 1 3 1 [.int .i64 ((t : Nat) : Int)], oI b1 25 [(.int .i64 d.vars), (.int .i64 d.start), (.slice nb d.next.length nc), (.slice fb d.final.length fc)], oI b2 41 [(.slice z2 (os.length + 1) zc3)], rowI z2 zc3 3 1 ((nats os) ++ [.int .i64 ((t : Nat) : Int)]), oI b3 23 [(.slice sb d.next.length sc)], rowI sb sc2 4 1 (bools (sn.set t true))] w1) => (haveI := Inv.tab (P := Tryd.prog) hI; itoaF w1 t (by omega))
    refine TO.loud rfl (l_call ent65 (CallT.of_pure hk33) rfl ?_)
    clear hk33
    rintro v O' ⟨N, rfl, rfl, rfl⟩
    refine TO.quiet (q_assign rfl) ?_
    refine TO.nil (T.ret (Res.drop ?_))
    refine Res.one (str (Lib.decDigits t)) Tryd.results64 rfl ?_
    have ha : add os t = os ++ [t] := if_neg hc
    refine ⟨[oI b1 25 [(.int .i64 d.vars), (.int .i64 d.start), (.slice nb d.next.length nc), (.slice fb d.final.length fc)], oI b2 41 [(.slice z2 (os.length + 1) zc3)], rowI z2 zc3 3 1 ((nats os) ++ [.int .i64 ((t : Nat) : Int)]), oI b3 23 [(.slice sb d.next.length sc)], rowI sb sc2 4 1 (bools (sn.set t true))], (Sub.pick [1, 1, 1, 1, 1] rfl), rfl, z2, zc3, sn.set t true, by simp [hsl], fun t2 ht2 => ?_, ?_⟩
    · rw [ha]
      by_cases e : t2 = t
      · subst e; rw [List.getElem?_set_self htl]; simp
      · rw [List.getElem?_set_ne (fun h => e h.symm), hsn t2 ht2]; simp [e]
    · rw [ha, List.length_append, show nats (os ++ [t]) = nats os ++ [.int .i64 ((t : Nat) : Int)] from List.map_append]; rfl
  refine T.skip (T.seq (T.region ?_))
  refine TO.quiet (q_move rfl) ?_
  have hk33 := fun (w1 : World) (hI : Inv base [oI b1 25 [(.int .i64 d.vars), (.int .i64 d.start), (.slice nb d.next.length nc), (.slice fb d.final.length fc)], oI b2 41 [(.slice ob os.length oc)], rowI ob oc 3 1 (nats os), oI b3 23 [(.slice sb d.next.length sc)], rowI sb sc2 4 1 (bools sn)] w1) => (haveI := Inv.tab (P := Tryd.prog) hI; itoaF w1 t (by omega))
  refine TO.loud rfl (l_call ent65 (CallT.of_pure hk33) rfl ?_)
  clear hk33
  rintro v O' ⟨N, rfl, rfl, rfl⟩
  refine TO.quiet (q_assign rfl) ?_
  refine TO.nil (T.ret (Res.drop ?_))
  refine Res.one (str (Lib.decDigits t)) Tryd.results64 rfl ?_
  have ha : add os t = os := if_pos (Classical.not_not.1 hc)
  refine ⟨[oI b1 25 [(.int .i64 d.vars), (.int .i64 d.start), (.slice nb d.next.length nc), (.slice fb d.final.length fc)], oI b2 41 [(.slice ob os.length oc)], rowI ob oc 3 1 (nats os), oI b3 23 [(.slice sb d.next.length sc)], rowI sb sc2 4 1 (bools sn)], (Sub.pick [0, 0, 0, 0, 0] rfl), rfl, ob, oc, sn, hsl, fun t2 ht2 => ?_, ?_⟩
  · rw [ha]; exact hsn t2 ht2
  · rw [ha]
def RenJ (d : DFA) (nb fb : Option Addr) (nc fc b1 bB bC bD : Nat) (ks : List (List UInt8)) (O : List Lx.Item) : Prop :=
  ∃ (os : List Nat) (sn : List Bool) (ob : Option Addr) (oc : Nat), ks = os.map Lib.decDigits ∧ O = [objI b1 (.cells (List.toArray [(.int .i64 d.vars), (.int .i64 d.start), (.slice nb d.next.length nc), (.slice fb d.final.length fc)]) 25 (0, 0)), objI bC (.cells (List.toArray [(.slice ob os.length oc)]) 41 (0, 0)), rowI ob oc 3 1 (nats os), objI bD (.cells (List.toArray [(.slice (some ⟨bB, 0, none⟩) d.next.length d.next.length)]) 23 (0, 0)), rowI (some ⟨bB, 0, none⟩) d.next.length 4 1 (bools sn)] ∧ os.Nodup ∧ (∀ o ∈ os, o < d.next.length) ∧ sn.length = d.next.length ∧ (∀ t, t < d.next.length → sn[t]? = some (decide (t ∈ os)))
set_option maxRecDepth 20000 in
theorem nextV (base : World) [Tab Tryd.prog base] (d : DFA) (nb fb : Option Addr) (nc fc : Nat) (vs : List Value) (h : DfaAt base d nb vs fb) (hv : Valid d) (hn : d.next.length < 10000) (b1 bB bC bD : Nat) (ks : List (List UInt8)) (s x : Nat) (O : List Lx.Item) (hs : s < ks.length) (hx : x < 2 ^ d.vars.toNat) (hJ : RenJ d nb fb nc fc b1 bB bC bD ks O) :
    CallV Tryd.prog base (.func (.func 64) #[] #[.pointer (some ⟨b1, 0, none⟩), .pointer (some ⟨bC, 0, none⟩), .pointer (some ⟨bD, 0, none⟩)]) [.int .i64 (s : Int), .int .u8 (x : Int)] O
      (fun v O' => v = str (trD d (ks.getD s []) x) ∧ (add ks (trD d (ks.getD s []) x)).length ≤ d.next.length ∧ RenJ d nb fb nc fc b1 bB bC bD (add ks (trD d (ks.getD s []) x)) O') := by
  obtain ⟨os, sn, ob, oc, rfl, rfl, hnd, hos, hsl, hsn⟩ := hJ
  have hs' : s < os.length := by simpa using hs
  have e : (os.map Lib.decDigits).getD s [] = Lib.decDigits os[s] := by simp [hs']
  have e2 : trD d ((os.map Lib.decDigits).getD s []) x = Lib.decDigits (toN d os[s] x) := by rw [e, trD, undec_dec]
  have hT := (hv.toN_lt (hos _ (List.getElem_mem hs')) hx).1
  have hos2 : ∀ o ∈ add os (toN d os[s] x), o < d.next.length := fun o ho => by
    rcases mem_add.1 ho with ho | ho
    · exact hos o ho
    · rw [ho]; exact hT
  refine CallV.mono (CallV.of_fn (first := []) (caps := [.pointer (some ⟨b1, 0, none⟩), .pointer (some ⟨bC, 0, none⟩), .pointer (some ⟨bD, 0, none⟩)]) ent64 (nextC base d nb fb nc fc vs h hv hn b1 bC bD os sn ob (some ⟨bB, 0, none⟩) oc d.next.length d.next.length s x hs' hx hos hnd hsl hsn)) ?_
  rintro v O' ⟨rfl, ob', oc', sn', h1, h2, rfl⟩
  rw [e2, ← map_add dec_inj]
  refine ⟨rfl, ?_, add os (toN d os[s] x), sn', ob', oc', rfl, rfl, add_nodup hnd, hos2, h1, h2⟩
  rw [List.length_map]; exact nodup_bound (add_nodup hnd) hos2
end Go.Proofs.YtnmfefmhfkhihaaDoor


namespace Go.Proofs.YtnmfefmhfkhihaaDoor
open Go.Lx Go.RowKit
set_option linter.unusedVariables false
set_option linter.unusedSimpArgs false
set_option maxHeartbeats 1000000 in
set_option maxRecDepth 20000 in
theorem renumBad (w : World) [Tab Tryd.prog w] (d : DFA) (nb fb : Option Addr) (nc fc : Nat) (vs : List Value) (h : DfaAt w d nb vs fb) (hb : d.next.length < 9223372036854775807) (hbr : ∀ r ∈ d.next, r.length < 9223372036854775807) (hbf : d.final.length < 9223372036854775807) (he : checkD d ≠ 0) :
    PureT Tryd.prog 45 [.agg (dfaCells d nb nc fb fc).toArray] w fun v N => v = .tuple #[.agg #[.int .i64 0, .int .i64 0, .slice none 0 0, .slice none 0 0], .int .i64 (checkD d : Int)] ∧ N = [] := by
  refine CallT.enter Tryd.func45 rfl Tryd.ntmps45 rfl ?_
  refine T.seq (T.region ?_)
  refine TO.loud rfl (l_box (v := (.agg #[(.int .i64 d.vars), (.int .i64 d.start), (.slice nb d.next.length nc), (.slice fb d.final.length fc)])) (cs := [(.int .i64 d.vars), (.int .i64 d.start), (.slice nb d.next.length nc), (.slice fb d.final.length fc)]) rfl rfl (fun b1 => ?_))
  refine TO.loud rfl (l_alloc inf25 rfl (fun b2 => ?_))
  refine TO.quiet (q_assign rfl) ?_
  refine TO.nil (T.seq (T.seq (T.region ?_)))
  refine TO.quiet (q_load_boxAgg 1 Tryd.underlying25 rfl inf25 rfl rfl rfl) ?_
  have hk11 := fun (w1 : World) (hI : Inv w [oI b2 25 [(.int .i64 0), (.int .i64 0), (.slice none 0 0), (.slice none 0 0)], oI b1 25 [(.int .i64 d.vars), (.int .i64 d.start), (.slice nb d.next.length nc), (.slice fb d.final.length fc)]] w1) => (haveI := Inv.tab (P := Tryd.prog) hI; subsetCheck w1 d nb fb nc fc vs (hI.dfa h) hb hbr hbf)
  refine TO.loud rfl (l_call ent33 (CallT.of_pure hk11) rfl ?_)
  clear hk11
  rintro v O' ⟨N, rfl, rfl, rfl⟩
  refine TO.quiet (q_assign rfl) ?_
  refine TO.nil (T.seq (T.region ?_))
  refine TO.quiet (q_move rfl) (TO.quiet (QT.toB (q_neq rfl rfl) (decide_eq_true (by omega))) ?_)
  refine TO.nil ?_
  refine T.cond1 rfl ?_
  refine T.seq (T.region ?_)
  refine TO.quiet (q_build plan25 inf25 rfl) (TO.quiet (q_move rfl) ?_)
  refine TO.loud rfl (l_store_box (v := (.agg #[(.int .i64 0), (.int .i64 0), (.slice none 0 0), (.slice none 0 0)])) (vs := [(.int .i64 0), (.int .i64 0), (.slice none 0 0), (.slice none 0 0)]) 0 inf25 rfl rfl rfl rfl rfl rfl (by simp [putL]) ?_)
  refine TO.quiet (q_assign rfl) ?_
  refine TO.nil (T.ret (Res.drop ?_))
  refine Res.cell1b (.int .i64 (checkD d : Int)) (i := 0) Tryd.results45 Tryd.underlying25 rfl inf25 rfl rfl rfl rfl ?_
  exact ⟨[], Sub.of (List.nil_sublist _), rfl, rfl⟩
set_option maxHeartbeats 1000000 in
set_option maxRecDepth 20000 in
theorem renumOk (w : World) [Tab Tryd.prog w] (d : DFA) (nb fb : Option Addr) (nc fc : Nat) (vs : List Value) (h : DfaAt w d nb vs fb) (hv : Valid d) (hn : d.next.length < 10000) :
    PureT Tryd.prog 45 [.agg (dfaCells d nb nc fb fc).toArray] w fun v N => ∃ nb' nc' fb' fc' qs, v = .tuple #[.agg (dfaCells (renum d) nb' nc' fb' fc').toArray, .int .i64 0] ∧ N = [rowI nb' nc' 41 1 (vals qs), rowI fb' fc' 4 1 (bools (renum d).final)] ++ itms 3 qs ∧ nums qs = (renum d).next := by
  refine CallT.enter Tryd.func45 rfl Tryd.ntmps45 rfl ?_
  have he := checkD_zero.2 hv
  have hb : d.next.length < 9223372036854775807 := by omega
  have hbr : ∀ r ∈ d.next, r.length < 9223372036854775807 := hv.bound
  have hbf : d.final.length < 9223372036854775807 := by have := hv.fin; omega
  have hn0 := hv.n0
  have hs0 := hv.s0
  have hs1 := hv.s1
  have hsn : d.start.toNat < d.next.length := by omega
  refine T.seq (T.region ?_)
  refine TO.loud rfl (l_box (v := (.agg #[(.int .i64 d.vars), (.int .i64 d.start), (.slice nb d.next.length nc), (.slice fb d.final.length fc)])) (cs := [(.int .i64 d.vars), (.int .i64 d.start), (.slice nb d.next.length nc), (.slice fb d.final.length fc)]) rfl rfl (fun z1 => ?_))
  refine TO.loud rfl (l_alloc inf25 rfl (fun z2 => ?_))
  refine TO.quiet (q_assign rfl) ?_
  refine TO.nil (T.seq (T.seq (T.region ?_)))
  refine TO.quiet (q_load_boxAgg 1 Tryd.underlying25 rfl inf25 rfl rfl rfl) ?_
  have hk11 := fun (w1 : World) (hI : Inv w [oI z2 25 [(.int .i64 0), (.int .i64 0), (.slice none 0 0), (.slice none 0 0)], oI z1 25 [(.int .i64 d.vars), (.int .i64 d.start), (.slice nb d.next.length nc), (.slice fb d.final.length fc)]] w1) => (haveI := Inv.tab (P := Tryd.prog) hI; subsetCheck w1 d nb fb nc fc vs (hI.dfa h) hb hbr hbf)
  refine TO.loud rfl (l_call ent33 (CallT.of_pure hk11) rfl ?_)
  clear hk11
  rintro v O' ⟨N, rfl, rfl, rfl⟩
  rw [he]
  refine TO.quiet (q_assign rfl) ?_
  refine TO.nil (T.seq (T.region ?_))
  refine TO.quiet (q_move rfl) (TO.quiet (q_neq rfl rfl) ?_)
  refine TO.nil ?_
  refine T.cond0 rfl ?_
  refine T.skip ?_
  refine T.cut (fun ρ O => ∃ (bA bB bC bD : Nat), O = [oI bC 41 [(.slice (some ⟨bA, 0, none⟩) 1 1)], oI bD 23 [(.slice (some ⟨bB, 0, none⟩) d.next.length d.next.length)], rowI (some ⟨bA, 0, none⟩) 1 3 1 [(.int .i64 d.start)], rowI (some ⟨bB, 0, none⟩) d.next.length 4 1 (List.replicate d.next.length (.bool false)), oI z2 25 [(.int .i64 0), (.int .i64 0), (.slice none 0 0), (.slice none 0 0)], oI z1 25 [(.int .i64 d.vars), (.int .i64 d.start), (.slice nb d.next.length nc), (.slice fb d.final.length fc)]] ∧ Heads [(0, (.agg #[(.int .i64 d.vars), (.int .i64 d.start), (.slice nb d.next.length nc), (.slice fb d.final.length fc)])), (1, (.pointer (some ⟨z1, 0, none⟩))), (2, (.pointer (some ⟨z2, 0, none⟩))), (3, .int .i64 0), (4, .int .i64 ((0 : Nat) : Int)), (5, (.pointer (some ⟨bC, 0, none⟩))), (6, (.pointer (some ⟨bD, 0, none⟩)))] ρ) ?_ ?_
  · refine T.tree [oI z1 25 [(.int .i64 d.vars), (.int .i64 d.start), (.slice nb d.next.length nc), (.slice fb d.final.length fc)]] 11 mixed rfl (Sub.pick [1] rfl) (fun _ _ _ h => h) ?_
    refine RO.quietT 0 rfl (by kernel_rfl) (q_fieldAddr Tryd.underlying25 rfl inf3 rfl rfl) ?_
    refine RO.quietT 1 rfl (by kernel_rfl) (q_load_box 0 Tryd.underlying3 rfl rfl rfl rfl) ?_
    refine RO.quietT 3 rfl (by kernel_rfl) (q_fieldAddr Tryd.underlying25 rfl inf22 rfl rfl) ?_
    refine RO.quietT 4 rfl (by kernel_rfl) (q_load_box 0 Tryd.underlying22 rfl rfl rfl rfl) ?_
    refine RO.quietT 5 rfl (by kernel_rfl) (q_len Tryd.underlying22 rfl) ?_
    refine RO.fork [2, 6, 7, 8] (by kernel_rfl) rfl ⟨⟨_, rfl, rfl, l_build1 (v := (.int .i64 d.start)) Tryd.underlying41 inf3 rfl rfl rfl (fun bA => ⟨Sub.pick [2] rfl, ?_⟩)⟩, ⟨_, rfl, rfl, l_makeSlice (m := d.next.length) Tryd.underlying23 inf4 rfl rfl (by omega) (by omega) (fun bB => ⟨Sub.pick [2] rfl, ?_⟩)⟩, ⟨_, rfl, rfl, l_alloc inf41 rfl (fun bC => ⟨Sub.pick [2] rfl, ?_⟩)⟩, ⟨_, rfl, rfl, l_alloc inf23 rfl (fun bD => ⟨Sub.pick [2] rfl, ?_⟩)⟩, trivial⟩
    · refine RO.fork [6, 7, 8] (by kernel_rfl) rfl ⟨⟨_, rfl, rfl, l_makeSlice (m := d.next.length) Tryd.underlying23 inf4 rfl rfl (by omega) (by omega) (fun bB => ⟨Sub.pick [3] rfl, ?_⟩)⟩, ⟨_, rfl, rfl, l_alloc inf41 rfl (fun bC => ⟨Sub.pick [3] rfl, ?_⟩)⟩, ⟨_, rfl, rfl, l_alloc inf23 rfl (fun bD => ⟨Sub.pick [3] rfl, ?_⟩)⟩, trivial⟩
      · refine RO.fork [7, 8] (by kernel_rfl) rfl ⟨⟨_, rfl, rfl, l_alloc inf41 rfl (fun bC => ⟨Sub.pick [4] rfl, ?_⟩)⟩, ⟨_, rfl, rfl, l_alloc inf23 rfl (fun bD => ⟨Sub.pick [4] rfl, ?_⟩)⟩, trivial⟩
        · refine RO.fork [8] (by kernel_rfl) rfl ⟨⟨_, rfl, rfl, l_alloc inf23 rfl (fun bD => ⟨Sub.pick [5] rfl, ?_⟩)⟩, trivial⟩
          refine RO.fork [9] (by kernel_rfl) rfl ⟨⟨_, rfl, rfl, l_store_box (v := (.slice (some ⟨bA, 0, none⟩) 1 1)) (vs := [(.slice (some ⟨bA, 0, none⟩) 1 1)]) 1 inf41 rfl rfl rfl rfl rfl rfl (by simp [putL]) ⟨Sub.pick [5] rfl, ?_⟩⟩, trivial⟩
          refine RO.fork [10] (by kernel_rfl) rfl ⟨⟨_, rfl, rfl, l_store_box (v := (.slice (some ⟨bB, 0, none⟩) d.next.length d.next.length)) (vs := [(.slice (some ⟨bB, 0, none⟩) d.next.length d.next.length)]) 0 inf23 rfl rfl rfl rfl rfl rfl (by simp [putL]) ⟨Sub.pick [5] rfl, ?_⟩⟩, trivial⟩
          exact RO.fin (by kernel_rfl) ⟨bA, bB, bC, bD, rfl, ⟨rfl, rfl, rfl, rfl, rfl, rfl, rfl, trivial⟩⟩ (Sub.pick [1, 0, 1, 0, 0, 0] rfl)
        refine RO.fork [7] (by kernel_rfl) rfl ⟨⟨_, rfl, rfl, l_alloc inf41 rfl (fun bC => ⟨Sub.pick [5] rfl, ?_⟩)⟩, trivial⟩
        refine RO.fork [9] (by kernel_rfl) rfl ⟨⟨_, rfl, rfl, l_store_box (v := (.slice (some ⟨bA, 0, none⟩) 1 1)) (vs := [(.slice (some ⟨bA, 0, none⟩) 1 1)]) 0 inf41 rfl rfl rfl rfl rfl rfl (by simp [putL]) ⟨Sub.pick [5] rfl, ?_⟩⟩, trivial⟩
        refine RO.fork [10] (by kernel_rfl) rfl ⟨⟨_, rfl, rfl, l_store_box (v := (.slice (some ⟨bB, 0, none⟩) d.next.length d.next.length)) (vs := [(.slice (some ⟨bB, 0, none⟩) d.next.length d.next.length)]) 1 inf23 rfl rfl rfl rfl rfl rfl (by simp [putL]) ⟨Sub.pick [5] rfl, ?_⟩⟩, trivial⟩
        exact RO.fin (by kernel_rfl) ⟨bA, bB, bC, bD, rfl, ⟨rfl, rfl, rfl, rfl, rfl, rfl, rfl, trivial⟩⟩ (Sub.pick [0, 0, 1, 0, 0, 0] rfl)
      · refine RO.fork [6, 8] (by kernel_rfl) rfl ⟨⟨_, rfl, rfl, l_makeSlice (m := d.next.length) Tryd.underlying23 inf4 rfl rfl (by omega) (by omega) (fun bB => ⟨Sub.pick [4] rfl, ?_⟩)⟩, ⟨_, rfl, rfl, l_alloc inf23 rfl (fun bD => ⟨Sub.pick [4] rfl, ?_⟩)⟩, trivial⟩
        · refine RO.fork [8] (by kernel_rfl) rfl ⟨⟨_, rfl, rfl, l_alloc inf23 rfl (fun bD => ⟨Sub.pick [5] rfl, ?_⟩)⟩, trivial⟩
          refine RO.fork [9] (by kernel_rfl) rfl ⟨⟨_, rfl, rfl, l_store_box (v := (.slice (some ⟨bA, 0, none⟩) 1 1)) (vs := [(.slice (some ⟨bA, 0, none⟩) 1 1)]) 2 inf41 rfl rfl rfl rfl rfl rfl (by simp [putL]) ⟨Sub.pick [5] rfl, ?_⟩⟩, trivial⟩
          refine RO.fork [10] (by kernel_rfl) rfl ⟨⟨_, rfl, rfl, l_store_box (v := (.slice (some ⟨bB, 0, none⟩) d.next.length d.next.length)) (vs := [(.slice (some ⟨bB, 0, none⟩) d.next.length d.next.length)]) 0 inf23 rfl rfl rfl rfl rfl rfl (by simp [putL]) ⟨Sub.pick [5] rfl, ?_⟩⟩, trivial⟩
          exact RO.fin (by kernel_rfl) ⟨bA, bB, bC, bD, rfl, ⟨rfl, rfl, rfl, rfl, rfl, rfl, rfl, trivial⟩⟩ (Sub.pick [2, 0, 1, 0, 0, 0] rfl)
        refine RO.fork [6, 9] (by kernel_rfl) rfl ⟨⟨_, rfl, rfl, l_makeSlice (m := d.next.length) Tryd.underlying23 inf4 rfl rfl (by omega) (by omega) (fun bB => ⟨Sub.pick [5] rfl, ?_⟩)⟩, ⟨_, rfl, rfl, l_store_box (v := (.slice (some ⟨bA, 0, none⟩) 1 1)) (vs := [(.slice (some ⟨bA, 0, none⟩) 1 1)]) 1 inf41 rfl rfl rfl rfl rfl rfl (by simp [putL]) ⟨Sub.pick [4] rfl, ?_⟩⟩, trivial⟩
        · refine RO.fork [9] (by kernel_rfl) rfl ⟨⟨_, rfl, rfl, l_store_box (v := (.slice (some ⟨bA, 0, none⟩) 1 1)) (vs := [(.slice (some ⟨bA, 0, none⟩) 1 1)]) 2 inf41 rfl rfl rfl rfl rfl rfl (by simp [putL]) ⟨Sub.pick [5] rfl, ?_⟩⟩, trivial⟩
          refine RO.fork [10] (by kernel_rfl) rfl ⟨⟨_, rfl, rfl, l_store_box (v := (.slice (some ⟨bB, 0, none⟩) d.next.length d.next.length)) (vs := [(.slice (some ⟨bB, 0, none⟩) d.next.length d.next.length)]) 1 inf23 rfl rfl rfl rfl rfl rfl (by simp [putL]) ⟨Sub.pick [5] rfl, ?_⟩⟩, trivial⟩
          exact RO.fin (by kernel_rfl) ⟨bA, bB, bC, bD, rfl, ⟨rfl, rfl, rfl, rfl, rfl, rfl, rfl, trivial⟩⟩ (Sub.pick [2, 1, 1, 0, 0, 0] rfl)
        refine RO.fork [6] (by kernel_rfl) rfl ⟨⟨_, rfl, rfl, l_makeSlice (m := d.next.length) Tryd.underlying23 inf4 rfl rfl (by omega) (by omega) (fun bB => ⟨Sub.pick [5] rfl, ?_⟩)⟩, trivial⟩
        refine RO.fork [10] (by kernel_rfl) rfl ⟨⟨_, rfl, rfl, l_store_box (v := (.slice (some ⟨bB, 0, none⟩) d.next.length d.next.length)) (vs := [(.slice (some ⟨bB, 0, none⟩) d.next.length d.next.length)]) 1 inf23 rfl rfl rfl rfl rfl rfl (by simp [putL]) ⟨Sub.pick [5] rfl, ?_⟩⟩, trivial⟩
        exact RO.fin (by kernel_rfl) ⟨bA, bB, bC, bD, rfl, ⟨rfl, rfl, rfl, rfl, rfl, rfl, rfl, trivial⟩⟩ (Sub.pick [2, 1, 1, 0, 0, 0] rfl)
      refine RO.fork [6, 7] (by kernel_rfl) rfl ⟨⟨_, rfl, rfl, l_makeSlice (m := d.next.length) Tryd.underlying23 inf4 rfl rfl (by omega) (by omega) (fun bB => ⟨Sub.pick [4] rfl, ?_⟩)⟩, ⟨_, rfl, rfl, l_alloc inf41 rfl (fun bC => ⟨Sub.pick [4] rfl, ?_⟩)⟩, trivial⟩
      · refine RO.fork [7] (by kernel_rfl) rfl ⟨⟨_, rfl, rfl, l_alloc inf41 rfl (fun bC => ⟨Sub.pick [5] rfl, ?_⟩)⟩, trivial⟩
        refine RO.fork [9] (by kernel_rfl) rfl ⟨⟨_, rfl, rfl, l_store_box (v := (.slice (some ⟨bA, 0, none⟩) 1 1)) (vs := [(.slice (some ⟨bA, 0, none⟩) 1 1)]) 0 inf41 rfl rfl rfl rfl rfl rfl (by simp [putL]) ⟨Sub.pick [5] rfl, ?_⟩⟩, trivial⟩
        refine RO.fork [10] (by kernel_rfl) rfl ⟨⟨_, rfl, rfl, l_store_box (v := (.slice (some ⟨bB, 0, none⟩) d.next.length d.next.length)) (vs := [(.slice (some ⟨bB, 0, none⟩) d.next.length d.next.length)]) 2 inf23 rfl rfl rfl rfl rfl rfl (by simp [putL]) ⟨Sub.pick [5] rfl, ?_⟩⟩, trivial⟩
        exact RO.fin (by kernel_rfl) ⟨bA, bB, bC, bD, rfl, ⟨rfl, rfl, rfl, rfl, rfl, rfl, rfl, trivial⟩⟩ (Sub.pick [0, 1, 1, 0, 0, 0] rfl)
      refine RO.fork [6, 9] (by kernel_rfl) rfl ⟨⟨_, rfl, rfl, l_makeSlice (m := d.next.length) Tryd.underlying23 inf4 rfl rfl (by omega) (by omega) (fun bB => ⟨Sub.pick [5] rfl, ?_⟩)⟩, ⟨_, rfl, rfl, l_store_box (v := (.slice (some ⟨bA, 0, none⟩) 1 1)) (vs := [(.slice (some ⟨bA, 0, none⟩) 1 1)]) 0 inf41 rfl rfl rfl rfl rfl rfl (by simp [putL]) ⟨Sub.pick [4] rfl, ?_⟩⟩, trivial⟩
      · refine RO.fork [9] (by kernel_rfl) rfl ⟨⟨_, rfl, rfl, l_store_box (v := (.slice (some ⟨bA, 0, none⟩) 1 1)) (vs := [(.slice (some ⟨bA, 0, none⟩) 1 1)]) 1 inf41 rfl rfl rfl rfl rfl rfl (by simp [putL]) ⟨Sub.pick [5] rfl, ?_⟩⟩, trivial⟩
        refine RO.fork [10] (by kernel_rfl) rfl ⟨⟨_, rfl, rfl, l_store_box (v := (.slice (some ⟨bB, 0, none⟩) d.next.length d.next.length)) (vs := [(.slice (some ⟨bB, 0, none⟩) d.next.length d.next.length)]) 2 inf23 rfl rfl rfl rfl rfl rfl (by simp [putL]) ⟨Sub.pick [5] rfl, ?_⟩⟩, trivial⟩
        exact RO.fin (by kernel_rfl) ⟨bA, bB, bC, bD, rfl, ⟨rfl, rfl, rfl, rfl, rfl, rfl, rfl, trivial⟩⟩ (Sub.pick [1, 1, 1, 0, 0, 0] rfl)
      refine RO.fork [6] (by kernel_rfl) rfl ⟨⟨_, rfl, rfl, l_makeSlice (m := d.next.length) Tryd.underlying23 inf4 rfl rfl (by omega) (by omega) (fun bB => ⟨Sub.pick [5] rfl, ?_⟩)⟩, trivial⟩
      refine RO.fork [10] (by kernel_rfl) rfl ⟨⟨_, rfl, rfl, l_store_box (v := (.slice (some ⟨bB, 0, none⟩) d.next.length d.next.length)) (vs := [(.slice (some ⟨bB, 0, none⟩) d.next.length d.next.length)]) 2 inf23 rfl rfl rfl rfl rfl rfl (by simp [putL]) ⟨Sub.pick [5] rfl, ?_⟩⟩, trivial⟩
      exact RO.fin (by kernel_rfl) ⟨bA, bB, bC, bD, rfl, ⟨rfl, rfl, rfl, rfl, rfl, rfl, rfl, trivial⟩⟩ (Sub.pick [1, 1, 1, 0, 0, 0] rfl)
    · refine RO.fork [2, 7, 8] (by kernel_rfl) rfl ⟨⟨_, rfl, rfl, l_build1 (v := (.int .i64 d.start)) Tryd.underlying41 inf3 rfl rfl rfl (fun bA => ⟨Sub.pick [3] rfl, ?_⟩)⟩, ⟨_, rfl, rfl, l_alloc inf41 rfl (fun bC => ⟨Sub.pick [3] rfl, ?_⟩)⟩, ⟨_, rfl, rfl, l_alloc inf23 rfl (fun bD => ⟨Sub.pick [3] rfl, ?_⟩)⟩, trivial⟩
      · refine RO.fork [7, 8] (by kernel_rfl) rfl ⟨⟨_, rfl, rfl, l_alloc inf41 rfl (fun bC => ⟨Sub.pick [4] rfl, ?_⟩)⟩, ⟨_, rfl, rfl, l_alloc inf23 rfl (fun bD => ⟨Sub.pick [4] rfl, ?_⟩)⟩, trivial⟩
        · refine RO.fork [8] (by kernel_rfl) rfl ⟨⟨_, rfl, rfl, l_alloc inf23 rfl (fun bD => ⟨Sub.pick [5] rfl, ?_⟩)⟩, trivial⟩
          refine RO.fork [9] (by kernel_rfl) rfl ⟨⟨_, rfl, rfl, l_store_box (v := (.slice (some ⟨bA, 0, none⟩) 1 1)) (vs := [(.slice (some ⟨bA, 0, none⟩) 1 1)]) 1 inf41 rfl rfl rfl rfl rfl rfl (by simp [putL]) ⟨Sub.pick [5] rfl, ?_⟩⟩, trivial⟩
          refine RO.fork [10] (by kernel_rfl) rfl ⟨⟨_, rfl, rfl, l_store_box (v := (.slice (some ⟨bB, 0, none⟩) d.next.length d.next.length)) (vs := [(.slice (some ⟨bB, 0, none⟩) d.next.length d.next.length)]) 0 inf23 rfl rfl rfl rfl rfl rfl (by simp [putL]) ⟨Sub.pick [5] rfl, ?_⟩⟩, trivial⟩
          exact RO.fin (by kernel_rfl) ⟨bA, bB, bC, bD, rfl, ⟨rfl, rfl, rfl, rfl, rfl, rfl, rfl, trivial⟩⟩ (Sub.pick [1, 0, 0, 0, 0, 0] rfl)
        refine RO.fork [7] (by kernel_rfl) rfl ⟨⟨_, rfl, rfl, l_alloc inf41 rfl (fun bC => ⟨Sub.pick [5] rfl, ?_⟩)⟩, trivial⟩
        refine RO.fork [9] (by kernel_rfl) rfl ⟨⟨_, rfl, rfl, l_store_box (v := (.slice (some ⟨bA, 0, none⟩) 1 1)) (vs := [(.slice (some ⟨bA, 0, none⟩) 1 1)]) 0 inf41 rfl rfl rfl rfl rfl rfl (by simp [putL]) ⟨Sub.pick [5] rfl, ?_⟩⟩, trivial⟩
        refine RO.fork [10] (by kernel_rfl) rfl ⟨⟨_, rfl, rfl, l_store_box (v := (.slice (some ⟨bB, 0, none⟩) d.next.length d.next.length)) (vs := [(.slice (some ⟨bB, 0, none⟩) d.next.length d.next.length)]) 1 inf23 rfl rfl rfl rfl rfl rfl (by simp [putL]) ⟨Sub.pick [5] rfl, ?_⟩⟩, trivial⟩
        exact RO.fin (by kernel_rfl) ⟨bA, bB, bC, bD, rfl, ⟨rfl, rfl, rfl, rfl, rfl, rfl, rfl, trivial⟩⟩ (Sub.pick [0, 0, 0, 0, 0, 0] rfl)
      · refine RO.fork [2, 8] (by kernel_rfl) rfl ⟨⟨_, rfl, rfl, l_build1 (v := (.int .i64 d.start)) Tryd.underlying41 inf3 rfl rfl rfl (fun bA => ⟨Sub.pick [4] rfl, ?_⟩)⟩, ⟨_, rfl, rfl, l_alloc inf23 rfl (fun bD => ⟨Sub.pick [4] rfl, ?_⟩)⟩, trivial⟩
        · refine RO.fork [8] (by kernel_rfl) rfl ⟨⟨_, rfl, rfl, l_alloc inf23 rfl (fun bD => ⟨Sub.pick [5] rfl, ?_⟩)⟩, trivial⟩
          refine RO.fork [9] (by kernel_rfl) rfl ⟨⟨_, rfl, rfl, l_store_box (v := (.slice (some ⟨bA, 0, none⟩) 1 1)) (vs := [(.slice (some ⟨bA, 0, none⟩) 1 1)]) 2 inf41 rfl rfl rfl rfl rfl rfl (by simp [putL]) ⟨Sub.pick [5] rfl, ?_⟩⟩, trivial⟩
          refine RO.fork [10] (by kernel_rfl) rfl ⟨⟨_, rfl, rfl, l_store_box (v := (.slice (some ⟨bB, 0, none⟩) d.next.length d.next.length)) (vs := [(.slice (some ⟨bB, 0, none⟩) d.next.length d.next.length)]) 0 inf23 rfl rfl rfl rfl rfl rfl (by simp [putL]) ⟨Sub.pick [5] rfl, ?_⟩⟩, trivial⟩
          exact RO.fin (by kernel_rfl) ⟨bA, bB, bC, bD, rfl, ⟨rfl, rfl, rfl, rfl, rfl, rfl, rfl, trivial⟩⟩ (Sub.pick [2, 0, 0, 0, 0, 0] rfl)
        refine RO.fork [2] (by kernel_rfl) rfl ⟨⟨_, rfl, rfl, l_build1 (v := (.int .i64 d.start)) Tryd.underlying41 inf3 rfl rfl rfl (fun bA => ⟨Sub.pick [5] rfl, ?_⟩)⟩, trivial⟩
        refine RO.fork [9] (by kernel_rfl) rfl ⟨⟨_, rfl, rfl, l_store_box (v := (.slice (some ⟨bA, 0, none⟩) 1 1)) (vs := [(.slice (some ⟨bA, 0, none⟩) 1 1)]) 2 inf41 rfl rfl rfl rfl rfl rfl (by simp [putL]) ⟨Sub.pick [5] rfl, ?_⟩⟩, trivial⟩
        refine RO.fork [10] (by kernel_rfl) rfl ⟨⟨_, rfl, rfl, l_store_box (v := (.slice (some ⟨bB, 0, none⟩) d.next.length d.next.length)) (vs := [(.slice (some ⟨bB, 0, none⟩) d.next.length d.next.length)]) 1 inf23 rfl rfl rfl rfl rfl rfl (by simp [putL]) ⟨Sub.pick [5] rfl, ?_⟩⟩, trivial⟩
        exact RO.fin (by kernel_rfl) ⟨bA, bB, bC, bD, rfl, ⟨rfl, rfl, rfl, rfl, rfl, rfl, rfl, trivial⟩⟩ (Sub.pick [2, 1, 0, 0, 0, 0] rfl)
      refine RO.fork [2, 7] (by kernel_rfl) rfl ⟨⟨_, rfl, rfl, l_build1 (v := (.int .i64 d.start)) Tryd.underlying41 inf3 rfl rfl rfl (fun bA => ⟨Sub.pick [4] rfl, ?_⟩)⟩, ⟨_, rfl, rfl, l_alloc inf41 rfl (fun bC => ⟨Sub.pick [4] rfl, ?_⟩)⟩, trivial⟩
      · refine RO.fork [7] (by kernel_rfl) rfl ⟨⟨_, rfl, rfl, l_alloc inf41 rfl (fun bC => ⟨Sub.pick [5] rfl, ?_⟩)⟩, trivial⟩
        refine RO.fork [9] (by kernel_rfl) rfl ⟨⟨_, rfl, rfl, l_store_box (v := (.slice (some ⟨bA, 0, none⟩) 1 1)) (vs := [(.slice (some ⟨bA, 0, none⟩) 1 1)]) 0 inf41 rfl rfl rfl rfl rfl rfl (by simp [putL]) ⟨Sub.pick [5] rfl, ?_⟩⟩, trivial⟩
        refine RO.fork [10] (by kernel_rfl) rfl ⟨⟨_, rfl, rfl, l_store_box (v := (.slice (some ⟨bB, 0, none⟩) d.next.length d.next.length)) (vs := [(.slice (some ⟨bB, 0, none⟩) d.next.length d.next.length)]) 2 inf23 rfl rfl rfl rfl rfl rfl (by simp [putL]) ⟨Sub.pick [5] rfl, ?_⟩⟩, trivial⟩
        exact RO.fin (by kernel_rfl) ⟨bA, bB, bC, bD, rfl, ⟨rfl, rfl, rfl, rfl, rfl, rfl, rfl, trivial⟩⟩ (Sub.pick [0, 1, 0, 0, 0, 0] rfl)
      refine RO.fork [2] (by kernel_rfl) rfl ⟨⟨_, rfl, rfl, l_build1 (v := (.int .i64 d.start)) Tryd.underlying41 inf3 rfl rfl rfl (fun bA => ⟨Sub.pick [5] rfl, ?_⟩)⟩, trivial⟩
      refine RO.fork [9] (by kernel_rfl) rfl ⟨⟨_, rfl, rfl, l_store_box (v := (.slice (some ⟨bA, 0, none⟩) 1 1)) (vs := [(.slice (some ⟨bA, 0, none⟩) 1 1)]) 1 inf41 rfl rfl rfl rfl rfl rfl (by simp [putL]) ⟨Sub.pick [5] rfl, ?_⟩⟩, trivial⟩
      refine RO.fork [10] (by kernel_rfl) rfl ⟨⟨_, rfl, rfl, l_store_box (v := (.slice (some ⟨bB, 0, none⟩) d.next.length d.next.length)) (vs := [(.slice (some ⟨bB, 0, none⟩) d.next.length d.next.length)]) 2 inf23 rfl rfl rfl rfl rfl rfl (by simp [putL]) ⟨Sub.pick [5] rfl, ?_⟩⟩, trivial⟩
      exact RO.fin (by kernel_rfl) ⟨bA, bB, bC, bD, rfl, ⟨rfl, rfl, rfl, rfl, rfl, rfl, rfl, trivial⟩⟩ (Sub.pick [1, 1, 0, 0, 0, 0] rfl)
    · refine RO.fork [2, 6, 8] (by kernel_rfl) rfl ⟨⟨_, rfl, rfl, l_build1 (v := (.int .i64 d.start)) Tryd.underlying41 inf3 rfl rfl rfl (fun bA => ⟨Sub.pick [3] rfl, ?_⟩)⟩, ⟨_, rfl, rfl, l_makeSlice (m := d.next.length) Tryd.underlying23 inf4 rfl rfl (by omega) (by omega) (fun bB => ⟨Sub.pick [3] rfl, ?_⟩)⟩, ⟨_, rfl, rfl, l_alloc inf23 rfl (fun bD => ⟨Sub.pick [3] rfl, ?_⟩)⟩, trivial⟩
      · refine RO.fork [6, 8] (by kernel_rfl) rfl ⟨⟨_, rfl, rfl, l_makeSlice (m := d.next.length) Tryd.underlying23 inf4 rfl rfl (by omega) (by omega) (fun bB => ⟨Sub.pick [4] rfl, ?_⟩)⟩, ⟨_, rfl, rfl, l_alloc inf23 rfl (fun bD => ⟨Sub.pick [4] rfl, ?_⟩)⟩, trivial⟩
        · refine RO.fork [8] (by kernel_rfl) rfl ⟨⟨_, rfl, rfl, l_alloc inf23 rfl (fun bD => ⟨Sub.pick [5] rfl, ?_⟩)⟩, trivial⟩
          refine RO.fork [9] (by kernel_rfl) rfl ⟨⟨_, rfl, rfl, l_store_box (v := (.slice (some ⟨bA, 0, none⟩) 1 1)) (vs := [(.slice (some ⟨bA, 0, none⟩) 1 1)]) 3 inf41 rfl rfl rfl rfl rfl rfl (by simp [putL]) ⟨Sub.pick [5] rfl, ?_⟩⟩, trivial⟩
          refine RO.fork [10] (by kernel_rfl) rfl ⟨⟨_, rfl, rfl, l_store_box (v := (.slice (some ⟨bB, 0, none⟩) d.next.length d.next.length)) (vs := [(.slice (some ⟨bB, 0, none⟩) d.next.length d.next.length)]) 0 inf23 rfl rfl rfl rfl rfl rfl (by simp [putL]) ⟨Sub.pick [5] rfl, ?_⟩⟩, trivial⟩
          exact RO.fin (by kernel_rfl) ⟨bA, bB, bC, bD, rfl, ⟨rfl, rfl, rfl, rfl, rfl, rfl, rfl, trivial⟩⟩ (Sub.pick [3, 0, 1, 0, 0, 0] rfl)
        refine RO.fork [6, 9] (by kernel_rfl) rfl ⟨⟨_, rfl, rfl, l_makeSlice (m := d.next.length) Tryd.underlying23 inf4 rfl rfl (by omega) (by omega) (fun bB => ⟨Sub.pick [5] rfl, ?_⟩)⟩, ⟨_, rfl, rfl, l_store_box (v := (.slice (some ⟨bA, 0, none⟩) 1 1)) (vs := [(.slice (some ⟨bA, 0, none⟩) 1 1)]) 2 inf41 rfl rfl rfl rfl rfl rfl (by simp [putL]) ⟨Sub.pick [4] rfl, ?_⟩⟩, trivial⟩
        · refine RO.fork [9] (by kernel_rfl) rfl ⟨⟨_, rfl, rfl, l_store_box (v := (.slice (some ⟨bA, 0, none⟩) 1 1)) (vs := [(.slice (some ⟨bA, 0, none⟩) 1 1)]) 3 inf41 rfl rfl rfl rfl rfl rfl (by simp [putL]) ⟨Sub.pick [5] rfl, ?_⟩⟩, trivial⟩
          refine RO.fork [10] (by kernel_rfl) rfl ⟨⟨_, rfl, rfl, l_store_box (v := (.slice (some ⟨bB, 0, none⟩) d.next.length d.next.length)) (vs := [(.slice (some ⟨bB, 0, none⟩) d.next.length d.next.length)]) 1 inf23 rfl rfl rfl rfl rfl rfl (by simp [putL]) ⟨Sub.pick [5] rfl, ?_⟩⟩, trivial⟩
          exact RO.fin (by kernel_rfl) ⟨bA, bB, bC, bD, rfl, ⟨rfl, rfl, rfl, rfl, rfl, rfl, rfl, trivial⟩⟩ (Sub.pick [3, 1, 1, 0, 0, 0] rfl)
        refine RO.fork [6] (by kernel_rfl) rfl ⟨⟨_, rfl, rfl, l_makeSlice (m := d.next.length) Tryd.underlying23 inf4 rfl rfl (by omega) (by omega) (fun bB => ⟨Sub.pick [5] rfl, ?_⟩)⟩, trivial⟩
        refine RO.fork [10] (by kernel_rfl) rfl ⟨⟨_, rfl, rfl, l_store_box (v := (.slice (some ⟨bB, 0, none⟩) d.next.length d.next.length)) (vs := [(.slice (some ⟨bB, 0, none⟩) d.next.length d.next.length)]) 1 inf23 rfl rfl rfl rfl rfl rfl (by simp [putL]) ⟨Sub.pick [5] rfl, ?_⟩⟩, trivial⟩
        exact RO.fin (by kernel_rfl) ⟨bA, bB, bC, bD, rfl, ⟨rfl, rfl, rfl, rfl, rfl, rfl, rfl, trivial⟩⟩ (Sub.pick [3, 1, 1, 0, 0, 0] rfl)
      · refine RO.fork [2, 8] (by kernel_rfl) rfl ⟨⟨_, rfl, rfl, l_build1 (v := (.int .i64 d.start)) Tryd.underlying41 inf3 rfl rfl rfl (fun bA => ⟨Sub.pick [4] rfl, ?_⟩)⟩, ⟨_, rfl, rfl, l_alloc inf23 rfl (fun bD => ⟨Sub.pick [4] rfl, ?_⟩)⟩, trivial⟩
        · refine RO.fork [8] (by kernel_rfl) rfl ⟨⟨_, rfl, rfl, l_alloc inf23 rfl (fun bD => ⟨Sub.pick [5] rfl, ?_⟩)⟩, trivial⟩
          refine RO.fork [9] (by kernel_rfl) rfl ⟨⟨_, rfl, rfl, l_store_box (v := (.slice (some ⟨bA, 0, none⟩) 1 1)) (vs := [(.slice (some ⟨bA, 0, none⟩) 1 1)]) 3 inf41 rfl rfl rfl rfl rfl rfl (by simp [putL]) ⟨Sub.pick [5] rfl, ?_⟩⟩, trivial⟩
          refine RO.fork [10] (by kernel_rfl) rfl ⟨⟨_, rfl, rfl, l_store_box (v := (.slice (some ⟨bB, 0, none⟩) d.next.length d.next.length)) (vs := [(.slice (some ⟨bB, 0, none⟩) d.next.length d.next.length)]) 0 inf23 rfl rfl rfl rfl rfl rfl (by simp [putL]) ⟨Sub.pick [5] rfl, ?_⟩⟩, trivial⟩
          exact RO.fin (by kernel_rfl) ⟨bA, bB, bC, bD, rfl, ⟨rfl, rfl, rfl, rfl, rfl, rfl, rfl, trivial⟩⟩ (Sub.pick [3, 0, 0, 0, 0, 0] rfl)
        refine RO.fork [2] (by kernel_rfl) rfl ⟨⟨_, rfl, rfl, l_build1 (v := (.int .i64 d.start)) Tryd.underlying41 inf3 rfl rfl rfl (fun bA => ⟨Sub.pick [5] rfl, ?_⟩)⟩, trivial⟩
        refine RO.fork [9] (by kernel_rfl) rfl ⟨⟨_, rfl, rfl, l_store_box (v := (.slice (some ⟨bA, 0, none⟩) 1 1)) (vs := [(.slice (some ⟨bA, 0, none⟩) 1 1)]) 3 inf41 rfl rfl rfl rfl rfl rfl (by simp [putL]) ⟨Sub.pick [5] rfl, ?_⟩⟩, trivial⟩
        refine RO.fork [10] (by kernel_rfl) rfl ⟨⟨_, rfl, rfl, l_store_box (v := (.slice (some ⟨bB, 0, none⟩) d.next.length d.next.length)) (vs := [(.slice (some ⟨bB, 0, none⟩) d.next.length d.next.length)]) 1 inf23 rfl rfl rfl rfl rfl rfl (by simp [putL]) ⟨Sub.pick [5] rfl, ?_⟩⟩, trivial⟩
        exact RO.fin (by kernel_rfl) ⟨bA, bB, bC, bD, rfl, ⟨rfl, rfl, rfl, rfl, rfl, rfl, rfl, trivial⟩⟩ (Sub.pick [3, 1, 0, 0, 0, 0] rfl)
      refine RO.fork [2, 6] (by kernel_rfl) rfl ⟨⟨_, rfl, rfl, l_build1 (v := (.int .i64 d.start)) Tryd.underlying41 inf3 rfl rfl rfl (fun bA => ⟨Sub.pick [4] rfl, ?_⟩)⟩, ⟨_, rfl, rfl, l_makeSlice (m := d.next.length) Tryd.underlying23 inf4 rfl rfl (by omega) (by omega) (fun bB => ⟨Sub.pick [4] rfl, ?_⟩)⟩, trivial⟩
      · refine RO.fork [6, 9] (by kernel_rfl) rfl ⟨⟨_, rfl, rfl, l_makeSlice (m := d.next.length) Tryd.underlying23 inf4 rfl rfl (by omega) (by omega) (fun bB => ⟨Sub.pick [5] rfl, ?_⟩)⟩, ⟨_, rfl, rfl, l_store_box (v := (.slice (some ⟨bA, 0, none⟩) 1 1)) (vs := [(.slice (some ⟨bA, 0, none⟩) 1 1)]) 2 inf41 rfl rfl rfl rfl rfl rfl (by simp [putL]) ⟨Sub.pick [4] rfl, ?_⟩⟩, trivial⟩
        · refine RO.fork [9] (by kernel_rfl) rfl ⟨⟨_, rfl, rfl, l_store_box (v := (.slice (some ⟨bA, 0, none⟩) 1 1)) (vs := [(.slice (some ⟨bA, 0, none⟩) 1 1)]) 3 inf41 rfl rfl rfl rfl rfl rfl (by simp [putL]) ⟨Sub.pick [5] rfl, ?_⟩⟩, trivial⟩
          refine RO.fork [10] (by kernel_rfl) rfl ⟨⟨_, rfl, rfl, l_store_box (v := (.slice (some ⟨bB, 0, none⟩) d.next.length d.next.length)) (vs := [(.slice (some ⟨bB, 0, none⟩) d.next.length d.next.length)]) 2 inf23 rfl rfl rfl rfl rfl rfl (by simp [putL]) ⟨Sub.pick [5] rfl, ?_⟩⟩, trivial⟩
          exact RO.fin (by kernel_rfl) ⟨bA, bB, bC, bD, rfl, ⟨rfl, rfl, rfl, rfl, rfl, rfl, rfl, trivial⟩⟩ (Sub.pick [3, 2, 1, 0, 0, 0] rfl)
        refine RO.fork [6] (by kernel_rfl) rfl ⟨⟨_, rfl, rfl, l_makeSlice (m := d.next.length) Tryd.underlying23 inf4 rfl rfl (by omega) (by omega) (fun bB => ⟨Sub.pick [5] rfl, ?_⟩)⟩, trivial⟩
        refine RO.fork [10] (by kernel_rfl) rfl ⟨⟨_, rfl, rfl, l_store_box (v := (.slice (some ⟨bB, 0, none⟩) d.next.length d.next.length)) (vs := [(.slice (some ⟨bB, 0, none⟩) d.next.length d.next.length)]) 2 inf23 rfl rfl rfl rfl rfl rfl (by simp [putL]) ⟨Sub.pick [5] rfl, ?_⟩⟩, trivial⟩
        exact RO.fin (by kernel_rfl) ⟨bA, bB, bC, bD, rfl, ⟨rfl, rfl, rfl, rfl, rfl, rfl, rfl, trivial⟩⟩ (Sub.pick [3, 2, 1, 0, 0, 0] rfl)
      refine RO.fork [2] (by kernel_rfl) rfl ⟨⟨_, rfl, rfl, l_build1 (v := (.int .i64 d.start)) Tryd.underlying41 inf3 rfl rfl rfl (fun bA => ⟨Sub.pick [5] rfl, ?_⟩)⟩, trivial⟩
      refine RO.fork [9] (by kernel_rfl) rfl ⟨⟨_, rfl, rfl, l_store_box (v := (.slice (some ⟨bA, 0, none⟩) 1 1)) (vs := [(.slice (some ⟨bA, 0, none⟩) 1 1)]) 3 inf41 rfl rfl rfl rfl rfl rfl (by simp [putL]) ⟨Sub.pick [5] rfl, ?_⟩⟩, trivial⟩
      refine RO.fork [10] (by kernel_rfl) rfl ⟨⟨_, rfl, rfl, l_store_box (v := (.slice (some ⟨bB, 0, none⟩) d.next.length d.next.length)) (vs := [(.slice (some ⟨bB, 0, none⟩) d.next.length d.next.length)]) 2 inf23 rfl rfl rfl rfl rfl rfl (by simp [putL]) ⟨Sub.pick [5] rfl, ?_⟩⟩, trivial⟩
      exact RO.fin (by kernel_rfl) ⟨bA, bB, bC, bD, rfl, ⟨rfl, rfl, rfl, rfl, rfl, rfl, rfl, trivial⟩⟩ (Sub.pick [3, 2, 0, 0, 0, 0] rfl)
    refine RO.fork [2, 6, 7] (by kernel_rfl) rfl ⟨⟨_, rfl, rfl, l_build1 (v := (.int .i64 d.start)) Tryd.underlying41 inf3 rfl rfl rfl (fun bA => ⟨Sub.pick [3] rfl, ?_⟩)⟩, ⟨_, rfl, rfl, l_makeSlice (m := d.next.length) Tryd.underlying23 inf4 rfl rfl (by omega) (by omega) (fun bB => ⟨Sub.pick [3] rfl, ?_⟩)⟩, ⟨_, rfl, rfl, l_alloc inf41 rfl (fun bC => ⟨Sub.pick [3] rfl, ?_⟩)⟩, trivial⟩
    · refine RO.fork [6, 7] (by kernel_rfl) rfl ⟨⟨_, rfl, rfl, l_makeSlice (m := d.next.length) Tryd.underlying23 inf4 rfl rfl (by omega) (by omega) (fun bB => ⟨Sub.pick [4] rfl, ?_⟩)⟩, ⟨_, rfl, rfl, l_alloc inf41 rfl (fun bC => ⟨Sub.pick [4] rfl, ?_⟩)⟩, trivial⟩
      · refine RO.fork [7] (by kernel_rfl) rfl ⟨⟨_, rfl, rfl, l_alloc inf41 rfl (fun bC => ⟨Sub.pick [5] rfl, ?_⟩)⟩, trivial⟩
        refine RO.fork [9] (by kernel_rfl) rfl ⟨⟨_, rfl, rfl, l_store_box (v := (.slice (some ⟨bA, 0, none⟩) 1 1)) (vs := [(.slice (some ⟨bA, 0, none⟩) 1 1)]) 0 inf41 rfl rfl rfl rfl rfl rfl (by simp [putL]) ⟨Sub.pick [5] rfl, ?_⟩⟩, trivial⟩
        refine RO.fork [10] (by kernel_rfl) rfl ⟨⟨_, rfl, rfl, l_store_box (v := (.slice (some ⟨bB, 0, none⟩) d.next.length d.next.length)) (vs := [(.slice (some ⟨bB, 0, none⟩) d.next.length d.next.length)]) 3 inf23 rfl rfl rfl rfl rfl rfl (by simp [putL]) ⟨Sub.pick [5] rfl, ?_⟩⟩, trivial⟩
        exact RO.fin (by kernel_rfl) ⟨bA, bB, bC, bD, rfl, ⟨rfl, rfl, rfl, rfl, rfl, rfl, rfl, trivial⟩⟩ (Sub.pick [0, 2, 1, 0, 0, 0] rfl)
      refine RO.fork [6, 9] (by kernel_rfl) rfl ⟨⟨_, rfl, rfl, l_makeSlice (m := d.next.length) Tryd.underlying23 inf4 rfl rfl (by omega) (by omega) (fun bB => ⟨Sub.pick [5] rfl, ?_⟩)⟩, ⟨_, rfl, rfl, l_store_box (v := (.slice (some ⟨bA, 0, none⟩) 1 1)) (vs := [(.slice (some ⟨bA, 0, none⟩) 1 1)]) 0 inf41 rfl rfl rfl rfl rfl rfl (by simp [putL]) ⟨Sub.pick [4] rfl, ?_⟩⟩, trivial⟩
      · refine RO.fork [9] (by kernel_rfl) rfl ⟨⟨_, rfl, rfl, l_store_box (v := (.slice (some ⟨bA, 0, none⟩) 1 1)) (vs := [(.slice (some ⟨bA, 0, none⟩) 1 1)]) 1 inf41 rfl rfl rfl rfl rfl rfl (by simp [putL]) ⟨Sub.pick [5] rfl, ?_⟩⟩, trivial⟩
        refine RO.fork [10] (by kernel_rfl) rfl ⟨⟨_, rfl, rfl, l_store_box (v := (.slice (some ⟨bB, 0, none⟩) d.next.length d.next.length)) (vs := [(.slice (some ⟨bB, 0, none⟩) d.next.length d.next.length)]) 3 inf23 rfl rfl rfl rfl rfl rfl (by simp [putL]) ⟨Sub.pick [5] rfl, ?_⟩⟩, trivial⟩
        exact RO.fin (by kernel_rfl) ⟨bA, bB, bC, bD, rfl, ⟨rfl, rfl, rfl, rfl, rfl, rfl, rfl, trivial⟩⟩ (Sub.pick [1, 2, 1, 0, 0, 0] rfl)
      refine RO.fork [6] (by kernel_rfl) rfl ⟨⟨_, rfl, rfl, l_makeSlice (m := d.next.length) Tryd.underlying23 inf4 rfl rfl (by omega) (by omega) (fun bB => ⟨Sub.pick [5] rfl, ?_⟩)⟩, trivial⟩
      refine RO.fork [10] (by kernel_rfl) rfl ⟨⟨_, rfl, rfl, l_store_box (v := (.slice (some ⟨bB, 0, none⟩) d.next.length d.next.length)) (vs := [(.slice (some ⟨bB, 0, none⟩) d.next.length d.next.length)]) 3 inf23 rfl rfl rfl rfl rfl rfl (by simp [putL]) ⟨Sub.pick [5] rfl, ?_⟩⟩, trivial⟩
      exact RO.fin (by kernel_rfl) ⟨bA, bB, bC, bD, rfl, ⟨rfl, rfl, rfl, rfl, rfl, rfl, rfl, trivial⟩⟩ (Sub.pick [1, 2, 1, 0, 0, 0] rfl)
    · refine RO.fork [2, 7] (by kernel_rfl) rfl ⟨⟨_, rfl, rfl, l_build1 (v := (.int .i64 d.start)) Tryd.underlying41 inf3 rfl rfl rfl (fun bA => ⟨Sub.pick [4] rfl, ?_⟩)⟩, ⟨_, rfl, rfl, l_alloc inf41 rfl (fun bC => ⟨Sub.pick [4] rfl, ?_⟩)⟩, trivial⟩
      · refine RO.fork [7] (by kernel_rfl) rfl ⟨⟨_, rfl, rfl, l_alloc inf41 rfl (fun bC => ⟨Sub.pick [5] rfl, ?_⟩)⟩, trivial⟩
        refine RO.fork [9] (by kernel_rfl) rfl ⟨⟨_, rfl, rfl, l_store_box (v := (.slice (some ⟨bA, 0, none⟩) 1 1)) (vs := [(.slice (some ⟨bA, 0, none⟩) 1 1)]) 0 inf41 rfl rfl rfl rfl rfl rfl (by simp [putL]) ⟨Sub.pick [5] rfl, ?_⟩⟩, trivial⟩
        refine RO.fork [10] (by kernel_rfl) rfl ⟨⟨_, rfl, rfl, l_store_box (v := (.slice (some ⟨bB, 0, none⟩) d.next.length d.next.length)) (vs := [(.slice (some ⟨bB, 0, none⟩) d.next.length d.next.length)]) 3 inf23 rfl rfl rfl rfl rfl rfl (by simp [putL]) ⟨Sub.pick [5] rfl, ?_⟩⟩, trivial⟩
        exact RO.fin (by kernel_rfl) ⟨bA, bB, bC, bD, rfl, ⟨rfl, rfl, rfl, rfl, rfl, rfl, rfl, trivial⟩⟩ (Sub.pick [0, 2, 0, 0, 0, 0] rfl)
      refine RO.fork [2] (by kernel_rfl) rfl ⟨⟨_, rfl, rfl, l_build1 (v := (.int .i64 d.start)) Tryd.underlying41 inf3 rfl rfl rfl (fun bA => ⟨Sub.pick [5] rfl, ?_⟩)⟩, trivial⟩
      refine RO.fork [9] (by kernel_rfl) rfl ⟨⟨_, rfl, rfl, l_store_box (v := (.slice (some ⟨bA, 0, none⟩) 1 1)) (vs := [(.slice (some ⟨bA, 0, none⟩) 1 1)]) 1 inf41 rfl rfl rfl rfl rfl rfl (by simp [putL]) ⟨Sub.pick [5] rfl, ?_⟩⟩, trivial⟩
      refine RO.fork [10] (by kernel_rfl) rfl ⟨⟨_, rfl, rfl, l_store_box (v := (.slice (some ⟨bB, 0, none⟩) d.next.length d.next.length)) (vs := [(.slice (some ⟨bB, 0, none⟩) d.next.length d.next.length)]) 3 inf23 rfl rfl rfl rfl rfl rfl (by simp [putL]) ⟨Sub.pick [5] rfl, ?_⟩⟩, trivial⟩
      exact RO.fin (by kernel_rfl) ⟨bA, bB, bC, bD, rfl, ⟨rfl, rfl, rfl, rfl, rfl, rfl, rfl, trivial⟩⟩ (Sub.pick [1, 2, 0, 0, 0, 0] rfl)
    refine RO.fork [2, 6] (by kernel_rfl) rfl ⟨⟨_, rfl, rfl, l_build1 (v := (.int .i64 d.start)) Tryd.underlying41 inf3 rfl rfl rfl (fun bA => ⟨Sub.pick [4] rfl, ?_⟩)⟩, ⟨_, rfl, rfl, l_makeSlice (m := d.next.length) Tryd.underlying23 inf4 rfl rfl (by omega) (by omega) (fun bB => ⟨Sub.pick [4] rfl, ?_⟩)⟩, trivial⟩
    · refine RO.fork [6, 9] (by kernel_rfl) rfl ⟨⟨_, rfl, rfl, l_makeSlice (m := d.next.length) Tryd.underlying23 inf4 rfl rfl (by omega) (by omega) (fun bB => ⟨Sub.pick [5] rfl, ?_⟩)⟩, ⟨_, rfl, rfl, l_store_box (v := (.slice (some ⟨bA, 0, none⟩) 1 1)) (vs := [(.slice (some ⟨bA, 0, none⟩) 1 1)]) 1 inf41 rfl rfl rfl rfl rfl rfl (by simp [putL]) ⟨Sub.pick [4] rfl, ?_⟩⟩, trivial⟩
      · refine RO.fork [9] (by kernel_rfl) rfl ⟨⟨_, rfl, rfl, l_store_box (v := (.slice (some ⟨bA, 0, none⟩) 1 1)) (vs := [(.slice (some ⟨bA, 0, none⟩) 1 1)]) 2 inf41 rfl rfl rfl rfl rfl rfl (by simp [putL]) ⟨Sub.pick [5] rfl, ?_⟩⟩, trivial⟩
        refine RO.fork [10] (by kernel_rfl) rfl ⟨⟨_, rfl, rfl, l_store_box (v := (.slice (some ⟨bB, 0, none⟩) d.next.length d.next.length)) (vs := [(.slice (some ⟨bB, 0, none⟩) d.next.length d.next.length)]) 3 inf23 rfl rfl rfl rfl rfl rfl (by simp [putL]) ⟨Sub.pick [5] rfl, ?_⟩⟩, trivial⟩
        exact RO.fin (by kernel_rfl) ⟨bA, bB, bC, bD, rfl, ⟨rfl, rfl, rfl, rfl, rfl, rfl, rfl, trivial⟩⟩ (Sub.pick [2, 2, 1, 0, 0, 0] rfl)
      refine RO.fork [6] (by kernel_rfl) rfl ⟨⟨_, rfl, rfl, l_makeSlice (m := d.next.length) Tryd.underlying23 inf4 rfl rfl (by omega) (by omega) (fun bB => ⟨Sub.pick [5] rfl, ?_⟩)⟩, trivial⟩
      refine RO.fork [10] (by kernel_rfl) rfl ⟨⟨_, rfl, rfl, l_store_box (v := (.slice (some ⟨bB, 0, none⟩) d.next.length d.next.length)) (vs := [(.slice (some ⟨bB, 0, none⟩) d.next.length d.next.length)]) 3 inf23 rfl rfl rfl rfl rfl rfl (by simp [putL]) ⟨Sub.pick [5] rfl, ?_⟩⟩, trivial⟩
      exact RO.fin (by kernel_rfl) ⟨bA, bB, bC, bD, rfl, ⟨rfl, rfl, rfl, rfl, rfl, rfl, rfl, trivial⟩⟩ (Sub.pick [2, 2, 1, 0, 0, 0] rfl)
    refine RO.fork [2] (by kernel_rfl) rfl ⟨⟨_, rfl, rfl, l_build1 (v := (.int .i64 d.start)) Tryd.underlying41 inf3 rfl rfl rfl (fun bA => ⟨Sub.pick [5] rfl, ?_⟩)⟩, trivial⟩
    refine RO.fork [9] (by kernel_rfl) rfl ⟨⟨_, rfl, rfl, l_store_box (v := (.slice (some ⟨bA, 0, none⟩) 1 1)) (vs := [(.slice (some ⟨bA, 0, none⟩) 1 1)]) 2 inf41 rfl rfl rfl rfl rfl rfl (by simp [putL]) ⟨Sub.pick [5] rfl, ?_⟩⟩, trivial⟩
    refine RO.fork [10] (by kernel_rfl) rfl ⟨⟨_, rfl, rfl, l_store_box (v := (.slice (some ⟨bB, 0, none⟩) d.next.length d.next.length)) (vs := [(.slice (some ⟨bB, 0, none⟩) d.next.length d.next.length)]) 3 inf23 rfl rfl rfl rfl rfl rfl (by simp [putL]) ⟨Sub.pick [5] rfl, ?_⟩⟩, trivial⟩
    exact RO.fin (by kernel_rfl) ⟨bA, bB, bC, bD, rfl, ⟨rfl, rfl, rfl, rfl, rfl, rfl, rfl, trivial⟩⟩ (Sub.pick [2, 2, 0, 0, 0, 0] rfl)
  rintro ρ O ⟨bA, bB, bC, bD, rfl, hH⟩
  obtain ⟨ρ0, rfl⟩ := hH.elim
  clear hH
  refine T.seq (T.region ?_)
  refine TO.quiet (q_load_box 1 Tryd.underlying23 rfl rfl rfl rfl) (TO.quiet (q_fieldAddr Tryd.underlying25 rfl inf3 rfl rfl) (TO.quiet (q_load_box 5 Tryd.underlying3 rfl rfl rfl rfl) (TO.quiet (q_ixz (i := d.start) Tryd.underlying23 inf4 rfl rfl (rowO (List.mem_of_getElem? (i := 3) rfl)) hs0 hsn (by rw [List.length_replicate]; exact hsn)) ?_)))
  refine TO.loud rfl (l_st (j := d.start.toNat) (v := .bool true) (vs := [(.bool true)]) (cs := List.replicate d.next.length (.bool false)) 3 inf4 rfl rfl rfl rfl rfl (by simp) rfl (by first | (simp; omega) | (simp_all; omega)) ?_)
  refine TO.sub (O' := [oI bC 41 [(.slice (some ⟨bA, 0, none⟩) 1 1)], oI bD 23 [(.slice (some ⟨bB, 0, none⟩) d.next.length d.next.length)], rowI (some ⟨bA, 0, none⟩) 1 3 1 [(.int .i64 d.start)], rowI (some ⟨bB, 0, none⟩) d.next.length 4 1 (bools ((List.replicate d.next.length false).set d.start.toNat true)), oI z2 25 [(.int .i64 0), (.int .i64 0), (.slice none 0 0), (.slice none 0 0)], oI z1 25 [(.int .i64 d.vars), (.int .i64 d.start), (.slice nb d.next.length nc), (.slice fb d.final.length fc)]]) (by rw [show putL (List.replicate d.next.length (.bool false)) d.start.toNat [(.bool true)] = bools ((List.replicate d.next.length false).set d.start.toNat true) from by simp [putL]]; exact Sub.of (List.Sublist.refl _)) ?_
  refine TO.nil (T.seq (T.region ?_))
  refine TO.quiet (q_makeFunc) (TO.quiet (q_assign rfl) ?_)
  refine TO.nil (T.seq (T.region ?_))
  refine TO.quiet (q_fieldAddr Tryd.underlying25 rfl inf3 rfl rfl) (TO.quiet (q_load_box 5 Tryd.underlying3 rfl rfl rfl rfl) (TO.quiet (q_fieldAddr Tryd.underlying25 rfl inf3 rfl rfl) ?_))
  refine TO.loud rfl (l_store_box (v := (.int .i64 d.vars)) (vs := [(.int .i64 d.vars)]) 4 inf3 rfl rfl rfl rfl rfl rfl (by simp [putL]) ?_)
  refine TO.nil (T.seq ?_)
  have hJ0 : [oI z1 25 [(.int .i64 d.vars), (.int .i64 d.start), (.slice nb d.next.length nc), (.slice fb d.final.length fc)], oI bC 41 [(.slice (some ⟨bA, 0, none⟩) 1 1)], rowI (some ⟨bA, 0, none⟩) 1 3 1 [(.int .i64 d.start)], oI bD 23 [(.slice (some ⟨bB, 0, none⟩) d.next.length d.next.length)], rowI (some ⟨bB, 0, none⟩) d.next.length 4 1 (bools ((List.replicate d.next.length false).set d.start.toNat true))] = [oI z1 25 [(.int .i64 d.vars), (.int .i64 d.start), (.slice nb d.next.length nc), (.slice fb d.final.length fc)], oI bC 41 [(.slice (some ⟨bA, 0, none⟩) 1 1)], rowI (some ⟨bA, 0, none⟩) 1 3 1 (nats [d.start.toNat]), oI bD 23 [(.slice (some ⟨bB, 0, none⟩) d.next.length d.next.length)], rowI (some ⟨bB, 0, none⟩) d.next.length 4 1 (bools ((List.replicate d.next.length false).set d.start.toNat true))] := by
    rw [show nats [d.start.toNat] = [.int .i64 d.start] by simp [Int.toNat_of_nonneg hs0]]
  have hseen : ∀ t, t < d.next.length → ((List.replicate d.next.length false).set d.start.toNat true)[t]? = some (decide (t ∈ [d.start.toNat])) := fun t ht => by
    by_cases e : t = d.start.toNat
    · subst e; rw [List.getElem?_set_self (by simpa using ht)]; simp
    · rw [List.getElem?_set_ne (fun h => e h.symm)]; simp [ht, e]
  refine T.draws [oI z1 25 [(.int .i64 d.vars), (.int .i64 d.start), (.slice nb d.next.length nc), (.slice fb d.final.length fc)]] [(0, 0), (1, 0), (2, 0), (3, 0), (4, 0), (5, 0), (6, 0), (7, 0), (9, 0), (8, 1), (10, 1), (11, 0), (12, 0), (13, 0), (14, 0), (15, 1)] mixed (drawF_ok (by kernel_rfl)) (Sub.pick [5] rfl) (fun _ _ _ h => h) ?_
  refine DO.quiet rfl (q_fieldAddr Tryd.underlying25 rfl inf3 rfl rfl) (DO.quiet rfl (q_load_box 0 Tryd.underlying3 rfl rfl rfl rfl) (DO.quiet rfl (q_shl1 (v := d.vars.toNat) rfl (by show Value.int _ d.vars = _; rw [Int.toNat_of_nonneg hv.v0]) (by have := hv.v6; omega)) (DO.quiet rfl (q_fieldAddr Tryd.underlying25 rfl inf22 rfl rfl) ?_)))
  refine DO.quiet rfl (q_load_box 0 Tryd.underlying22 rfl rfl rfl rfl) (DO.quiet rfl (q_len Tryd.underlying22 rfl) (DO.quiet rfl (q_fieldAddr Tryd.underlying25 rfl inf3 rfl rfl) (DO.quiet rfl (QT.cast (q_load_box 0 Tryd.underlying3 rfl rfl rfl rfl) (v' := .int .i64 ((d.start.toNat : Nat) : Int)) (by rw [Int.toNat_of_nonneg hs0])) ?_)))
  refine DO.quiet rfl (q_move rfl) ?_
  have hk40 := fun (w1 : World) (hI : Inv w [oI bC 41 [(.slice (some ⟨bA, 0, none⟩) 1 1)], oI bD 23 [(.slice (some ⟨bB, 0, none⟩) d.next.length d.next.length)], rowI (some ⟨bA, 0, none⟩) 1 3 1 [(.int .i64 d.start)], rowI (some ⟨bB, 0, none⟩) d.next.length 4 1 (bools ((List.replicate d.next.length false).set d.start.toNat true)), oI z2 25 [(.int .i64 d.vars), (.int .i64 0), (.slice none 0 0), (.slice none 0 0)], oI z1 25 [(.int .i64 d.vars), (.int .i64 d.start), (.slice nb d.next.length nc), (.slice fb d.final.length fc)]] w1) => (haveI := Inv.tab (P := Tryd.prog) hI; itoaF w1 d.start.toNat (by omega))
  refine DO.loud rfl rfl (l_call ent65 (CallT.of_pure hk40) rfl ?_)
  clear hk40
  rintro v O' ⟨N, rfl, rfl, rfl⟩
  refine ⟨Sub.pick [5] rfl, ?_⟩
  have hk42 := CallT.under (B := [oI z2 25 [(.int .i64 d.vars), (.int .i64 0), (.slice none 0 0), (.slice none 0 0)]]) (O := [oI bC 41 [(.slice (some ⟨bA, 0, none⟩) 1 1)], oI bD 23 [(.slice (some ⟨bB, 0, none⟩) d.next.length d.next.length)], rowI (some ⟨bA, 0, none⟩) 1 3 1 [(.int .i64 d.start)], rowI (some ⟨bB, 0, none⟩) d.next.length 4 1 (bools ((List.replicate d.next.length false).set d.start.toNat true)), oI z2 25 [(.int .i64 d.vars), (.int .i64 0), (.slice none 0 0), (.slice none 0 0)], oI z1 25 [(.int .i64 d.vars), (.int .i64 d.start), (.slice nb d.next.length nc), (.slice fb d.final.length fc)]]) (exploreC w (trD d) (2 ^ d.vars.toNat) d.next.length (Lib.decDigits d.start.toNat) (.func (.func 64) #[] #[.pointer (some ⟨z1, 0, none⟩), .pointer (some ⟨bC, 0, none⟩), .pointer (some ⟨bD, 0, none⟩)]) (RenJ d nb fb nc fc z1 bB bC bD) (fun ks => ks.length ≤ d.next.length) hv.width hv.n4 (fun ks s x O hs hx _ hJ => nextV w d nb fb nc fc vs h hv hn z1 bB bC bD ks s x O hs hx hJ) (fun _ h => h) [oI z1 25 [(.int .i64 d.vars), (.int .i64 d.start), (.slice nb d.next.length nc), (.slice fb d.final.length fc)], oI bC 41 [(.slice (some ⟨bA, 0, none⟩) 1 1)], rowI (some ⟨bA, 0, none⟩) 1 3 1 [(.int .i64 d.start)], oI bD 23 [(.slice (some ⟨bB, 0, none⟩) d.next.length d.next.length)], rowI (some ⟨bB, 0, none⟩) d.next.length 4 1 (bools ((List.replicate d.next.length false).set d.start.toNat true))] (by simp; omega) ⟨[d.start.toNat], (List.replicate d.next.length false).set d.start.toNat true, some ⟨bA, 0, none⟩, 1, rfl, hJ0, by simp, by simp; omega, by simp, hseen⟩) (Sub.pick [5, 0, 1, 0, 0, 0] rfl)
  refine DO.loud rfl rfl (l_call ent66 hk42 rfl ?_)
  clear hk42
  rintro v O' ⟨A1, rfl, rb, rc, qs, N, O1, rfl, rfl, ⟨os, sn, ob, oc, hks, rfl, hnd, hos, hsl, hsn9⟩, hgl, hlenN, hE, hen⟩
  refine ⟨Sub.cnt ([rowI rb rc 41 1 (vals qs)] ++ itms 3 qs ++ [oI bC 41 [(.slice ob os.length oc)], rowI ob oc 3 1 (nats os), oI bD 23 [(.slice (some ⟨bB, 0, none⟩) d.next.length d.next.length)], rowI (some ⟨bB, 0, none⟩) d.next.length 4 1 (bools sn), oI z2 25 [(.int .i64 d.vars), (.int .i64 0), (.slice none 0 0), (.slice none 0 0)]]) (by intro a; simp only [itms, oI, List.set_cons_zero, List.set_cons_succ, putL, List.cons_append, List.nil_append, List.append_nil, List.append_assoc, List.map_append, List.map_cons, List.map_nil, cnt_append, cnt_cons, cnt_nil] <;> omega), ?_⟩
  refine DO.sub (O' := [rowI rb rc 41 1 (vals qs), oI z1 25 [(.int .i64 d.vars), (.int .i64 d.start), (.slice nb d.next.length nc), (.slice fb d.final.length fc)], oI bC 41 [(.slice ob os.length oc)], rowI ob oc 3 1 (nats os), oI bD 23 [(.slice (some ⟨bB, 0, none⟩) d.next.length d.next.length)], rowI (some ⟨bB, 0, none⟩) d.next.length 4 1 (bools sn), oI z2 25 [(.int .i64 d.vars), (.int .i64 0), (.slice none 0 0), (.slice none 0 0)]] ++ itms 3 qs) (Sub.cnt [] (by intro a; simp only [itms, oI, List.set_cons_zero, List.set_cons_succ, putL, List.cons_append, List.nil_append, List.append_nil, List.append_assoc, List.map_append, List.map_cons, List.map_nil, cnt_append, cnt_cons, cnt_nil] <;> omega)) ?_
  refine DO.quiet rfl (q_move rfl) (DO.quiet rfl (q_extract (vs := _) rfl rfl) (DO.quiet rfl (q_extract (vs := _) rfl rfl) (DO.quiet rfl (q_fieldAddr Tryd.underlying25 rfl inf22 rfl rfl) ?_)))
  refine DO.loud rfl rfl (l_store_box (v := (.slice rb N rc)) (vs := [(.slice rb N rc)]) 6 inf22 rfl rfl rfl rfl rfl rfl (by simp [putL]) ⟨Sub.pick0 [1] [rowI rb rc 41 1 (vals qs), oI z1 25 [(.int .i64 d.vars), (.int .i64 d.start), (.slice nb d.next.length nc), (.slice fb d.final.length fc)], oI bC 41 [(.slice ob os.length oc)], rowI ob oc 3 1 (nats os), oI bD 23 [(.slice (some ⟨bB, 0, none⟩) d.next.length d.next.length)], rowI (some ⟨bB, 0, none⟩) d.next.length 4 1 (bools sn), oI z2 25 [(.int .i64 d.vars), (.int .i64 0), (.slice rb N rc), (.slice none 0 0)]] (itms 3 qs) rfl rfl, ?_⟩)
  refine DO.done ?_
  refine T.seq (T.seq (T.region ?_))
  refine TO.quiet (q_load_box 2 Tryd.underlying41 rfl rfl rfl rfl) (TO.quiet (q_len Tryd.underlying41 rfl) (TO.quiet (q_move rfl) ?_))
  refine TO.nil (T.block ?_)
  have hol := nodup_bound hnd hos
  refine T.nilRow 4 1 ?_
  refine T.loop (fun (k : Nat) ρ O => ∃ (fb9 : Option Addr) (fc9 : Nat), O = ([rowI fb9 fc9 4 1 (bools ((os.take k).map fun o => d.final.getD o false)), rowI rb rc 41 1 (vals qs), oI z1 25 [(.int .i64 d.vars), (.int .i64 d.start), (.slice nb d.next.length nc), (.slice fb d.final.length fc)], oI bC 41 [(.slice ob os.length oc)], rowI ob oc 3 1 (nats os), oI bD 23 [(.slice (some ⟨bB, 0, none⟩) d.next.length d.next.length)], rowI (some ⟨bB, 0, none⟩) d.next.length 4 1 (bools sn), oI z2 25 [(.int .i64 d.vars), (.int .i64 0), (.slice rb N rc), (.slice fb9 k fc9)]] ++ (itms 3 qs)) ∧ k ≤ os.length ∧ Heads [(0, (.agg #[(.int .i64 d.vars), (.int .i64 d.start), (.slice nb d.next.length nc), (.slice fb d.final.length fc)])), (1, (.pointer (some ⟨z1, 0, none⟩))), (2, (.pointer (some ⟨z2, 0, none⟩))), (3, .int .i64 0), (4, .int .i64 ((0 : Nat) : Int)), (5, (.pointer (some ⟨bC, 0, none⟩))), (6, (.pointer (some ⟨bD, 0, none⟩))), (7, (.func (.func 64) #[] #[(.pointer (some ⟨z1, 0, none⟩)), (.pointer (some ⟨bC, 0, none⟩)), (.pointer (some ⟨bD, 0, none⟩))])), (46, (.slice ob os.length oc)), (47, .int .i64 (os.length : Int)), (48, .int .i64 (k : Int))] ρ) (fun k => os.length - k) 0 ?_ ?_
  · exact ⟨none, 0, rfl, Nat.zero_le _, ⟨rfl, rfl, rfl, rfl, rfl, rfl, rfl, rfl, rfl, rfl, rfl, trivial⟩⟩
  rintro k ρ O ⟨fb9, fc9, rfl, hk, hH⟩
  obtain ⟨ρ0, rfl⟩ := hH.elim
  clear hH
  refine T.seq (T.region ?_)
  refine TO.quiet (q_lss rfl rfl) ?_
  refine TO.nil (T.seq ?_)
  refine T.condP rfl (fun hc => ?_) (fun hc => ?_)
  · have hlt49 : k < os.length := by omega
    have hok : os[k] < d.next.length := hos _ (List.getElem_mem hlt49)
    have hokf : os[k] < d.final.length := by have := hv.fin; omega
    refine T.skip (T.seq (T.block (T.seq (T.region ?_))))
    refine TO.quiet (q_ix (i := k) Tryd.underlying41 inf3 rfl rfl (rowO (List.mem_of_getElem? (i := 4) rfl))) (TO.quiet (q_ld Tryd.underlying3 rfl rfl (rowO (List.mem_of_getElem? (i := 4) rfl)) nats_get) (TO.quiet (q_assign rfl) ?_))
    refine TO.nil ?_
    refine T.draws [oI z1 25 [(.int .i64 d.vars), (.int .i64 d.start), (.slice nb d.next.length nc), (.slice fb d.final.length fc)], oI z2 25 [(.int .i64 d.vars), (.int .i64 0), (.slice rb N rc), (.slice fb9 k fc9)]] [(0, 0), (1, 0), (2, 0), (3, 0), (4, 0), (5, 0), (6, 0), (7, 1), (8, 2), (9, 2), (10, 2)] mixed (by kernel_rfl) (Sub.pick0 [2, 6] [rowI fb9 fc9 4 1 (bools ((os.take k).map fun o => d.final.getD o false)), rowI rb rc 41 1 (vals qs), oI z1 25 [(.int .i64 d.vars), (.int .i64 d.start), (.slice nb d.next.length nc), (.slice fb d.final.length fc)], oI bC 41 [(.slice ob os.length oc)], rowI ob oc 3 1 (nats os), oI bD 23 [(.slice (some ⟨bB, 0, none⟩) d.next.length d.next.length)], rowI (some ⟨bB, 0, none⟩) d.next.length 4 1 (bools sn), oI z2 25 [(.int .i64 d.vars), (.int .i64 0), (.slice rb N rc), (.slice fb9 k fc9)]] (itms 3 qs) rfl rfl) (fun _ _ _ h => h) ?_
    refine DO.quiet rfl (q_fieldAddr Tryd.underlying25 rfl inf23 rfl rfl) (DO.quiet rfl (q_load_box 1 Tryd.underlying23 rfl rfl rfl rfl) (DO.quiet rfl (q_fieldAddr Tryd.underlying25 rfl inf23 rfl rfl) (DO.quiet rfl (q_load_box 0 Tryd.underlying23 rfl rfl rfl rfl) ?_)))
    refine DO.quiet rfl (q_move rfl) (DO.quiet rfl (q_ix (i := os[k]) Tryd.underlying23 inf4 rfl rfl (Sl.o h.final)) (DO.quiet rfl (q_ld Tryd.underlying4 rfl rfl (Sl.o h.final) bools_get) ?_))
    refine DO.loud rfl rfl (l_build1 (v := .bool d.final[os[k]]) Tryd.underlying23 inf4 rfl rfl rfl (fun z3 => ⟨Sub.pick0 [3, 7] [rowI (some ⟨z3, 0, none⟩) 1 4 1 [.bool d.final[os[k]]], rowI fb9 fc9 4 1 (bools ((os.take k).map fun o => d.final.getD o false)), rowI rb rc 41 1 (vals qs), oI z1 25 [(.int .i64 d.vars), (.int .i64 d.start), (.slice nb d.next.length nc), (.slice fb d.final.length fc)], oI bC 41 [(.slice ob os.length oc)], rowI ob oc 3 1 (nats os), oI bD 23 [(.slice (some ⟨bB, 0, none⟩) d.next.length d.next.length)], rowI (some ⟨bB, 0, none⟩) d.next.length 4 1 (bools sn), oI z2 25 [(.int .i64 d.vars), (.int .i64 0), (.slice rb N rc), (.slice fb9 k fc9)]] (itms 3 qs) rfl rfl, ?_⟩))
    refine DO.last rfl rfl (l_append 1 Tryd.underlying23 Tryd.underlying23 inf4 rfl rfl rfl rfl (by simp; omega) (by decide) (Src.row (j := 0) rfl (by simp)) (by simp [oneB]) (by omega) (by decide) (by decide) (fun z4 zc5 => ?_))
    refine DO.last rfl rfl (LT.of_quiet rfl rfl (q_fieldAddr Tryd.underlying25 rfl inf23 rfl rfl) ?_)
    refine DO.last rfl rfl (l_store_box (v := (.slice z4 (k + 1) zc5)) (vs := [(.slice z4 (k + 1) zc5)]) 8 inf23 rfl rfl rfl rfl rfl rfl (by simp [putL]) ?_)
    refine DO.sub (O' := ([rowI z4 zc5 4 1 ((bools ((os.take k).map fun o => d.final.getD o false)) ++ [.bool d.final[os[k]]]), rowI rb rc 41 1 (vals qs), oI z1 25 [(.int .i64 d.vars), (.int .i64 d.start), (.slice nb d.next.length nc), (.slice fb d.final.length fc)], oI bC 41 [(.slice ob os.length oc)], rowI ob oc 3 1 (nats os), oI bD 23 [(.slice (some ⟨bB, 0, none⟩) d.next.length d.next.length)], rowI (some ⟨bB, 0, none⟩) d.next.length 4 1 (bools sn), oI z2 25 [(.int .i64 d.vars), (.int .i64 0), (.slice rb N rc), (.slice z4 (k + 1) zc5)]] ++ (itms 3 qs))) (Sub.pickR [1, 1, 1, 1, 1, 1, 1, 1] [rowI (some ⟨z3, 0, none⟩) 1 4 1 [.bool d.final[os[k]]], rowI z4 zc5 4 1 ((bools ((os.take k).map fun o => d.final.getD o false)) ++ [.bool d.final[os[k]]]), rowI rb rc 41 1 (vals qs), oI z1 25 [(.int .i64 d.vars), (.int .i64 d.start), (.slice nb d.next.length nc), (.slice fb d.final.length fc)], oI bC 41 [(.slice ob os.length oc)], rowI ob oc 3 1 (nats os), oI bD 23 [(.slice (some ⟨bB, 0, none⟩) d.next.length d.next.length)], rowI (some ⟨bB, 0, none⟩) d.next.length 4 1 (bools sn), oI z2 25 [(.int .i64 d.vars), (.int .i64 0), (.slice rb N rc), (.slice z4 (k + 1) zc5)]] (itms 3 qs) rfl rfl) ?_
    refine DO.done ?_
    refine T.region ?_
    refine TO.quiet (q_inc rfl rfl (by omega)) (TO.quiet (q_move rfl) ?_)
    refine TO.nil ?_
    have hst : (List.take (k + 1) os).map (fun o => d.final.getD o false) = (List.take k os).map (fun o => d.final.getD o false) ++ [d.final[os[k]]] := by
      rw [List.take_succ_eq_append_getElem hlt49, List.map_append]; simp [hokf]
    exact ⟨k + 1, by omega, z4, zc5, by rw [hst, show bools ((List.take k os).map (fun o => d.final.getD o false) ++ [d.final[os[k]]]) = bools ((List.take k os).map fun o => d.final.getD o false) ++ [.bool d.final[os[k]]] from List.map_append], by omega, ⟨rfl, rfl, rfl, rfl, rfl, rfl, rfl, rfl, rfl, rfl, rfl, trivial⟩⟩
  have hge49 : ¬ k < os.length := by omega
  refine T.exit ?_
  refine T.seq (T.region ?_)
  refine TO.quiet (q_load_boxAgg 7 Tryd.underlying25 rfl inf25 rfl rfl rfl) ?_
  refine TO.loud rfl (l_store_box (v := (.agg #[(.int .i64 d.vars), (.int .i64 0), (.slice rb N rc), (.slice fb9 k fc9)])) (vs := [(.int .i64 d.vars), (.int .i64 0), (.slice rb N rc), (.slice fb9 k fc9)]) 7 inf25 rfl rfl rfl rfl rfl rfl (by simp [putL]) ?_)
  refine TO.quiet (q_assign rfl) ?_
  refine TO.nil (T.ret (Res.drop ?_))
  refine Res.cell1b (.int .i64 0) (i := 7) Tryd.results45 Tryd.underlying25 rfl inf25 rfl rfl rfl rfl ?_
  have hke : k = os.length := by omega
  obtain ⟨ho, hN9⟩ := ren_order hen hks hlenN (nodup_bound hnd hos)
  have hnx := ren_next hks hE ho hN9
  have hfx : (List.take k os).map (fun o => d.final.getD o false) = (renum d).final := by rw [List.take_of_length_le (by omega), ho]; rfl
  have hl1 : (renum d).next.length = N := by rw [← hnx, hE.len]
  have hl2 : (renum d).final.length = k := by rw [← hfx, List.length_map, List.length_take]; omega
  refine ⟨[rowI rb rc 41 1 (vals qs), rowI fb9 fc9 4 1 (bools ((os.take k).map fun o => d.final.getD o false))] ++ itms 3 qs, (Sub.pickR [1, 0] [rowI fb9 fc9 4 1 (bools ((os.take k).map fun o => d.final.getD o false)), rowI rb rc 41 1 (vals qs), oI z1 25 [(.int .i64 d.vars), (.int .i64 d.start), (.slice nb d.next.length nc), (.slice fb d.final.length fc)], oI bC 41 [(.slice ob os.length oc)], rowI ob oc 3 1 (nats os), oI bD 23 [(.slice (some ⟨bB, 0, none⟩) d.next.length d.next.length)], rowI (some ⟨bB, 0, none⟩) d.next.length 4 1 (bools sn), oI z2 25 [(.int .i64 d.vars), (.int .i64 0), (.slice rb N rc), (.slice fb9 k fc9)]] (itms 3 qs) rfl rfl), rb, rc, fb9, fc9, qs, ?_, by rw [hfx], hnx⟩
  show Value.tuple #[Value.agg (List.toArray [.int .i64 d.vars, .int .i64 0, .slice rb N rc, .slice fb9 k fc9]), _] = Value.tuple #[Value.agg (List.toArray [.int .i64 d.vars, .int .i64 0, .slice rb (renum d).next.length rc, .slice fb9 (renum d).final.length fc9]), _]
  rw [hl1, hl2]
end Go.Proofs.YtnmfefmhfkhihaaDoor


namespace Go.Proofs.YtnmfefmhfkhihaaDoor
open Go.Lx Go.RowKit
set_option linter.unusedVariables false
set_option linter.unusedSimpArgs false
end Go.Proofs.YtnmfefmhfkhihaaDoor


namespace Go.Proofs.YtnmfefmhfkhihaaDoor
open Go.Lx Go.RowKit
set_option linter.unusedVariables false
set_option linter.unusedSimpArgs false
set_option maxHeartbeats 1000000 in
set_option maxRecDepth 20000 in
theorem cloneNil (w : World) [Tab Tryd.prog w] (c : Nat) :
    PureT Tryd.prog 44 [.slice none 0 c] w fun v N => ∃ b' c', v = .slice b' 0 c' ∧ N = [rowI b' c' 5 1 []] := by
  refine CallT.enter Tryd.func44 rfl Tryd.ntmps44 rfl ?_
  refine T.seq (T.region ?_)
  refine TO.quiet (q_assign rfl) ?_
  refine TO.nil (T.seq (T.seq (T.region ?_)))
  refine TO.quiet (q_move rfl) (TO.quiet (q_eqlNil Tryd.underlying29 rfl rfl) ?_)
  refine TO.nil ?_
  refine T.cond1 rfl ?_
  refine T.seq ?_
  refine T.nilRow 5 1 ?_
  refine T.region ?_
  refine TO.quiet (q_assign rfl) ?_
  refine TO.nil (T.ret ?_)
  refine Res.one (.slice none 0 0) Tryd.results44 rfl ?_
  exact ⟨_, _, rfl, rfl⟩
set_option maxHeartbeats 1000000 in
set_option maxRecDepth 20000 in
theorem cloneSome (w : World) [Tab Tryd.prog w] (a : Addr) (c : Nat) (xs : List Nat) (h1 : Sl w (some a) (byts xs)) (hb : xs.length * 1 ≤ 70368744177664) :
    PureT Tryd.prog 44 [.slice (some a) xs.length c] w fun v N => ∃ b' c', v = .slice b' xs.length c' ∧ N = [rowI b' c' 5 1 (byts xs)] := by
  refine CallT.enter Tryd.func44 rfl Tryd.ntmps44 rfl ?_
  refine T.seq (T.region ?_)
  refine TO.quiet (q_assign rfl) ?_
  refine TO.nil (T.seq (T.seq (T.region ?_)))
  refine TO.quiet (q_move rfl) (TO.quiet (q_eqlNil Tryd.underlying29 rfl rfl) ?_)
  refine TO.nil ?_
  refine T.cond0 rfl ?_
  refine T.skip (T.seq (T.region ?_))
  refine TO.loud rfl (l_buildSlice (m := 0) (parts := []) (cs := []) Tryd.underlying29 inf5 (by decide) (by simp [Instr.fill]) rfl (fun b1 => ?_))
  refine TO.quiet (q_move rfl) ?_
  refine TO.loud rfl (l_append 0 Tryd.underlying29 Tryd.underlying29 inf5 rfl rfl rfl rfl (by simp) (by decide) (Src.sl h1 (by simp)) (byts_one xs) (by omega) (by decide) (by decide) (fun b1 c2 => ?_))
  refine TO.quiet (q_assign rfl) ?_
  refine TO.nil (T.ret ?_)
  refine Res.one (.slice b1 (0 + xs.length) c2) Tryd.results44 rfl ?_
  exact ⟨_, _, by rw [Nat.zero_add], rfl⟩
theorem cloneC (w : World) [Tab Tryd.prog w] (b : Option Addr) (c : Nat) (xs : List Nat) (h1 : Sl w b (byts xs)) (hb : xs.length * 1 ≤ 70368744177664) :
    PureT Tryd.prog 44 [.slice b xs.length c] w fun v N => ∃ b' c', v = .slice b' xs.length c' ∧ N = [rowI b' c' 5 1 (byts xs)] := by
  cases b with
  | none =>
    have hx : xs = [] := by
      cases xs with
      | nil => rfl
      | cons x xs => obtain ⟨_, _, e⟩ := h1.addr (i := 0) (by simp); cases e
    subst hx
    exact cloneNil w c
  | some a => exact cloneSome w a c xs h1 hb
end Go.Proofs.YtnmfefmhfkhihaaDoor


namespace Go.Proofs.YtnmfefmhfkhihaaDoor
open Go.Lx Go.RowKit
set_option linter.unusedVariables false
set_option linter.unusedSimpArgs false
end Go.Proofs.YtnmfefmhfkhihaaDoor


namespace Go.Proofs.YtnmfefmhfkhihaaDoor
open Go.Lx Go.RowKit
set_option linter.unusedVariables false
set_option linter.unusedSimpArgs false
end Go.Proofs.YtnmfefmhfkhihaaDoor


namespace Go.Proofs.YtnmfefmhfkhihaaDoor
open Go.Lx Go.RowKit
set_option linter.unusedVariables false
set_option linter.unusedSimpArgs false
end Go.Proofs.YtnmfefmhfkhihaaDoor


namespace Go.Proofs.YtnmfefmhfkhihaaDoor
open Go.Lx Go.RowKit
set_option linter.unusedVariables false
set_option linter.unusedSimpArgs false
end Go.Proofs.YtnmfefmhfkhihaaDoor


namespace Go.Proofs.YtnmfefmhfkhihaaDoor
open Go.Lx Go.RowKit
set_option linter.unusedVariables false
set_option linter.unusedSimpArgs false
end Go.Proofs.YtnmfefmhfkhihaaDoor


namespace Go.Proofs.YtnmfefmhfkhihaaDoor
open Go.Lx Go.RowKit
set_option linter.unusedVariables false
set_option linter.unusedSimpArgs false
end Go.Proofs.YtnmfefmhfkhihaaDoor


namespace Go.Proofs.YtnmfefmhfkhihaaDoor
open Go.Lx Go.RowKit
set_option linter.unusedVariables false
set_option linter.unusedSimpArgs false
set_option maxHeartbeats 1000000 in
set_option maxRecDepth 20000 in
theorem countBad (w : World) [Tab Tryd.prog w] (a : DFA) (k : DK) (ha : At w a k) (haa : a.next.length < 9223372036854775807) (haar : ∀ r ∈ a.next, r.length < 9223372036854775807) (haaf : a.final.length < 9223372036854775807) (he : checkD a ≠ 0) (n : Int) :
    PureT Tryd.prog 22 [dV a k, .int .i64 n] w fun v N => v = .tuple #[.int .u64 0, .int .i64 (checkD a : Int)] ∧ N = [] := by
  refine CallT.enter Tryd.func22 rfl Tryd.ntmps22 rfl ?_
  refine T.seq (T.region ?_)
  refine TO.loud rfl (l_box (v := (dV a k)) (cs := (dC a k)) rfl rfl (fun bx1 => ?_))
  refine TO.quiet (q_assign rfl) (TO.quiet (q_assign rfl) ?_)
  refine TO.nil (T.seq (T.seq (T.region ?_)))
  refine TO.quiet (q_load_boxAgg 0 Tryd.underlying25 rfl inf25 rfl rfl rfl) ?_
  have hk17 := fun (w1 : World) (hI : Inv w [oI bx1 25 (dC a k)] w1) => (haveI := Inv.tab (P := Tryd.prog) hI; subsetCheck w1 a k.nb k.fb k.nc k.fc (vals k.qs) (hI.dfa ha) haa haar haaf)
  refine TO.loud rfl (l_call ent33 (CallT.of_pure hk17) rfl ?_)
  clear hk17
  rintro vr O' ⟨N, rfl, rfl, rfl⟩
  refine TO.quiet (q_assign rfl) ?_
  refine TO.nil (T.seq (T.region ?_))
  refine TO.quiet (q_move rfl) (TO.quiet (QT.toB (q_neq rfl rfl) (decide_eq_true (by omega))) ?_)
  refine TO.nil ?_
  refine T.cond1 rfl ?_
  refine T.seq (T.region ?_)
  refine TO.quiet (q_move rfl) (TO.quiet (q_assign rfl) (TO.quiet (q_assign rfl) ?_))
  refine TO.nil (T.ret (Res.drop ?_))
  refine Res.two (.int .u64 0) (.int .i64 (checkD a : Int)) Tryd.results22 rfl rfl ?_
  exact ⟨[], Sub.z, rfl, rfl⟩
set_option maxHeartbeats 1000000 in
set_option maxRecDepth 20000 in
theorem countLo (w : World) [Tab Tryd.prog w] (a : DFA) (k : DK) (ha : At w a k) (hv : Valid a) (n : Int) (hn : n < 0) :
    PureT Tryd.prog 22 [dV a k, .int .i64 n] w fun v N => v = .tuple #[.int .u64 0, .int .i64 1] ∧ N = [] := by
  refine CallT.enter Tryd.func22 rfl Tryd.ntmps22 rfl ?_
  have he := checkD_zero.2 hv
  have h4 := hv.n4
  have hww : letN a ≤ 64 := hv.width
  have hfin := hv.fin
  have hvl := ha.rows.1
  have hsl := start_lt hv.toVal
  have hs0 := hv.s0
  have hs1 := hv.s1
  refine T.seq (T.region ?_)
  refine TO.loud rfl (l_box (v := (dV a k)) (cs := (dC a k)) rfl rfl (fun bx1 => ?_))
  refine TO.quiet (q_assign rfl) (TO.quiet (q_assign rfl) ?_)
  refine TO.nil (T.seq (T.seq (T.region ?_)))
  refine TO.quiet (q_load_boxAgg 0 Tryd.underlying25 rfl inf25 rfl rfl rfl) ?_
  have hk17 := fun (w1 : World) (hI : Inv w [oI bx1 25 (dC a k)] w1) => (haveI := Inv.tab (P := Tryd.prog) hI; (show PureT _ _ _ _ _ from by
      have h9 := subsetCheck w1 a k.nb k.fb k.nc k.fc (vals k.qs) (hI.dfa ha) (by omega) hv.bound (by omega)
      rw [he] at h9
      exact h9))
  refine TO.loud rfl (l_call ent33 (CallT.of_pure hk17) rfl ?_)
  clear hk17
  rintro vr O' ⟨N, rfl, rfl, rfl⟩
  refine TO.quiet (q_assign rfl) ?_
  refine TO.nil (T.seq (T.region ?_))
  refine TO.quiet (q_move rfl) (TO.quiet (q_neq rfl rfl) ?_)
  refine TO.nil ?_
  refine T.cond0 rfl ?_
  refine T.skip (T.seq (T.seq (T.region ?_)))
  refine TO.quiet (q_move rfl) (TO.quiet (QT.toB (q_lss rfl rfl) (decide_eq_true (by omega))) (TO.quiet (q_move rfl) ?_))
  refine TO.passed rfl rfl ?_
  refine TO.passed rfl rfl ?_
  refine TO.quiet (q_pick1 rfl rfl) ?_
  refine TO.nil ?_
  refine T.cond1 rfl ?_
  refine T.seq (T.region ?_)
  refine TO.quiet (q_assign rfl) (TO.quiet (q_assign rfl) ?_)
  refine TO.nil (T.ret (Res.drop ?_))
  refine Res.two (.int .u64 0) (.int .i64 1) Tryd.results22 rfl rfl ?_
  exact ⟨[], Sub.z, rfl, rfl⟩
set_option maxHeartbeats 1000000 in
set_option maxRecDepth 20000 in
theorem countHi (w : World) [Tab Tryd.prog w] (a : DFA) (k : DK) (ha : At w a k) (hv : Valid a) (n : Int) (hn : 64 < n) :
    PureT Tryd.prog 22 [dV a k, .int .i64 n] w fun v N => v = .tuple #[.int .u64 0, .int .i64 1] ∧ N = [] := by
  refine CallT.enter Tryd.func22 rfl Tryd.ntmps22 rfl ?_
  have he := checkD_zero.2 hv
  have h4 := hv.n4
  have hww : letN a ≤ 64 := hv.width
  have hfin := hv.fin
  have hvl := ha.rows.1
  have hsl := start_lt hv.toVal
  have hs0 := hv.s0
  have hs1 := hv.s1
  refine T.seq (T.region ?_)
  refine TO.loud rfl (l_box (v := (dV a k)) (cs := (dC a k)) rfl rfl (fun bx1 => ?_))
  refine TO.quiet (q_assign rfl) (TO.quiet (q_assign rfl) ?_)
  refine TO.nil (T.seq (T.seq (T.region ?_)))
  refine TO.quiet (q_load_boxAgg 0 Tryd.underlying25 rfl inf25 rfl rfl rfl) ?_
  have hk17 := fun (w1 : World) (hI : Inv w [oI bx1 25 (dC a k)] w1) => (haveI := Inv.tab (P := Tryd.prog) hI; (show PureT _ _ _ _ _ from by
      have h9 := subsetCheck w1 a k.nb k.fb k.nc k.fc (vals k.qs) (hI.dfa ha) (by omega) hv.bound (by omega)
      rw [he] at h9
      exact h9))
  refine TO.loud rfl (l_call ent33 (CallT.of_pure hk17) rfl ?_)
  clear hk17
  rintro vr O' ⟨N, rfl, rfl, rfl⟩
  refine TO.quiet (q_assign rfl) ?_
  refine TO.nil (T.seq (T.region ?_))
  refine TO.quiet (q_move rfl) (TO.quiet (q_neq rfl rfl) ?_)
  refine TO.nil ?_
  refine T.cond0 rfl ?_
  refine T.skip (T.seq (T.seq (T.region ?_)))
  refine TO.quiet (q_move rfl) (TO.quiet (QT.toB (q_lss rfl rfl) (decide_eq_false (by omega))) (TO.quiet (q_move rfl) ?_))
  refine TO.guarded rfl rfl rfl (LT.of_quiet rfl rfl (q_move rfl) ?_)
  refine TO.guarded rfl rfl rfl (LT.of_quiet rfl rfl (QT.toB (q_gtr rfl rfl) (decide_eq_true (by omega))) ?_)
  refine TO.quiet (q_pick0 rfl rfl) ?_
  refine TO.nil ?_
  refine T.cond1 rfl ?_
  refine T.seq (T.region ?_)
  refine TO.quiet (q_assign rfl) (TO.quiet (q_assign rfl) ?_)
  refine TO.nil (T.ret (Res.drop ?_))
  refine Res.two (.int .u64 0) (.int .i64 1) Tryd.results22 rfl rfl ?_
  exact ⟨[], Sub.z, rfl, rfl⟩
set_option maxHeartbeats 8000000 in
set_option maxRecDepth 20000 in
theorem countOk (w : World) [Tab Tryd.prog w] (a : DFA) (k : DK) (ha : At w a k) (hv : Valid a) (n : Nat) (hn : n ≤ 64) :
    PureT Tryd.prog 22 [dV a k, .int .i64 ((n : Nat) : Int)] w fun v N => v = .tuple #[.int .u64 ((cntN a n a.start.toNat % 18446744073709551616 : Nat) : Int), .int .i64 0] ∧ N = [] := by
  refine CallT.enter Tryd.func22 rfl Tryd.ntmps22 rfl ?_
  have he := checkD_zero.2 hv
  have h4 := hv.n4
  have hww : letN a ≤ 64 := hv.width
  have hfin := hv.fin
  have hvl := ha.rows.1
  have hsl := start_lt hv.toVal
  have hs0 := hv.s0
  have hs1 := hv.s1
  have hs1 : a.start = ((a.start.toNat : Nat) : Int) := (Int.toNat_of_nonneg hv.s0).symm
  refine T.seq (T.region ?_)
  refine TO.loud rfl (l_box (v := (dV a k)) (cs := (dC a k)) rfl rfl (fun z1 => ?_))
  refine TO.quiet (q_assign rfl) (TO.quiet (q_assign rfl) ?_)
  refine TO.nil (T.seq (T.seq (T.region ?_)))
  refine TO.quiet (q_load_boxAgg 0 Tryd.underlying25 rfl inf25 rfl rfl rfl) ?_
  have hk17 := fun (w1 : World) (hI : Inv w [oI z1 25 (dC a k)] w1) => (haveI := Inv.tab (P := Tryd.prog) hI; (show PureT _ _ _ _ _ from by
      have h9 := subsetCheck w1 a k.nb k.fb k.nc k.fc (vals k.qs) (hI.dfa ha) (by omega) hv.bound (by omega)
      rw [he] at h9
      exact h9))
  refine TO.loud rfl (l_call ent33 (CallT.of_pure hk17) rfl ?_)
  clear hk17
  rintro vr O' ⟨N, rfl, rfl, rfl⟩
  refine TO.quiet (q_assign rfl) ?_
  refine TO.nil (T.seq (T.region ?_))
  refine TO.quiet (q_move rfl) (TO.quiet (q_neq rfl rfl) ?_)
  refine TO.nil ?_
  refine T.cond0 rfl ?_
  refine T.skip (T.seq (T.seq (T.region ?_)))
  refine TO.quiet (q_move rfl) (TO.quiet (QT.toB (q_lss rfl rfl) (decide_eq_false (by omega))) (TO.quiet (q_move rfl) ?_))
  refine TO.guarded rfl rfl rfl (LT.of_quiet rfl rfl (q_move rfl) ?_)
  refine TO.guarded rfl rfl rfl (LT.of_quiet rfl rfl (QT.toB (q_gtr rfl rfl) (decide_eq_false (by omega))) ?_)
  refine TO.quiet (q_pick0 rfl rfl) ?_
  refine TO.nil ?_
  refine T.cond0 rfl ?_
  refine T.skip (T.seq (T.region ?_))
  refine TO.quiet (q_fieldAddr Tryd.underlying25 rfl inf22 rfl rfl) (TO.quiet (q_load_box 0 Tryd.underlying22 rfl rfl rfl rfl) (TO.quiet (q_len Tryd.underlying22 rfl) ?_))
  refine TO.loud rfl (l_makeSlice (m := a.next.length) Tryd.underlying62 inf26 rfl rfl (by omega) (by omega) (fun z2 => ?_))
  refine TO.quiet (q_assign rfl) ?_
  refine TO.nil (T.seq (T.region ?_))
  refine TO.quiet (q_move rfl) (TO.quiet (q_fieldAddr Tryd.underlying25 rfl inf3 rfl rfl) (TO.quiet (q_load_box 1 Tryd.underlying3 rfl rfl rfl rfl) (TO.quiet (q_ixz (i := a.start) Tryd.underlying62 inf26 rfl rfl (rowO (List.mem_of_getElem? (i := 0) rfl)) hs0 hsl (by rw [List.length_replicate]; omega)) ?_)))
  refine TO.loud rfl (l_st (j := a.start.toNat) (v := .int .u64 1) (vs := [(.int .u64 1)]) (cs := List.replicate a.next.length (.int .u64 0)) 0 inf26 rfl rfl rfl rfl rfl (by simp) rfl (by rw [List.length_replicate]; simp; omega) ?_)
  refine TO.sub (O' := [rowI (some ⟨z2, 0, none⟩) a.next.length 26 1 (uns ((List.replicate a.next.length 0).set a.start.toNat 1)), oI z1 25 (dC a k)]) (by rw [show putL (List.replicate a.next.length (.int .u64 0)) a.start.toNat [(.int .u64 1)] = uns ((List.replicate a.next.length 0).set a.start.toNat 1) from by simp [putL]]; exact Sub.of (List.Sublist.refl _)) ?_
  refine TO.nil (T.seq (T.seq (T.region ?_)))
  refine TO.quiet (q_move rfl) (TO.quiet (q_move rfl) ?_)
  refine TO.nil (T.block ?_)
  refine T.loopS (fun (i : Nat) ρ O => ∃ (pb : Nat) (p : List Nat), O = [rowI (some ⟨pb, 0, none⟩) a.next.length 26 1 (uns p), oI z1 25 (dC a k)] ∧ i ≤ n ∧ PathI a n i p ∧ Heads [(0, (dV a k)), (1, .int .i64 ((n : Nat) : Int)), (2, (.pointer (some ⟨z1, 0, none⟩))), (4, .int .u64 0), (5, .int .i64 0), (6, .int .i64 0), (7, (.slice (some ⟨pb, 0, none⟩) a.next.length a.next.length)), (35, .int .i64 ((n : Nat) : Int)), (36, .int .i64 ((i : Nat) : Int))] ρ) (fun i => n - i) 0 ?_ ?_
  · exact ⟨z2, _, rfl, Nat.zero_le _, PathI.zero hsl n, ⟨rfl, rfl, rfl, rfl, rfl, rfl, rfl, rfl, rfl, trivial⟩⟩
  rintro i ρ O ⟨pb, p, rfl, hin, hp, hH⟩
  obtain ⟨ρ0, rfl⟩ := hH.elim
  clear hH
  have hpl := hp.len
  refine T.seq (T.region ?_)
  refine TO.quiet (q_lss rfl rfl) ?_
  refine TO.nil (T.seq ?_)
  refine T.condP rfl (fun hc => ?_) (fun hc => ?_)
  · have hlt37 : i < n := by omega
    refine T.skip (T.seq (T.block (T.seq (T.region ?_))))
    refine TO.quiet (q_move rfl) (TO.quiet (q_len Tryd.underlying62 rfl) ?_)
    refine TO.loud rfl (l_makeSlice (m := a.next.length) Tryd.underlying62 inf26 rfl rfl (by omega) (by omega) (fun z3 => ?_))
    refine TO.quiet (q_assign rfl) ?_
    refine TO.nil (T.seq (T.seq (T.region ?_)))
    refine TO.quiet (q_fieldAddr Tryd.underlying25 rfl inf22 rfl rfl) (TO.quiet (q_load_box 2 Tryd.underlying22 rfl rfl rfl rfl) (TO.quiet (q_len Tryd.underlying22 rfl) (TO.quiet (q_move rfl) ?_)))
    refine TO.nil (T.block ?_)
    refine T.loop (fun (s : Nat) ρ O => ∃ (q9 : List Nat), O = [rowI (some ⟨z3, 0, none⟩) a.next.length 26 1 (uns q9), rowI (some ⟨pb, 0, none⟩) a.next.length 26 1 (uns p), oI z1 25 (dC a k)] ∧ s ≤ a.next.length ∧ NextI a (n - (i + 1)) p q9 s 0 ∧ Heads [(0, (dV a k)), (1, .int .i64 ((n : Nat) : Int)), (2, (.pointer (some ⟨z1, 0, none⟩))), (4, .int .u64 0), (5, .int .i64 0), (6, .int .i64 0), (7, (.slice (some ⟨pb, 0, none⟩) a.next.length a.next.length)), (8, (.slice (some ⟨z3, 0, none⟩) a.next.length a.next.length)), (35, .int .i64 ((n : Nat) : Int)), (36, .int .i64 ((i : Nat) : Int)), (42, (.slice k.nb a.next.length k.nc)), (43, .int .i64 (a.next.length : Int)), (44, .int .i64 ((s : Nat) : Int))] ρ) (fun s => a.next.length - s) 0 ?_ ?_
    · exact ⟨List.replicate a.next.length 0, by simp, Nat.zero_le _, NextI.zero _ p, ⟨rfl, rfl, rfl, rfl, rfl, rfl, rfl, rfl, rfl, rfl, rfl, rfl, rfl, trivial⟩⟩
    rintro s ρ O ⟨q9, rfl, hs, hq, hH⟩
    obtain ⟨ρ0, rfl⟩ := hH.elim
    clear hH
    refine T.seq (T.region ?_)
    refine TO.quiet (q_lss rfl rfl) ?_
    refine TO.nil (T.seq ?_)
    refine T.condP rfl (fun hc => ?_) (fun hc => ?_)
    · have hlt45 : s < a.next.length := by omega
      obtain ⟨v1, c1, g1, s1⟩ := ha.rows.get hlt45
      have hl1 : a.next[s].length = letN a := hv.len _ (List.getElem_mem hlt45)
      refine T.skip (T.seq (T.block (T.seq (T.region ?_))))
      refine TO.quiet (q_move rfl) (TO.quiet (q_ix (i := s) Tryd.underlying22 inf41 rfl rfl (Sl.o ha.outer) hlt45 (hvl ▸ hlt45)) (TO.quiet (q_ld Tryd.underlying41 rfl rfl (Sl.o ha.outer) g1) (TO.quiet (q_assign rfl) ?_)))
      refine TO.quiet (q_assign rfl) ?_
      refine TO.nil (T.seq (T.region ?_))
      refine TO.quiet (q_move rfl) (TO.quiet (q_len Tryd.underlying41 rfl) (TO.quiet (q_move rfl) ?_))
      refine TO.nil (T.block ?_)
      refine T.loop (fun (x : Nat) ρ O => ∃ (q9 : List Nat), O = [rowI (some ⟨z3, 0, none⟩) a.next.length 26 1 (uns q9), rowI (some ⟨pb, 0, none⟩) a.next.length 26 1 (uns p), oI z1 25 (dC a k)] ∧ x ≤ letN a ∧ NextI a (n - (i + 1)) p q9 s x ∧ Heads [(0, (dV a k)), (1, .int .i64 ((n : Nat) : Int)), (2, (.pointer (some ⟨z1, 0, none⟩))), (4, .int .u64 0), (5, .int .i64 0), (6, .int .i64 0), (7, (.slice (some ⟨pb, 0, none⟩) a.next.length a.next.length)), (8, (.slice (some ⟨z3, 0, none⟩) a.next.length a.next.length)), (9, .int .i64 ((s : Nat) : Int)), (10, (.slice v1 a.next[s].length c1)), (35, .int .i64 ((n : Nat) : Int)), (36, .int .i64 ((i : Nat) : Int)), (42, (.slice k.nb a.next.length k.nc)), (43, .int .i64 (a.next.length : Int)), (44, .int .i64 ((s : Nat) : Int)), (49, (.slice v1 a.next[s].length c1)), (50, .int .i64 (a.next[s].length : Int)), (51, .int .i64 ((x : Nat) : Int))] ρ) (fun x => letN a - x) 0 ?_ ?_
      · exact ⟨q9, rfl, Nat.zero_le _, hq, ⟨rfl, rfl, rfl, rfl, rfl, rfl, rfl, rfl, rfl, rfl, rfl, rfl, rfl, rfl, rfl, rfl, rfl, rfl, trivial⟩⟩
      rintro x ρ O ⟨q9, rfl, hx, hq, hH⟩
      obtain ⟨ρ0, rfl⟩ := hH.elim
      clear hH
      have hql := hq.len
      refine T.seq (T.region ?_)
      refine TO.quiet (q_lss rfl rfl) ?_
      refine TO.nil (T.seq ?_)
      refine T.condP rfl (fun hc => ?_) (fun hc => ?_)
      · have hlt52 : x < a.next[s].length := by omega
        have hxl : x < letN a := by omega
        obtain ⟨hto, _, hxk1, hx1⟩ := hv.toN_lt hlt45 hxl
        have hx1 : (ints a.next[s])[x]? = some (.int .i64 ((toN a s x : Nat) : Int)) := by rw [ints_get hxk1, hx1]
        refine T.skip (T.seq (T.block (T.seq (T.region ?_))))
        refine TO.quiet (q_ix (i := x) Tryd.underlying41 inf3 rfl rfl (Sl.o s1) hxk1 (by rw [List.length_map]; exact hxk1)) (TO.quiet (q_ld Tryd.underlying3 rfl rfl (Sl.o s1) hx1) (TO.quiet (q_assign rfl) ?_))
        refine TO.nil ?_
        refine T.draws _ [(0, 0), (1, 0), (2, 0), (3, 0), (4, 0), (5, 0), (6, 0), (7, 0), (8, 0), (9, 0), (10, 2)] mixed (by kernel_rfl) (Sub.of (List.Sublist.refl _)) (fun _ _ _ h => h) ?_
        refine DO.quiet rfl (q_move rfl) (DO.quiet rfl (q_move rfl) (DO.quiet rfl (q_ix (i := (toN a s x)) Tryd.underlying62 inf26 rfl rfl (rowO (List.mem_of_getElem? (i := 0) rfl)) hto (by rw [List.length_map]; omega)) (DO.quiet rfl (q_ld Tryd.underlying26 rfl rfl (rowO (List.mem_of_getElem? (i := 0) rfl)) (uns_at (by omega))) ?_)))
        refine DO.quiet rfl (q_move rfl) (DO.quiet rfl (q_move rfl) (DO.quiet rfl (q_ix (i := s) Tryd.underlying62 inf26 rfl rfl (rowO (List.mem_of_getElem? (i := 1) rfl)) hlt45 (by rw [List.length_map]; omega)) (DO.quiet rfl (q_ld Tryd.underlying26 rfl rfl (rowO (List.mem_of_getElem? (i := 1) rfl)) (uns_at (by omega))) ?_)))
        refine DO.quiet rfl (q_addM rfl rfl) (DO.quiet rfl (q_ix (i := (toN a s x)) Tryd.underlying62 inf26 rfl rfl (rowO (List.mem_of_getElem? (i := 0) rfl)) hto (by rw [List.length_map]; omega)) ?_)
        refine DO.last rfl rfl (l_st (j := (toN a s x)) (v := .int .u64 ((((q9.getD (toN a s x) 0 + p.getD s 0) % 18446744073709551616) : Nat) : Int)) (vs := [(.int .u64 ((((q9.getD (toN a s x) 0 + p.getD s 0) % 18446744073709551616) : Nat) : Int))]) (cs := uns q9) 0 inf26 rfl rfl rfl rfl rfl (by simp) rfl (by rw [List.length_map]; simp; omega) ?_)
        refine DO.sub (O' := [rowI (some ⟨z3, 0, none⟩) a.next.length 26 1 (uns (q9.set (toN a s x) ((q9.getD (toN a s x) 0 + p.getD s 0) % 18446744073709551616))), rowI (some ⟨pb, 0, none⟩) a.next.length 26 1 (uns p), oI z1 25 (dC a k)]) (by rw [show putL (uns q9) (toN a s x) [(.int .u64 ((((q9.getD (toN a s x) 0 + p.getD s 0) % 18446744073709551616) : Nat) : Int))] = uns (q9.set (toN a s x) ((q9.getD (toN a s x) 0 + p.getD s 0) % 18446744073709551616)) from by simp [putL]]; exact Sub.of (List.Sublist.refl _)) ?_
        refine DO.done ?_
        refine T.region ?_
        refine TO.quiet (q_addN (a := x) (b := 1) rfl rfl (by omega)) (TO.quiet (q_move rfl) ?_)
        refine TO.nil ?_
        exact ⟨x + 1, by omega, _, rfl, by omega, hq.step hto, ⟨rfl, rfl, rfl, rfl, rfl, rfl, rfl, rfl, rfl, rfl, rfl, rfl, rfl, rfl, rfl, rfl, rfl, rfl, trivial⟩⟩
      have hge52 : ¬ x < a.next[s].length := by omega
      refine T.exit ?_
      refine T.region ?_
      refine TO.quiet (q_addN (a := s) (b := 1) rfl rfl (by omega)) (TO.quiet (q_move rfl) ?_)
      refine TO.nil ?_
      exact ⟨s + 1, by omega, q9, rfl, by omega, ((show x = letN a by omega) ▸ hq).row, ⟨rfl, rfl, rfl, rfl, rfl, rfl, rfl, rfl, rfl, rfl, rfl, rfl, rfl, trivial⟩⟩
    have hge45 : ¬ s < a.next.length := by omega
    refine T.exit ?_
    refine T.region ?_
    refine TO.quiet (q_move rfl) (TO.quiet (q_assign rfl) ?_)
    refine TO.nil (T.region ?_)
    refine TO.quiet (q_addN (a := i) (b := 1) rfl rfl (by omega)) (TO.quiet (q_move rfl) ?_)
    refine TO.nil ?_
    have hse : s = a.next.length := by omega
    exact ⟨i + 1, by omega, [rowI (some ⟨z3, 0, none⟩) a.next.length 26 1 (uns q9), oI z1 25 (dC a k)], (by exact Sub.k (.d (.k .z))), z3, q9, rfl, by omega, NextI.done hlt37 hp (hse ▸ hq), ⟨rfl, rfl, rfl, rfl, rfl, rfl, rfl, rfl, rfl, trivial⟩⟩
  have hge37 : ¬ i < n := by omega
  refine T.exit ?_
  refine T.seq (T.region ?_)
  refine TO.quiet (q_assign rfl) ?_
  refine TO.nil (T.seq (T.seq (T.region ?_)))
  refine TO.quiet (q_move rfl) (TO.quiet (q_len Tryd.underlying62 rfl) (TO.quiet (q_move rfl) ?_))
  refine TO.nil (T.block ?_)
  have hie : i = n := by omega
  rw [hie] at hp
  refine T.loop (fun (s : Nat) ρ O => O = [rowI (some ⟨pb, 0, none⟩) a.next.length 26 1 (uns p), oI z1 25 (dC a k)] ∧ s ≤ a.next.length ∧ Heads [(0, (dV a k)), (1, .int .i64 ((n : Nat) : Int)), (2, (.pointer (some ⟨z1, 0, none⟩))), (4, .int .u64 0), (5, .int .i64 0), (6, .int .i64 0), (7, (.slice (some ⟨pb, 0, none⟩) a.next.length a.next.length)), (13, .int .u64 ((finS a p s : Nat) : Int)), (69, (.slice (some ⟨pb, 0, none⟩) a.next.length a.next.length)), (70, .int .i64 (a.next.length : Int)), (71, .int .i64 ((s : Nat) : Int))] ρ) (fun s => a.next.length - s) 0 ?_ ?_
  · exact ⟨rfl, Nat.zero_le _, ⟨rfl, rfl, rfl, rfl, rfl, rfl, rfl, rfl, rfl, rfl, rfl, trivial⟩⟩
  rintro s ρ O ⟨rfl, hs, hH⟩
  obtain ⟨ρ0, rfl⟩ := hH.elim
  clear hH
  refine T.seq (T.region ?_)
  refine TO.quiet (q_lss rfl rfl) ?_
  refine TO.nil (T.seq ?_)
  refine T.condP rfl (fun hc => ?_) (fun hc => ?_)
  · have hlt72 : s < a.next.length := by omega
    refine T.skip (T.seq (T.block (T.seq (T.region ?_))))
    refine TO.quiet (q_move rfl) (TO.quiet (q_ix (i := s) Tryd.underlying62 inf26 rfl rfl (rowO (List.mem_of_getElem? (i := 0) rfl)) hlt72 (by rw [List.length_map]; omega)) (TO.quiet (q_ld Tryd.underlying26 rfl rfl (rowO (List.mem_of_getElem? (i := 0) rfl)) (uns_at (by omega))) (TO.quiet (q_assign rfl) ?_)))
    refine TO.quiet (q_assign rfl) ?_
    refine TO.nil (T.seq (T.region ?_))
    refine TO.quiet (q_fieldAddr Tryd.underlying25 rfl inf23 rfl rfl) (TO.quiet (q_load_box 1 Tryd.underlying23 rfl rfl rfl rfl) (TO.quiet (q_move rfl) (TO.quiet (q_ix (i := s) Tryd.underlying23 inf4 rfl rfl (Sl.o ha.final) (by omega) (by rw [List.length_map]; omega)) ?_)))
    refine TO.quiet (q_ld Tryd.underlying4 rfl rfl (Sl.o ha.final) (bools_get (by omega))) ?_
    refine TO.nil ?_
    refine T.cond rfl (fun hc => ?_) (fun hc => ?_)
    · have hfn : finN a s = true := by rw [← hc]; simp [finN, show s < a.final.length by omega]
      refine T.region ?_
      refine TO.quiet (q_move rfl) (TO.quiet (q_move rfl) (TO.quiet (q_addM rfl rfl) (TO.quiet (q_assign rfl) ?_)))
      refine TO.nil (T.region ?_)
      refine TO.quiet (q_addN (a := s) (b := 1) rfl rfl (by omega)) (TO.quiet (q_move rfl) ?_)
      refine TO.nil ?_
      exact ⟨s + 1, by omega, rfl, by omega, ⟨rfl, rfl, rfl, rfl, rfl, rfl, rfl, (congrArg (fun n : Nat => Value.int .u64 (n : Int)) (finS_yes hfn)), rfl, rfl, rfl, trivial⟩⟩
    have hfn : finN a s = false := by rw [← hc]; simp [finN, show s < a.final.length by omega]
    refine T.skip (T.region ?_)
    refine TO.quiet (q_addN (a := s) (b := 1) rfl rfl (by omega)) (TO.quiet (q_move rfl) ?_)
    refine TO.nil ?_
    exact ⟨s + 1, by omega, rfl, by omega, ⟨rfl, rfl, rfl, rfl, rfl, rfl, rfl, (congrArg (fun n : Nat => Value.int .u64 (n : Int)) (finS_no hfn)), rfl, rfl, rfl, trivial⟩⟩
  have hge72 : ¬ s < a.next.length := by omega
  refine T.exit ?_
  refine T.seq (T.region ?_)
  refine TO.quiet (q_move rfl) (TO.quiet (q_assign rfl) (TO.quiet (q_assign rfl) ?_))
  refine TO.nil (T.ret (Res.drop ?_))
  refine Res.two (.int .u64 ((finS a p s : Nat) : Int)) (.int .i64 0) Tryd.results22 rfl rfl ?_
  have hse : s = a.next.length := by omega
  subst hse
  exact ⟨[], Sub.z, by rw [hp.end], rfl⟩
theorem countC (w : World) [Tab Tryd.prog w] (a : DFA) (k : DK) (ha : At w a k) (haa : a.next.length < 9223372036854775807) (haar : ∀ r ∈ a.next, r.length < 9223372036854775807) (haaf : a.final.length < 9223372036854775807) (n : Int) :
    PureT Tryd.prog 22 [dV a k, .int .i64 n] w fun v N => v = .tuple #[.int .u64 ((cntV a n : Nat) : Int), .int .i64 ((cntE a n : Nat) : Int)] ∧ N = [] := by
  unfold cntV cntE
  by_cases he : checkD a ≠ 0
  · rw [if_pos he, if_neg he]
    exact countBad w a k ha haa haar haaf he n
  · have hv : Valid a := checkD_zero.1 (by omega)
    rw [if_neg he]
    by_cases hn : n < 0 ∨ 64 < n
    · rw [if_pos hn, if_neg (by decide)]
      rcases hn with h | h
      · exact countLo w a k ha hv n h
      · exact countHi w a k ha hv n h
    · rw [if_neg hn, if_pos rfl]
      obtain ⟨m, rfl⟩ : ∃ m : Nat, n = (m : Int) := ⟨n.toNat, by omega⟩
      exact countOk w a k ha hv m (by omega)
end Go.Proofs.YtnmfefmhfkhihaaDoor


namespace Go.Proofs.YtnmfefmhfkhihaaDoor
open Go.Lx Go.RowKit
set_option linter.unusedVariables false
set_option linter.unusedSimpArgs false
set_option maxHeartbeats 8000000 in
set_option maxRecDepth 20000 in
theorem tableN (w : World) [Tab Tryd.prog w] (a : DFA) (k : DK) (ha : At w a k) (hv : Valid a) :
    PureT Tryd.prog 42 [dV a k] w fun v N => ∃ tb us, TabOk a us ∧ v = .slice tb 65 65 ∧ N = [rowI tb 65 62 1 (uvals us)] ++ uitms 26 us := by
  refine CallT.enter Tryd.func42 rfl Tryd.ntmps42 rfl ?_
  have he := checkD_zero.2 hv
  have h4 := hv.n4
  have hww : letN a ≤ 64 := hv.width
  have hfin := hv.fin
  have hvl := ha.rows.1
  have hsl := start_lt hv.toVal
  have hs0 := hv.s0
  have hs1 := hv.s1
  refine T.seq (T.region ?_)
  refine TO.loud rfl (l_box (v := (dV a k)) (cs := (dC a k)) rfl rfl (fun z1 => ?_))
  refine TO.quiet (q_assign rfl) ?_
  refine TO.nil (T.seq (T.region ?_))
  refine TO.loud rfl (l_makeSlice (m := 65) Tryd.underlying64 inf62 rfl rfl (by omega) (by omega) (fun z2 => ?_))
  refine TO.quiet (q_assign rfl) ?_
  refine TO.nil (T.seq (T.seq (T.region ?_)))
  refine TO.quiet (q_move rfl) (TO.quiet (q_len Tryd.underlying64 rfl) (TO.quiet (q_move rfl) ?_))
  refine TO.nil (T.block ?_)
  refine T.loop (fun (n : Nat) ρ O => ∃ (us : List URec), O = ([rowI (some ⟨z2, 0, none⟩) 65 62 1 (uvals us ++ List.replicate (65 - n) (.slice none 0 0)), oI z1 25 (dC a k)] ++ (uitms 26 us)) ∧ n ≤ 65 ∧ us.map URec.xs = (List.range n).map (tabR a) ∧ Heads [(0, (dV a k)), (1, (.pointer (some ⟨z1, 0, none⟩))), (2, (.slice none 0 0)), (3, (.slice (some ⟨z2, 0, none⟩) 65 65)), (11, (.slice (some ⟨z2, 0, none⟩) 65 65)), (12, .int .i64 (65 : Int)), (13, .int .i64 ((n : Nat) : Int))] ρ) (fun n => 65 - n) 0 ?_ ?_
  · exact ⟨[], rfl, Nat.zero_le _, rfl, ⟨rfl, rfl, rfl, rfl, rfl, rfl, rfl, trivial⟩⟩
  rintro n ρ O ⟨us, rfl, hn, hus, hH⟩
  obtain ⟨ρ0, rfl⟩ := hH.elim
  clear hH
  have hul : us.length = n := by have := congrArg List.length hus; simpa using this
  refine T.seq (T.region ?_)
  refine TO.quiet (q_lss rfl rfl) ?_
  refine TO.nil (T.seq ?_)
  refine T.condP rfl (fun hc => ?_) (fun hc => ?_)
  · have hlt14 : n < 65 := by omega
    refine T.skip (T.seq (T.block (T.seq (T.region ?_))))
    refine TO.quiet (q_move rfl) (TO.quiet (q_assign rfl) ?_)
    refine TO.nil (T.seq (T.region ?_))
    refine TO.quiet (q_move rfl) (TO.quiet (q_move rfl) (TO.quiet (q_fieldAddr Tryd.underlying25 rfl inf22 rfl rfl) (TO.quiet (q_load_box 1 Tryd.underlying22 rfl rfl rfl rfl) ?_)))
    refine TO.quiet (q_len Tryd.underlying22 rfl) ?_
    refine TO.loud rfl (l_makeSlice (m := a.next.length) Tryd.underlying62 inf26 rfl rfl (by omega) (by omega) (fun z3 => ?_))
    refine TO.quiet (q_ix (i := n) Tryd.underlying64 inf62 rfl rfl (rowO (List.mem_of_getElem? (i := 1) rfl)) hlt14 (by rw [List.length_append, List.length_map, List.length_replicate]; omega)) ?_
    refine TO.loud rfl (l_st (j := n) (v := (.slice (some ⟨z3, 0, none⟩) a.next.length a.next.length)) (vs := [(.slice (some ⟨z3, 0, none⟩) a.next.length a.next.length)]) (cs := uvals us ++ List.replicate (65 - n) (.slice none 0 0)) 1 inf62 rfl rfl rfl rfl rfl (by simp) rfl (by rw [List.length_append, List.length_map, List.length_replicate]; simp; omega) ?_)
    refine TO.sub (O' := ([rowI (some ⟨z3, 0, none⟩) a.next.length 26 1 (List.replicate a.next.length (.int .u64 0)), rowI (some ⟨z2, 0, none⟩) 65 62 1 (uvals us ++ ((.slice (some ⟨z3, 0, none⟩) a.next.length a.next.length) :: List.replicate (65 - 1 - n) (.slice none 0 0))), oI z1 25 (dC a k)] ++ (uitms 26 us))) (by rw [show putL (uvals us ++ List.replicate (65 - n) (.slice none 0 0)) n [(.slice (some ⟨z3, 0, none⟩) a.next.length a.next.length)] = uvals us ++ ((.slice (some ⟨z3, 0, none⟩) a.next.length a.next.length) :: List.replicate (65 - 1 - n) (.slice none 0 0)) from tput hul hlt14]; exact Sub.of (List.Sublist.refl _)) ?_
    refine TO.nil (T.seq (T.region ?_))
    refine TO.quiet (q_fieldAddr Tryd.underlying25 rfl inf22 rfl rfl) (TO.quiet (q_load_box 2 Tryd.underlying22 rfl rfl rfl rfl) (TO.quiet (q_len Tryd.underlying22 rfl) (TO.quiet (q_move rfl) ?_)))
    refine TO.nil (T.block ?_)
    refine T.loop (fun (s : Nat) ρ O => O = ([rowI (some ⟨z3, 0, none⟩) a.next.length 26 1 (uns (tabX a n s 0)), rowI (some ⟨z2, 0, none⟩) 65 62 1 (uvals us ++ ((.slice (some ⟨z3, 0, none⟩) a.next.length a.next.length) :: List.replicate (65 - 1 - n) (.slice none 0 0))), oI z1 25 (dC a k)] ++ (uitms 26 us)) ∧ s ≤ a.next.length ∧ Heads [(0, (dV a k)), (1, (.pointer (some ⟨z1, 0, none⟩))), (2, (.slice none 0 0)), (3, (.slice (some ⟨z2, 0, none⟩) 65 65)), (4, .int .i64 ((n : Nat) : Int)), (11, (.slice (some ⟨z2, 0, none⟩) 65 65)), (12, .int .i64 (65 : Int)), (13, .int .i64 ((n : Nat) : Int)), (24, (.slice k.nb a.next.length k.nc)), (25, .int .i64 (a.next.length : Int)), (26, .int .i64 ((s : Nat) : Int))] ρ) (fun s => a.next.length - s) 0 ?_ ?_
    · exact ⟨by rw [tabX_zero], Nat.zero_le _, ⟨rfl, rfl, rfl, rfl, rfl, rfl, rfl, rfl, rfl, rfl, rfl, trivial⟩⟩
    rintro s ρ O ⟨rfl, hs, hH⟩
    obtain ⟨ρ0, rfl⟩ := hH.elim
    clear hH
    refine T.seq (T.region ?_)
    refine TO.quiet (q_lss rfl rfl) ?_
    refine TO.nil (T.seq ?_)
    refine T.condP rfl (fun hc => ?_) (fun hc => ?_)
    · have hlt27 : s < a.next.length := by omega
      obtain ⟨v1, c1, g1, s1⟩ := ha.rows.get hlt27
      have hl1 : a.next[s].length = letN a := hv.len _ (List.getElem_mem hlt27)
      refine T.skip (T.seq (T.block (T.seq (T.region ?_))))
      refine TO.quiet (q_move rfl) (TO.quiet (q_ix (i := s) Tryd.underlying22 inf41 rfl rfl (Sl.o ha.outer) hlt27 (hvl ▸ hlt27)) (TO.quiet (q_ld Tryd.underlying41 rfl rfl (Sl.o ha.outer) g1) (TO.quiet (q_assign rfl) ?_)))
      refine TO.quiet (q_assign rfl) ?_
      refine TO.nil (T.block (T.seq (T.region ?_)))
      refine TO.quiet (q_move rfl) (TO.quiet (q_gtr rfl rfl) (TO.quiet (q_assign rfl) ?_))
      refine TO.nil ?_
      refine T.condP rfl (fun hc => ?_) (fun hc => ?_)
      · have hlt31 : n > 0 := by omega
        obtain ⟨m, hm⟩ : ∃ m, n = m + 1 := ⟨n - 1, by omega⟩
        obtain ⟨q0, hq0⟩ : ∃ q, us[m]? = some q := ⟨us[m]'(by omega), List.getElem?_eq_getElem (by omega)⟩
        have hxq : q0.xs = tabR a m := by
          have h9 := congrArg (·[m]?) hus
          simp only [List.getElem?_map, hq0, List.getElem?_range (show m < n by omega), Option.map_some] at h9
          exact Option.some.inj h9
        refine T.seq (T.region ?_)
        refine TO.quiet (q_move rfl) (TO.quiet (q_len Tryd.underlying41 rfl) (TO.quiet (q_move rfl) ?_))
        refine TO.nil (T.block ?_)
        refine T.loop (fun (x : Nat) ρ O => O = ([rowI (some ⟨z3, 0, none⟩) a.next.length 26 1 (uns (tabX a n s x)), rowI (some ⟨z2, 0, none⟩) 65 62 1 (uvals us ++ ((.slice (some ⟨z3, 0, none⟩) a.next.length a.next.length) :: List.replicate (65 - 1 - n) (.slice none 0 0))), oI z1 25 (dC a k)] ++ (uitms 26 us)) ∧ x ≤ letN a ∧ Heads [(0, (dV a k)), (1, (.pointer (some ⟨z1, 0, none⟩))), (2, (.slice none 0 0)), (3, (.slice (some ⟨z2, 0, none⟩) 65 65)), (4, .int .i64 ((n : Nat) : Int)), (5, .int .i64 ((s : Nat) : Int)), (6, (.slice v1 a.next[s].length c1)), (11, (.slice (some ⟨z2, 0, none⟩) 65 65)), (12, .int .i64 (65 : Int)), (13, .int .i64 ((n : Nat) : Int)), (24, (.slice k.nb a.next.length k.nc)), (25, .int .i64 (a.next.length : Int)), (26, .int .i64 ((s : Nat) : Int)), (31, .bool (decide (((n : Nat) : Int) > 0))), (34, (.slice v1 a.next[s].length c1)), (35, .int .i64 (a.next[s].length : Int)), (36, .int .i64 ((x : Nat) : Int))] ρ) (fun x => letN a - x) 0 ?_ ?_
        · exact ⟨rfl, Nat.zero_le _, ⟨rfl, rfl, rfl, rfl, rfl, rfl, rfl, rfl, rfl, rfl, rfl, rfl, rfl, rfl, rfl, rfl, rfl, trivial⟩⟩
        rintro x ρ O ⟨rfl, hx, hH⟩
        obtain ⟨ρ0, rfl⟩ := hH.elim
        clear hH
        refine T.seq (T.region ?_)
        refine TO.quiet (q_lss rfl rfl) ?_
        refine TO.nil (T.seq ?_)
        refine T.condP rfl (fun hc => ?_) (fun hc => ?_)
        · have hlt37 : x < a.next[s].length := by omega
          have hxl : x < letN a := by omega
          obtain ⟨hto, _, hxk1, hx1⟩ := hv.toN_lt hlt27 hxl
          have hx1 : (ints a.next[s])[x]? = some (.int .i64 ((toN a s x : Nat) : Int)) := by rw [ints_get hxk1, hx1]
          refine T.skip (T.seq (T.block (T.seq (T.region ?_))))
          refine TO.quiet (q_ix (i := x) Tryd.underlying41 inf3 rfl rfl (Sl.o s1) hxk1 (by rw [List.length_map]; exact hxk1)) (TO.quiet (q_ld Tryd.underlying3 rfl rfl (Sl.o s1) hx1) (TO.quiet (q_assign rfl) ?_))
          refine TO.nil (T.seq ?_)
          refine T.draws _ [(0, 0), (1, 0), (2, 0), (3, 0), (4, 0), (5, 0), (6, 0), (7, 0), (8, 0), (9, 0), (10, 0), (11, 0), (12, 0), (13, 0), (14, 0), (15, 0), (16, 0)] mixed (drawF_ok (by kernel_rfl)) (Sub.of (List.Sublist.refl _)) (fun _ _ _ h => h) ?_
          refine DO.quiet rfl (q_move rfl) (DO.quiet rfl (q_move rfl) (DO.quiet rfl (q_ix (i := n) Tryd.underlying64 inf62 rfl rfl (rowO (List.mem_of_getElem? (i := 1) rfl)) hlt14 (by rw [List.length_append, List.length_cons, List.length_map, List.length_replicate]; omega)) (DO.quiet rfl (q_ld Tryd.underlying62 rfl rfl (rowO (List.mem_of_getElem? (i := 1) rfl)) (tget_at hul)) ?_)))
          refine DO.quiet rfl (q_move rfl) (DO.quiet rfl (q_ix (i := s) Tryd.underlying62 inf26 rfl rfl (rowO (List.mem_of_getElem? (i := 0) rfl)) hlt27 (by rw [List.length_map, tabX_len]; omega)) (DO.quiet rfl (q_ld Tryd.underlying26 rfl rfl (rowO (List.mem_of_getElem? (i := 0) rfl)) (tabX_at hm hlt27)) (DO.quiet rfl (q_move rfl) ?_)))
          refine DO.quiet rfl (q_move rfl) (DO.quiet rfl (QT.cast (q_sub64 rfl rfl (by omega)) (v' := .int .i64 ((m : Nat) : Int)) (congrArg (Value.int .i64) (by omega))) (DO.quiet rfl (q_ix (i := m) Tryd.underlying64 inf62 rfl rfl (rowO (List.mem_of_getElem? (i := 1) rfl)) (by omega) (by rw [List.length_append, List.length_cons, List.length_map, List.length_replicate]; omega)) (DO.quiet rfl (q_ld Tryd.underlying62 rfl rfl (rowO (List.mem_of_getElem? (i := 1) rfl)) (tget_lt hq0)) ?_)))
          refine DO.quiet rfl (q_move rfl) (DO.quiet rfl (q_ix (i := (toN a s x)) Tryd.underlying62 inf26 rfl rfl (hxq ▸ uitmO (List.mem_append_right _ (List.mem_map_of_mem (List.mem_of_getElem? hq0)))) (by rw [hxq, tabR_len]; exact hto) (by rw [List.length_map, tabR_len]; exact hto)) (DO.quiet rfl (q_ld Tryd.underlying26 rfl rfl (hxq ▸ uitmO (List.mem_append_right _ (List.mem_map_of_mem (List.mem_of_getElem? hq0)))) (tabR_get hto)) (DO.quiet rfl (q_addM rfl rfl) ?_)))
          refine DO.quiet rfl (q_assign rfl) ?_
          refine DO.done ?_
          refine T.seq (T.seq (T.region ?_))
          refine TO.quiet (q_move rfl) (TO.quiet (q_move rfl) (TO.quiet (q_move rfl) (TO.quiet (q_ix (i := n) Tryd.underlying64 inf62 rfl rfl (rowO (List.mem_of_getElem? (i := 1) rfl)) hlt14 (by rw [List.length_append, List.length_cons, List.length_map, List.length_replicate]; omega)) ?_)))
          refine TO.quiet (q_ld Tryd.underlying62 rfl rfl (rowO (List.mem_of_getElem? (i := 1) rfl)) (tget_at hul)) (TO.quiet (q_move rfl) (TO.quiet (q_ix (i := s) Tryd.underlying62 inf26 rfl rfl (rowO (List.mem_of_getElem? (i := 0) rfl)) hlt27 (by rw [List.length_map, tabX_len]; omega)) (TO.quiet (q_ld Tryd.underlying26 rfl rfl (rowO (List.mem_of_getElem? (i := 0) rfl)) (tabX_at hm hlt27)) ?_)))
          refine TO.quiet (q_lss rfl rfl) ?_
          refine TO.nil ?_
          refine T.condP rfl (fun hc => ?_) (fun hc => ?_)
          · have hlt64 : ((psat 18446744073709551615 a m s x + satN 18446744073709551615 a m (toN a s x)) % 18446744073709551616) < psat 18446744073709551615 a m s x := by omega
            have hov : ((psat 18446744073709551615 a m s x + satN 18446744073709551615 a m (toN a s x)) % 18446744073709551616) < psat 18446744073709551615 a m s x := by omega
            refine T.region ?_
            refine TO.quiet (q_assign rfl) ?_
            refine TO.nil (T.region ?_)
            refine TO.quiet (q_move rfl) (TO.quiet (q_move rfl) (TO.quiet (q_ix (i := n) Tryd.underlying64 inf62 rfl rfl (rowO (List.mem_of_getElem? (i := 1) rfl)) hlt14 (by rw [List.length_append, List.length_cons, List.length_map, List.length_replicate]; omega)) (TO.quiet (q_ld Tryd.underlying62 rfl rfl (rowO (List.mem_of_getElem? (i := 1) rfl)) (tget_at hul)) ?_)))
            refine TO.quiet (q_move rfl) (TO.quiet (q_move rfl) (TO.quiet (q_ix (i := s) Tryd.underlying62 inf26 rfl rfl (rowO (List.mem_of_getElem? (i := 0) rfl)) hlt27 (by rw [List.length_map, tabX_len]; omega)) ?_))
            refine TO.loud rfl (l_st (j := s) (v := .int .u64 18446744073709551615) (vs := [(.int .u64 18446744073709551615)]) (cs := uns (tabX a n s x)) 0 inf26 rfl rfl rfl rfl rfl (by simp) rfl (by rw [List.length_map, tabX_len]; simp; omega) ?_)
            refine TO.sub (O' := ([rowI (some ⟨z3, 0, none⟩) a.next.length 26 1 (uns ((tabX a n s x).set s 18446744073709551615)), rowI (some ⟨z2, 0, none⟩) 65 62 1 (uvals us ++ ((.slice (some ⟨z3, 0, none⟩) a.next.length a.next.length) :: List.replicate (65 - 1 - n) (.slice none 0 0))), oI z1 25 (dC a k)] ++ (uitms 26 us))) (by rw [show putL (uns (tabX a n s x)) s [(.int .u64 18446744073709551615)] = uns ((tabX a n s x).set s 18446744073709551615) from by simp [putL]]; exact Sub.of (List.Sublist.refl _)) ?_
            refine TO.nil (T.region ?_)
            refine TO.quiet (q_addN (a := x) (b := 1) rfl rfl (by omega)) (TO.quiet (q_move rfl) ?_)
            refine TO.nil ?_
            exact ⟨x + 1, by omega, by rw [tabX_set hm hlt27 (psat_hit hov).symm], by omega, ⟨rfl, rfl, rfl, rfl, rfl, rfl, rfl, rfl, rfl, rfl, rfl, rfl, rfl, rfl, rfl, rfl, rfl, trivial⟩⟩
          have hge64 : ¬ ((psat 18446744073709551615 a m s x + satN 18446744073709551615 a m (toN a s x)) % 18446744073709551616) < psat 18446744073709551615 a m s x := by omega
          have hov : ¬ ((psat 18446744073709551615 a m s x + satN 18446744073709551615 a m (toN a s x)) % 18446744073709551616) < psat 18446744073709551615 a m s x := by omega
          refine T.skip (T.region ?_)
          refine TO.quiet (q_move rfl) (TO.quiet (q_move rfl) (TO.quiet (q_ix (i := n) Tryd.underlying64 inf62 rfl rfl (rowO (List.mem_of_getElem? (i := 1) rfl)) hlt14 (by rw [List.length_append, List.length_cons, List.length_map, List.length_replicate]; omega)) (TO.quiet (q_ld Tryd.underlying62 rfl rfl (rowO (List.mem_of_getElem? (i := 1) rfl)) (tget_at hul)) ?_)))
          refine TO.quiet (q_move rfl) (TO.quiet (q_move rfl) (TO.quiet (q_ix (i := s) Tryd.underlying62 inf26 rfl rfl (rowO (List.mem_of_getElem? (i := 0) rfl)) hlt27 (by rw [List.length_map, tabX_len]; omega)) ?_))
          refine TO.loud rfl (l_st (j := s) (v := .int .u64 ((((psat 18446744073709551615 a m s x + satN 18446744073709551615 a m (toN a s x)) % 18446744073709551616) : Nat) : Int)) (vs := [(.int .u64 ((((psat 18446744073709551615 a m s x + satN 18446744073709551615 a m (toN a s x)) % 18446744073709551616) : Nat) : Int))]) (cs := uns (tabX a n s x)) 0 inf26 rfl rfl rfl rfl rfl (by simp) rfl (by rw [List.length_map, tabX_len]; simp; omega) ?_)
          refine TO.sub (O' := ([rowI (some ⟨z3, 0, none⟩) a.next.length 26 1 (uns ((tabX a n s x).set s ((psat 18446744073709551615 a m s x + satN 18446744073709551615 a m (toN a s x)) % 18446744073709551616))), rowI (some ⟨z2, 0, none⟩) 65 62 1 (uvals us ++ ((.slice (some ⟨z3, 0, none⟩) a.next.length a.next.length) :: List.replicate (65 - 1 - n) (.slice none 0 0))), oI z1 25 (dC a k)] ++ (uitms 26 us))) (by rw [show putL (uns (tabX a n s x)) s [(.int .u64 ((((psat 18446744073709551615 a m s x + satN 18446744073709551615 a m (toN a s x)) % 18446744073709551616) : Nat) : Int))] = uns ((tabX a n s x).set s ((psat 18446744073709551615 a m s x + satN 18446744073709551615 a m (toN a s x)) % 18446744073709551616)) from by simp [putL]]; exact Sub.of (List.Sublist.refl _)) ?_
          refine TO.nil (T.region ?_)
          refine TO.quiet (q_addN (a := x) (b := 1) rfl rfl (by omega)) (TO.quiet (q_move rfl) ?_)
          refine TO.nil ?_
          exact ⟨x + 1, by omega, by rw [tabX_set hm hlt27 (psat_miss hov).symm], by omega, ⟨rfl, rfl, rfl, rfl, rfl, rfl, rfl, rfl, rfl, rfl, rfl, rfl, rfl, rfl, rfl, rfl, rfl, trivial⟩⟩
        have hge37 : ¬ x < a.next[s].length := by omega
        refine T.exit ?_
        refine T.region ?_
        refine TO.quiet (q_addN (a := s) (b := 1) rfl rfl (by omega)) (TO.quiet (q_move rfl) ?_)
        refine TO.nil ?_
        exact ⟨s + 1, by omega, by rw [tabX_row hm (show x = letN a by omega)], by omega, ⟨rfl, rfl, rfl, rfl, rfl, rfl, rfl, rfl, rfl, rfl, rfl, trivial⟩⟩
      have hge31 : ¬ n > 0 := by omega
      have hn0 : n = 0 := by omega
      refine T.seq (T.region ?_)
      refine TO.quiet (q_fieldAddr Tryd.underlying25 rfl inf23 rfl rfl) (TO.quiet (q_load_box 2 Tryd.underlying23 rfl rfl rfl rfl) (TO.quiet (q_move rfl) (TO.quiet (q_ix (i := s) Tryd.underlying23 inf4 rfl rfl (Sl.o ha.final) (by omega) (by rw [List.length_map]; omega)) ?_)))
      refine TO.quiet (q_ld Tryd.underlying4 rfl rfl (Sl.o ha.final) (bools_get (by omega))) (TO.quiet (q_assign rfl) ?_)
      refine TO.nil ?_
      refine T.cond rfl (fun hc => ?_) (fun hc => ?_)
      · have hfn : finN a s = true := by rw [← hc]; simp [finN, show s < a.final.length by omega]
        refine T.region ?_
        refine TO.quiet (q_move rfl) (TO.quiet (q_move rfl) (TO.quiet (q_ix (i := n) Tryd.underlying64 inf62 rfl rfl (rowO (List.mem_of_getElem? (i := 1) rfl)) hlt14 (by rw [List.length_append, List.length_cons, List.length_map, List.length_replicate]; omega)) (TO.quiet (q_ld Tryd.underlying62 rfl rfl (rowO (List.mem_of_getElem? (i := 1) rfl)) (tget_at hul)) ?_)))
        refine TO.quiet (q_move rfl) (TO.quiet (q_ix (i := s) Tryd.underlying62 inf26 rfl rfl (rowO (List.mem_of_getElem? (i := 0) rfl)) hlt27 (by rw [List.length_map, tabX_len]; omega)) ?_)
        refine TO.loud rfl (l_st (j := s) (v := .int .u64 1) (vs := [(.int .u64 1)]) (cs := uns (tabX a n s 0)) 0 inf26 rfl rfl rfl rfl rfl (by simp) rfl (by rw [List.length_map, tabX_len]; simp; omega) ?_)
        refine TO.sub (O' := ([rowI (some ⟨z3, 0, none⟩) a.next.length 26 1 (uns ((tabX a n s 0).set s 1)), rowI (some ⟨z2, 0, none⟩) 65 62 1 (uvals us ++ ((.slice (some ⟨z3, 0, none⟩) a.next.length a.next.length) :: List.replicate (65 - 1 - n) (.slice none 0 0))), oI z1 25 (dC a k)] ++ (uitms 26 us))) (by rw [show putL (uns (tabX a n s 0)) s [(.int .u64 1)] = uns ((tabX a n s 0).set s 1) from by simp [putL]]; exact Sub.of (List.Sublist.refl _)) ?_
        refine TO.nil (T.region ?_)
        refine TO.quiet (q_addN (a := s) (b := 1) rfl rfl (by omega)) (TO.quiet (q_move rfl) ?_)
        refine TO.nil ?_
        exact ⟨s + 1, by omega, by rw [← tabX_yes hn0 hlt27 hfn], by omega, ⟨rfl, rfl, rfl, rfl, rfl, rfl, rfl, rfl, rfl, rfl, rfl, trivial⟩⟩
      have hfn : finN a s = false := by rw [← hc]; simp [finN, show s < a.final.length by omega]
      refine T.skip (T.region ?_)
      refine TO.quiet (q_addN (a := s) (b := 1) rfl rfl (by omega)) (TO.quiet (q_move rfl) ?_)
      refine TO.nil ?_
      exact ⟨s + 1, by omega, by rw [← tabX_no hn0 hfn], by omega, ⟨rfl, rfl, rfl, rfl, rfl, rfl, rfl, rfl, rfl, rfl, rfl, trivial⟩⟩
    have hge27 : ¬ s < a.next.length := by omega
    refine T.exit ?_
    have hse : s = a.next.length := by omega
    refine T.sub (O' := (([rowI (some ⟨z2, 0, none⟩) 65 62 1 (uvals us ++ ((.slice (some ⟨z3, 0, none⟩) a.next.length a.next.length) :: List.replicate (65 - 1 - n) (.slice none 0 0))), oI z1 25 (dC a k)] ++ [rowI (some ⟨z3, 0, none⟩) a.next.length 26 1 (uns (tabR a n))]) ++ uitms 26 us)) (by rw [← tabX_end hse]; exact Sub.pull [rowI (some ⟨z3, 0, none⟩) a.next.length 26 1 (uns (tabX a n s 0))] _ (.pull [rowI (some ⟨z3, 0, none⟩) a.next.length 26 1 (uns (tabX a n s 0))] _ (.k .rf))) ?_
    refine T.sub (O' := ([rowI (some ⟨z2, 0, none⟩) 65 62 1 (uvals (us ++ [⟨(some ⟨z3, 0, none⟩), a.next.length, tabR a n⟩]) ++ List.replicate (65 - 1 - n) (.slice none 0 0)), oI z1 25 (dC a k)] ++ uitms 26 (us ++ [⟨(some ⟨z3, 0, none⟩), a.next.length, tabR a n⟩]))) (by rw [show uvals (us ++ [⟨(some ⟨z3, 0, none⟩), a.next.length, tabR a n⟩]) = uvals us ++ [(.slice (some ⟨z3, 0, none⟩) a.next.length a.next.length)] by simp [URec.val, tabR_len], List.append_assoc]; exact Sub.foldN [rowI (some ⟨z2, 0, none⟩) 65 62 1 (uvals us ++ ((.slice (some ⟨z3, 0, none⟩) a.next.length a.next.length) :: List.replicate (65 - 1 - n) (.slice none 0 0))), oI z1 25 (dC a k)] (rowI (some ⟨z3, 0, none⟩) a.next.length 26 1 (uns (tabR a n))) (uitms 26 us) _ (uitms_snoc 26 us ⟨(some ⟨z3, 0, none⟩), a.next.length, tabR a n⟩)) ?_
    refine T.region ?_
    refine TO.quiet (q_addN (a := n) (b := 1) rfl rfl (by omega)) (TO.quiet (q_move rfl) ?_)
    refine TO.nil ?_
    exact ⟨n + 1, by omega, us ++ [⟨(some ⟨z3, 0, none⟩), a.next.length, tabR a n⟩], by rw [show 65 - (n + 1) = 65 - 1 - n by omega], by omega, by rw [List.map_append, hus, List.range_succ, List.map_append]; rfl, ⟨rfl, rfl, rfl, rfl, rfl, rfl, rfl, trivial⟩⟩
  have hge14 : ¬ n < 65 := by omega
  refine T.exit ?_
  refine T.seq (T.region ?_)
  refine TO.quiet (q_move rfl) (TO.quiet (q_assign rfl) ?_)
  refine TO.nil (T.ret (Res.drop ?_))
  refine Res.one (.slice (some ⟨z2, 0, none⟩) 65 65) Tryd.results42 rfl ?_
  obtain rfl : n = 65 := by omega
  exact ⟨([rowI (some ⟨z2, 0, none⟩) 65 62 1 (uvals us)] ++ uitms 26 us), (by rw [show uvals us ++ List.replicate (65 - 65) (.slice none 0 0) = uvals us by simp]; exact Sub.k (Sub.d Sub.rf)), (some ⟨z2, 0, none⟩), us, hus, rfl, rfl⟩
theorem tableC (w : World) [Tab Tryd.prog w] (a : DFA) (k : DK) (ha : At w a k) (hv : Valid a) :
    PureT Tryd.prog 42 [dV a k] w fun v N => ∃ tb us, TabOk a us ∧ v = .slice tb 65 65 ∧ N = [tabI 62 26 a tb us] :=
  CallT.packR (tableN w a k ha hv) fun v O' hR => by
    obtain ⟨tb, us, h1, h2, h3⟩ := hR
    exact ⟨TabOk a us, _, [], h1, by rw [h3]; simp, tb, us, h1, h2, rfl⟩
end Go.Proofs.YtnmfefmhfkhihaaDoor

