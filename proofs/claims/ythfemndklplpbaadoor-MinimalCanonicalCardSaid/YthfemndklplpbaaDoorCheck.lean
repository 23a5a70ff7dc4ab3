/- Contracts of functions of the program (Check): what each call answers and that it leaves memory as it was. Conditions: those each theorem names. -/
import Derived.Test.YthfemndklplpbaaDoorKit
import Derived.Test.YthfemndklplpbaaDoorCoreI
import Derived.Test.YthfemndklplpbaaDoorPlain
set_option linter.unusedSectionVars false
set_option linter.unusedSimpArgs false
set_option linter.unusedVariables false
set_option linter.unnecessarySimpa false
namespace Go.Proofs.YthfemndklplpbaaDoor
open Go.Lx Go.RowKit
set_option linter.unusedVariables false
set_option linter.unusedSimpArgs false

set_option maxHeartbeats 1000000 in
set_option maxRecDepth 20000 in
theorem varsF (w : World) (v : Int) : PureT Tryd.prog 36 [.int .i64 v] w fun x N => x = .bool (decide (0 ≤ v ∧ v ≤ 6)) ∧ N = [] := by
  refine CallT.enter Tryd.func36 rfl Tryd.ntmps36 rfl ?_
  refine T.seq ?_
  refine T.region ?_
  refine TO.quiet (q_assign rfl) ?_
  refine TO.nil ?_
  refine T.seq ?_
  refine T.region ?_
  refine TO.quiet (q_move rfl) ?_
  by_cases h4 : 0 ≤ v
  · refine TO.quiet (QT.toB (q_geq rfl rfl) (decide_eq_true h4)) ?_
    refine TO.quiet (q_move rfl) ?_
    refine TO.guarded rfl rfl rfl (LT.of_quiet rfl rfl (q_move rfl) ?_)
    by_cases h7 : v ≤ 6
    · refine TO.guarded rfl rfl rfl (LT.of_quiet rfl rfl (QT.toB (q_leq rfl rfl) (decide_eq_true h7)) ?_)
      refine TO.quiet (q_pick1 rfl rfl) ?_
      refine TO.quiet (q_assign rfl) ?_
      refine TO.nil ?_
      refine T.ret ?_
      refine Res.one (.bool true) Tryd.results36 rfl ?_
      exact ⟨by simp [h4, h7], rfl⟩
    · refine TO.guarded rfl rfl rfl (LT.of_quiet rfl rfl (QT.toB (q_leq rfl rfl) (decide_eq_false h7)) ?_)
      refine TO.quiet (q_pick1 rfl rfl) ?_
      refine TO.quiet (q_assign rfl) ?_
      refine TO.nil ?_
      refine T.ret ?_
      refine Res.one (.bool false) Tryd.results36 rfl ?_
      exact ⟨by simp [h4, h7], rfl⟩
  · refine TO.quiet (QT.toB (q_geq rfl rfl) (decide_eq_false h4)) ?_
    refine TO.quiet (q_move rfl) ?_
    refine TO.passed rfl rfl ?_
    refine TO.passed rfl rfl ?_
    refine TO.quiet (q_pick0 rfl rfl) ?_
    refine TO.quiet (q_assign rfl) ?_
    refine TO.nil ?_
    refine T.ret ?_
    refine Res.one (.bool false) Tryd.results36 rfl ?_
    exact ⟨by simp [h4], rfl⟩

set_option maxHeartbeats 1000000 in
set_option maxRecDepth 20000 in
theorem lettersF (w : World) (v : Int) (h0 : 0 ≤ v) (h6 : v ≤ 6) : PureT Tryd.prog 37 [.int .i64 v] w fun x N => x = .int .i64 ((2 ^ v.toNat : Nat) : Int) ∧ N = [] := by
  refine CallT.enter Tryd.func37 rfl Tryd.ntmps37 rfl ?_
  refine T.seq ?_
  refine T.region ?_
  refine TO.quiet (q_assign rfl) ?_
  refine TO.nil ?_
  refine T.seq ?_
  refine T.region ?_
  refine TO.quiet (q_move rfl) ?_
  refine TO.quiet (q_conv_id Tryd.underlying3 Tryd.underlying88 rfl (show IntKind.u64.wrap v = v by unfold IntKind.wrap; simp [IntKind.bits, IntKind.signed]; omega)) ?_
  refine TO.quiet (q_shl1 (v := v.toNat) rfl (by show Value.int _ v = _; rw [Int.toNat_of_nonneg h0]) (by omega)) ?_
  refine TO.quiet (q_assign rfl) ?_
  refine TO.nil ?_
  refine T.ret ?_
  refine Res.one (.int .i64 ((2 ^ v.toNat : Nat) : Int)) Tryd.results37 rfl ?_
  exact ⟨rfl, rfl⟩

set_option maxHeartbeats 1000000 in
set_option maxRecDepth 20000 in
theorem hasInt (w : World) (b : Option Addr) (c : Nat) (xs : List Int) (x : Int) (h : Sl w b (ints xs)) (hb : xs.length < 9223372036854775807) : PureT Tryd.prog 68 [.slice b xs.length c, .int .i64 x] w fun v N => v = .bool (decide (x ∈ xs)) ∧ N = [] := by
  refine CallT.enter Tryd.func68 rfl Tryd.ntmps68 rfl ?_
  refine T.seq ?_
  refine T.region ?_
  refine TO.quiet (q_assign rfl) ?_
  refine TO.nil ?_
  refine T.seq ?_
  refine T.seq ?_
  refine T.region ?_
  refine TO.quiet (q_assign rfl) ?_
  refine TO.nil ?_
  refine T.block ?_
  refine T.loop (fun (k : Nat) ρ O => O = [] ∧ k ≤ xs.length ∧ x ∉ xs.take k ∧ Heads [(0, (.slice b xs.length c)), (1, .int .i64 x), (5, .int .i64 (k : Int))] ρ) (fun k => xs.length - k) 0 ?_ ?_
  · exact ⟨rfl, Nat.zero_le _, by simp, ⟨rfl, rfl, rfl, trivial⟩⟩
  · rintro k ρ O ⟨rfl, hk, hm, hH⟩
    obtain ⟨ρ0, rfl⟩ := hH.elim
    clear hH
    refine T.seq ?_
    refine T.seq ?_
    refine T.region ?_
    refine TO.quiet (q_move rfl) ?_
    refine TO.quiet (q_move rfl) ?_
    refine TO.quiet (q_len Tryd.underlying33 rfl) ?_
    refine TO.quiet (q_lss rfl rfl) ?_
    refine TO.nil ?_
    refine T.condP rfl (fun hc => ?_) (fun hc => ?_)
    · have hlt9 : k < xs.length := by omega
      refine T.skip ?_
      refine T.seq ?_
      refine T.block ?_
      refine T.seq ?_
      refine T.region ?_
      refine TO.quiet (q_move rfl) ?_
      refine TO.quiet (q_move rfl) ?_
      refine TO.quiet (q_ix (i := k) Tryd.underlying33 inf3 rfl rfl (Sl.o h) (by first | assumption | omega | (simp; omega) | simp_all) (by first | omega | (simp; done) | (simp; omega) | (simp_all; done) | (simp_all; omega))) ?_
      refine TO.quiet (q_ld Tryd.underlying3 rfl rfl (Sl.o h) (ints_get (by first | assumption | omega | (simp; omega) | simp_all))) ?_
      refine TO.quiet (q_move rfl) ?_
      refine TO.quiet (q_eql rfl rfl) ?_
      refine TO.nil ?_
      refine T.condP rfl (fun hc => ?_) (fun hc => ?_)
      · refine T.seq ?_
        refine T.region ?_
        refine TO.quiet (q_assign rfl) ?_
        refine TO.nil ?_
        refine T.ret ?_
        refine Res.one (.bool true) Tryd.results68 rfl ?_
        exact ⟨congrArg Value.bool (decide_eq_true (by rw [← hc]; exact List.getElem_mem _)).symm, rfl⟩
      · refine T.skip ?_
        refine T.region ?_
        refine TO.quiet (q_move rfl) ?_
        refine TO.quiet (q_inc rfl rfl (by omega)) ?_
        refine TO.quiet (q_assign rfl) ?_
        refine TO.nil ?_
        refine ⟨k + 1, by omega, rfl, by omega, ?_, ⟨rfl, rfl, rfl, trivial⟩⟩
        rw [List.take_succ_eq_append_getElem hlt9]
        simp only [List.mem_append, List.mem_singleton, not_or]
        exact ⟨hm, fun e => hc e.symm⟩
    · have hge9 : ¬ k < xs.length := by omega
      refine T.exit ?_
      refine T.seq ?_
      refine T.region ?_
      refine TO.quiet (q_assign rfl) ?_
      refine TO.nil ?_
      refine T.ret ?_
      refine Res.one (.bool false) Tryd.results68 rfl ?_
      exact ⟨congrArg Value.bool (decide_eq_false (by rwa [List.take_of_length_le (by omega)] at hm)).symm, rfl⟩

set_option maxHeartbeats 1000000 in
set_option maxRecDepth 20000 in
theorem refCheck (w : World) (d : DFA) (nb fb : Option Addr) (nc fc : Nat) (vs : List Value) (h : DfaAt w d nb vs fb) (hb : d.next.length < 9223372036854775807) (hbr : ∀ r ∈ d.next, r.length < 9223372036854775807) (hbf : d.final.length < 9223372036854775807) :
    PureT Tryd.prog 11 [.agg (dfaCells d nb nc fb fc).toArray] w fun v N => v = .int .i64 (checkD d : Int) ∧ N = [] := by
  refine CallT.enter Tryd.func11 rfl Tryd.ntmps11 rfl ?_
  have hvl := h.rows.1
  refine T.seq ?_
  refine T.region ?_
  refine TO.loud rfl (l_box (v := (.agg #[(.int .i64 d.vars), (.int .i64 d.start), (.slice nb d.next.length nc), (.slice fb d.final.length fc)])) (cs := [(.int .i64 d.vars), (.int .i64 d.start), (.slice nb d.next.length nc), (.slice fb d.final.length fc)]) rfl rfl (fun b1 => ?_))
  refine TO.quiet (q_assign rfl) ?_
  refine TO.nil ?_
  refine T.seq ?_
  refine T.region ?_
  refine TO.quiet (q_fieldAddr Tryd.underlying25 rfl inf22 rfl rfl) ?_
  refine TO.quiet (q_load_box 0 Tryd.underlying22 rfl rfl rfl rfl) ?_
  refine TO.quiet (q_len Tryd.underlying22 rfl) ?_
  refine TO.quiet (q_assign rfl) ?_
  refine TO.nil ?_
  refine T.seq ?_
  refine T.seq ?_
  refine T.region ?_
  refine TO.quiet (q_fieldAddr Tryd.underlying25 rfl inf3 rfl rfl) ?_
  refine TO.quiet (q_load_box 0 Tryd.underlying3 rfl rfl rfl rfl) ?_
  by_cases hv : 0 ≤ d.vars ∧ d.vars ≤ 6
  · have hk11 := fun (w1 : World) (hI : Inv w [objI b1 (.cells [(.int .i64 d.vars), (.int .i64 d.start), (.slice nb d.next.length nc), (.slice fb d.final.length fc)].toArray 25 (0, 0))] w1) => varsF w1 d.vars
    refine TO.loud rfl (l_call ent36 (CallT.of_pure hk11) rfl ?_)
    clear hk11
    rintro v O' ⟨N, rfl, rfl, rfl⟩
    rw [decide_eq_true hv]
    refine TO.quiet (q_not rfl) ?_
    refine TO.nil ?_
    refine T.cond0 rfl ?_
    refine T.skip ?_
    refine T.seq ?_
    refine T.seq ?_
    refine T.region ?_
    refine TO.quiet (q_move rfl) ?_
    refine TO.quiet (q_eql rfl rfl) ?_
    refine TO.nil ?_
    refine T.condP rfl (fun hc => ?_) (fun hc => ?_)
    · have hlt14 : d.next.length = 0 := by omega
      refine T.seq ?_
      refine T.region ?_
      refine TO.quiet (q_assign rfl) ?_
      refine TO.nil ?_
      refine T.ret ?_
      refine Res.drop ?_
      refine Res.one (.int .i64 3) Tryd.results11 rfl ?_
      refine ⟨[], Sub.of (List.nil_sublist _), congrArg (fun z : Nat => Value.int .i64 (z : Int)) (show 3 = checkD d from Eq.symm ?_), rfl⟩
      unfold checkD
      rw [if_neg (by simp; exact hv), if_pos hlt14]
    · have hge14 : ¬ d.next.length = 0 := by omega
      refine T.skip ?_
      refine T.seq ?_
      refine T.seq ?_
      refine T.region ?_
      refine TO.quiet (q_move rfl) ?_
      refine TO.quiet (q_gtr rfl rfl) ?_
      refine TO.nil ?_
      refine T.condP rfl (fun hc => ?_) (fun hc => ?_)
      · have hlt16 : d.next.length > 4096 := by omega
        refine T.seq ?_
        refine T.region ?_
        refine TO.quiet (q_assign rfl) ?_
        refine TO.nil ?_
        refine T.ret ?_
        refine Res.drop ?_
        refine Res.one (.int .i64 4) Tryd.results11 rfl ?_
        refine ⟨[], Sub.of (List.nil_sublist _), congrArg (fun z : Nat => Value.int .i64 (z : Int)) (show 4 = checkD d from Eq.symm ?_), rfl⟩
        unfold checkD
        rw [if_neg (by simp; exact hv), if_neg hge14, if_pos hlt16]
      · have hge16 : ¬ d.next.length > 4096 := by omega
        refine T.skip ?_
        refine T.seq ?_
        refine T.seq ?_
        refine T.region ?_
        refine TO.quiet (q_fieldAddr Tryd.underlying25 rfl inf23 rfl rfl) ?_
        refine TO.quiet (q_load_box 0 Tryd.underlying23 rfl rfl rfl rfl) ?_
        refine TO.quiet (q_len Tryd.underlying23 rfl) ?_
        refine TO.quiet (q_move rfl) ?_
        refine TO.quiet (q_neq rfl rfl) ?_
        refine TO.nil ?_
        refine T.condP rfl (fun hc => ?_) (fun hc => ?_)
        · have hlt21 : d.final.length ≠ d.next.length := by omega
          refine T.seq ?_
          refine T.region ?_
          refine TO.quiet (q_assign rfl) ?_
          refine TO.nil ?_
          refine T.ret ?_
          refine Res.drop ?_
          refine Res.one (.int .i64 2) Tryd.results11 rfl ?_
          refine ⟨[], Sub.of (List.nil_sublist _), congrArg (fun z : Nat => Value.int .i64 (z : Int)) (show 2 = checkD d from Eq.symm ?_), rfl⟩
          unfold checkD
          rw [if_neg (by simp; exact hv), if_neg hge14, if_neg hge16, if_pos hlt21]
        · have hge21 : ¬ d.final.length ≠ d.next.length := by omega
          refine T.skip ?_
          refine T.seq ?_
          refine T.seq ?_
          refine T.region ?_
          refine TO.quiet (q_fieldAddr Tryd.underlying25 rfl inf3 rfl rfl) ?_
          refine TO.quiet (q_load_box 0 Tryd.underlying3 rfl rfl rfl rfl) ?_
          by_cases hs0 : d.start < 0
          · refine TO.quiet (QT.toB (q_lss rfl rfl) (decide_eq_true hs0)) ?_
            refine TO.quiet (q_move rfl) ?_
            refine TO.passed rfl rfl ?_
            refine TO.passed rfl rfl ?_
            refine TO.passed rfl rfl ?_
            refine TO.passed rfl rfl ?_
            refine TO.quiet (q_pick1 rfl rfl) ?_
            refine TO.nil ?_
            refine T.cond1 rfl ?_
            refine T.seq ?_
            refine T.region ?_
            refine TO.quiet (q_assign rfl) ?_
            refine TO.nil ?_
            refine T.ret ?_
            refine Res.drop ?_
            refine Res.one (.int .i64 8) Tryd.results11 rfl ?_
            refine ⟨[], Sub.of (List.nil_sublist _), congrArg (fun z : Nat => Value.int .i64 (z : Int)) (show 8 = checkD d from Eq.symm ?_), rfl⟩
            unfold checkD
            rw [if_neg (by simp; exact hv), if_neg hge14, if_neg hge16, if_neg (by simpa using hge21), if_pos (.inl hs0)]
          · refine TO.quiet (QT.toB (q_lss rfl rfl) (decide_eq_false hs0)) ?_
            refine TO.quiet (q_move rfl) ?_
            refine TO.guarded rfl rfl rfl (LT.of_quiet rfl rfl (q_fieldAddr Tryd.underlying25 rfl inf3 rfl rfl) ?_)
            refine TO.guarded rfl rfl rfl (LT.of_quiet rfl rfl (q_load_box 0 Tryd.underlying3 rfl rfl rfl rfl) ?_)
            refine TO.guarded rfl rfl rfl (LT.of_quiet rfl rfl (q_move rfl) ?_)
            by_cases hs1 : (d.next.length : Int) ≤ d.start
            · refine TO.guarded rfl rfl rfl (LT.of_quiet rfl rfl (QT.toB (q_geq rfl rfl) (decide_eq_true hs1)) ?_)
              refine TO.quiet (q_pick0 rfl rfl) ?_
              refine TO.nil ?_
              refine T.cond1 rfl ?_
              refine T.seq ?_
              refine T.region ?_
              refine TO.quiet (q_assign rfl) ?_
              refine TO.nil ?_
              refine T.ret ?_
              refine Res.drop ?_
              refine Res.one (.int .i64 8) Tryd.results11 rfl ?_
              refine ⟨[], Sub.of (List.nil_sublist _), congrArg (fun z : Nat => Value.int .i64 (z : Int)) (show 8 = checkD d from Eq.symm ?_), rfl⟩
              unfold checkD
              rw [if_neg (by simp; exact hv), if_neg hge14, if_neg hge16, if_neg (by simpa using hge21), if_pos (.inr hs1)]
            · refine TO.guarded rfl rfl rfl (LT.of_quiet rfl rfl (QT.toB (q_geq rfl rfl) (decide_eq_false hs1)) ?_)
              refine TO.quiet (q_pick0 rfl rfl) ?_
              refine TO.nil ?_
              refine T.cond0 rfl ?_
              refine T.skip ?_
              refine T.seq ?_
              refine T.seq ?_
              refine T.region ?_
              refine TO.quiet (q_assign rfl) ?_
              refine TO.nil ?_
              refine T.block ?_
              refine T.loop (fun (k : Nat) ρ O => O = [objI b1 (.cells [(.int .i64 d.vars), (.int .i64 d.start), (.slice nb d.next.length nc), (.slice fb d.final.length fc)].toArray 25 (0, 0))] ∧ k ≤ d.next.length ∧ rowsE (2 ^ d.vars.toNat) d.next.length (d.next.drop k) = checkD d ∧ Heads [(0, (.agg #[(.int .i64 d.vars), (.int .i64 d.start), (.slice nb d.next.length nc), (.slice fb d.final.length fc)])), (1, (.pointer (some ⟨b1, 0, none⟩))), (3, .int .i64 (d.next.length : Int)), (4, .int .i64 (k : Int))] ρ) (fun k => d.next.length - k) 0 ?_ ?_
              · refine ⟨rfl, Nat.zero_le _, ?_, ⟨rfl, rfl, rfl, rfl, trivial⟩⟩
                unfold checkD
                rw [if_neg (by simp; exact hv), if_neg hge14, if_neg hge16, if_neg (by simp; omega), if_neg (by omega)]; rfl
              · rintro k ρ O ⟨rfl, hk, hr, hH⟩
                obtain ⟨ρ0, rfl⟩ := hH.elim
                clear hH
                refine T.seq ?_
                refine T.seq ?_
                refine T.region ?_
                refine TO.quiet (q_move rfl) ?_
                refine TO.quiet (q_move rfl) ?_
                refine TO.quiet (q_lss rfl rfl) ?_
                refine TO.nil ?_
                refine T.condP rfl (fun hc => ?_) (fun hc => ?_)
                · have hlt33 : k < d.next.length := by omega
                  obtain ⟨vb1, vc1, g1, s1⟩ := h.rows.get hlt33
                  have hrl := hbr _ (List.getElem_mem hlt33)
                  refine T.skip ?_
                  refine T.seq ?_
                  refine T.block ?_
                  refine T.seq ?_
                  refine T.seq ?_
                  refine T.draws _ [(0, 0), (1, 0), (2, 0), (3, 0), (4, 0), (5, 0), (6, 0), (7, 0), (8, 1), (9, 0)] mixed (by kernel_rfl) (Sub.of (List.Sublist.refl _)) (fun _ _ _ h => h) ?_
                  refine DO.quiet rfl (q_fieldAddr Tryd.underlying25 rfl inf22 rfl rfl) ?_
                  refine DO.quiet rfl (q_load_box 0 Tryd.underlying22 rfl rfl rfl rfl) ?_
                  refine DO.quiet rfl (q_move rfl) ?_
                  refine DO.quiet rfl (q_ix (i := k) Tryd.underlying22 inf33 rfl rfl (Sl.o h.outer) (by first | assumption | omega | (simp; omega) | simp_all) (by first | omega | (simp; done) | (simp; omega) | (simp_all; done) | (simp_all; omega))) ?_
                  refine DO.quiet rfl (q_ld Tryd.underlying33 rfl rfl (Sl.o h.outer) g1) ?_
                  refine DO.quiet rfl (q_len Tryd.underlying33 rfl) ?_
                  refine DO.quiet rfl (q_fieldAddr Tryd.underlying25 rfl inf3 rfl rfl) ?_
                  refine DO.quiet rfl (q_load_box 0 Tryd.underlying3 rfl rfl rfl rfl) ?_
                  have hk44 := fun (w1 : World) (hI : Inv w [objI b1 (.cells [(.int .i64 d.vars), (.int .i64 d.start), (.slice nb d.next.length nc), (.slice fb d.final.length fc)].toArray 25 (0, 0))] w1) => lettersF w1 d.vars hv.1 hv.2
                  refine DO.loud rfl rfl (l_call ent37 (CallT.of_pure hk44) rfl ?_)
                  clear hk44
                  rintro v O' ⟨N, rfl, rfl, rfl⟩
                  refine ⟨Sub.cnt [] (by intro a; simp only [List.set_cons_zero, List.set_cons_succ, putL, List.cons_append, List.nil_append, List.append_nil, List.append_assoc, List.map_append, List.map_cons, List.map_nil, cnt_append, cnt_cons, cnt_nil] <;> omega), ?_⟩
                  refine DO.quiet rfl (q_neq rfl rfl) ?_
                  refine DO.done ?_
                  refine T.condP rfl (fun hc => ?_) (fun hc => ?_)
                  · have hlt45 : d.next[k].length ≠ 2 ^ d.vars.toNat := by omega
                    refine T.seq ?_
                    refine T.region ?_
                    refine TO.quiet (q_assign rfl) ?_
                    refine TO.nil ?_
                    refine T.ret ?_
                    refine Res.drop ?_
                    refine Res.one (.int .i64 2) Tryd.results11 rfl ?_
                    refine ⟨[], Sub.of (List.nil_sublist _), congrArg (fun z : Nat => Value.int .i64 (z : Int)) (show 2 = checkD d from Eq.symm ?_), rfl⟩
                    rw [← hr, rowsE_at hlt33, if_pos hlt45]
                  · have hge45 : ¬ d.next[k].length ≠ 2 ^ d.vars.toNat := by omega
                    refine T.skip ?_
                    refine T.seq ?_
                    refine T.region ?_
                    refine TO.quiet (q_assign rfl) ?_
                    refine TO.nil ?_
                    refine T.block ?_
                    refine T.loop (fun (j : Nat) ρ O => O = [objI b1 (.cells [(.int .i64 d.vars), (.int .i64 d.start), (.slice nb d.next.length nc), (.slice fb d.final.length fc)].toArray 25 (0, 0))] ∧ j ≤ d.next[k].length ∧ rowOk d.next.length (d.next[k].take j) = true ∧ Heads [(0, (.agg #[(.int .i64 d.vars), (.int .i64 d.start), (.slice nb d.next.length nc), (.slice fb d.final.length fc)])), (1, (.pointer (some ⟨b1, 0, none⟩))), (3, .int .i64 (d.next.length : Int)), (4, .int .i64 (k : Int)), (5, .int .i64 (j : Int))] ρ) (fun j => d.next[k].length - j) 0 ?_ ?_
                    · exact ⟨rfl, Nat.zero_le _, rfl, ⟨rfl, rfl, rfl, rfl, rfl, trivial⟩⟩
                    · rintro j ρ O ⟨rfl, hj, hok, hH⟩
                      obtain ⟨ρ0, rfl⟩ := hH.elim
                      clear hH
                      refine T.seq ?_
                      refine T.seq ?_
                      refine T.region ?_
                      refine TO.quiet (q_move rfl) ?_
                      refine TO.quiet (q_fieldAddr Tryd.underlying25 rfl inf22 rfl rfl) ?_
                      refine TO.quiet (q_load_box 0 Tryd.underlying22 rfl rfl rfl rfl) ?_
                      refine TO.quiet (q_move rfl) ?_
                      refine TO.quiet (q_ix (i := k) Tryd.underlying22 inf33 rfl rfl (Sl.o h.outer) (by first | assumption | omega | (simp; omega) | simp_all) (by first | omega | (simp; done) | (simp; omega) | (simp_all; done) | (simp_all; omega))) ?_
                      refine TO.quiet (q_ld Tryd.underlying33 rfl rfl (Sl.o h.outer) g1) ?_
                      refine TO.quiet (q_len Tryd.underlying33 rfl) ?_
                      refine TO.quiet (q_lss rfl rfl) ?_
                      refine TO.nil ?_
                      refine T.condP rfl (fun hc => ?_) (fun hc => ?_)
                      · have hlt53 : j < d.next[k].length := by omega
                        refine T.skip ?_
                        refine T.seq ?_
                        refine T.block ?_
                        refine T.seq ?_
                        refine T.region ?_
                        refine TO.quiet (q_fieldAddr Tryd.underlying25 rfl inf22 rfl rfl) ?_
                        refine TO.quiet (q_load_box 0 Tryd.underlying22 rfl rfl rfl rfl) ?_
                        refine TO.quiet (q_move rfl) ?_
                        refine TO.quiet (q_ix (i := k) Tryd.underlying22 inf33 rfl rfl (Sl.o h.outer) (by first | assumption | omega | (simp; omega) | simp_all) (by first | omega | (simp; done) | (simp; omega) | (simp_all; done) | (simp_all; omega))) ?_
                        refine TO.quiet (q_ld Tryd.underlying33 rfl rfl (Sl.o h.outer) g1) ?_
                        refine TO.quiet (q_move rfl) ?_
                        refine TO.quiet (q_ix (i := j) Tryd.underlying33 inf3 rfl rfl (Sl.o s1) (by first | assumption | omega | (simp; omega) | simp_all) (by first | omega | (simp; done) | (simp; omega) | (simp_all; done) | (simp_all; omega))) ?_
                        refine TO.quiet (q_ld Tryd.underlying3 rfl rfl (Sl.o s1) (ints_get (by first | assumption | omega | (simp; omega) | simp_all))) ?_
                        by_cases he0 : d.next[k][j] < 0
                        · refine TO.quiet (QT.toB (q_lss rfl rfl) (decide_eq_true he0)) ?_
                          refine TO.quiet (q_move rfl) ?_
                          refine TO.passed rfl rfl ?_
                          refine TO.passed rfl rfl ?_
                          refine TO.passed rfl rfl ?_
                          refine TO.passed rfl rfl ?_
                          refine TO.passed rfl rfl ?_
                          refine TO.passed rfl rfl ?_
                          refine TO.passed rfl rfl ?_
                          refine TO.passed rfl rfl ?_
                          refine TO.passed rfl rfl ?_
                          refine TO.passed rfl rfl ?_
                          refine TO.quiet (q_pick1 rfl rfl) ?_
                          refine TO.nil ?_
                          refine T.cond1 rfl ?_
                          refine T.seq ?_
                          refine T.region ?_
                          refine TO.quiet (q_assign rfl) ?_
                          refine TO.nil ?_
                          refine T.ret ?_
                          refine Res.drop ?_
                          refine Res.one (.int .i64 8) Tryd.results11 rfl ?_
                          refine ⟨[], Sub.of (List.nil_sublist _), congrArg (fun z : Nat => Value.int .i64 (z : Int)) (show 8 = checkD d from Eq.symm ?_), rfl⟩
                          rw [← hr, rowsE_at hlt33, if_neg (by simpa using hge45), if_neg (rowOk_bad hlt53 (.inl he0))]
                        · refine TO.quiet (QT.toB (q_lss rfl rfl) (decide_eq_false he0)) ?_
                          refine TO.quiet (q_move rfl) ?_
                          refine TO.guarded rfl rfl rfl (LT.of_quiet rfl rfl (q_fieldAddr Tryd.underlying25 rfl inf22 rfl rfl) ?_)
                          refine TO.guarded rfl rfl rfl (LT.of_quiet rfl rfl (q_load_box 0 Tryd.underlying22 rfl rfl rfl rfl) ?_)
                          refine TO.guarded rfl rfl rfl (LT.of_quiet rfl rfl (q_move rfl) ?_)
                          refine TO.guarded rfl rfl rfl (LT.of_quiet rfl rfl (q_ix (i := k) Tryd.underlying22 inf33 rfl rfl (Sl.o h.outer) (by first | assumption | omega | (simp; omega) | simp_all) (by first | omega | (simp; done) | (simp; omega) | (simp_all; done) | (simp_all; omega))) ?_)
                          refine TO.guarded rfl rfl rfl (LT.of_quiet rfl rfl (q_ld Tryd.underlying33 rfl rfl (Sl.o h.outer) g1) ?_)
                          refine TO.guarded rfl rfl rfl (LT.of_quiet rfl rfl (q_move rfl) ?_)
                          refine TO.guarded rfl rfl rfl (LT.of_quiet rfl rfl (q_ix (i := j) Tryd.underlying33 inf3 rfl rfl (Sl.o s1) (by first | assumption | omega | (simp; omega) | simp_all) (by first | omega | (simp; done) | (simp; omega) | (simp_all; done) | (simp_all; omega))) ?_)
                          refine TO.guarded rfl rfl rfl (LT.of_quiet rfl rfl (q_ld Tryd.underlying3 rfl rfl (Sl.o s1) (ints_get (by first | assumption | omega | (simp; omega) | simp_all))) ?_)
                          refine TO.guarded rfl rfl rfl (LT.of_quiet rfl rfl (q_move rfl) ?_)
                          by_cases he1 : (d.next.length : Int) ≤ d.next[k][j]
                          · refine TO.guarded rfl rfl rfl (LT.of_quiet rfl rfl (QT.toB (q_geq rfl rfl) (decide_eq_true he1)) ?_)
                            refine TO.quiet (q_pick0 rfl rfl) ?_
                            refine TO.nil ?_
                            refine T.cond1 rfl ?_
                            refine T.seq ?_
                            refine T.region ?_
                            refine TO.quiet (q_assign rfl) ?_
                            refine TO.nil ?_
                            refine T.ret ?_
                            refine Res.drop ?_
                            refine Res.one (.int .i64 8) Tryd.results11 rfl ?_
                            refine ⟨[], Sub.of (List.nil_sublist _), congrArg (fun z : Nat => Value.int .i64 (z : Int)) (show 8 = checkD d from Eq.symm ?_), rfl⟩
                            rw [← hr, rowsE_at hlt33, if_neg (by simpa using hge45), if_neg (rowOk_bad hlt53 (.inr he1))]
                          · refine TO.guarded rfl rfl rfl (LT.of_quiet rfl rfl (QT.toB (q_geq rfl rfl) (decide_eq_false he1)) ?_)
                            refine TO.quiet (q_pick0 rfl rfl) ?_
                            refine TO.nil ?_
                            refine T.cond0 rfl ?_
                            refine T.skip ?_
                            refine T.region ?_
                            refine TO.quiet (q_move rfl) ?_
                            refine TO.quiet (q_inc rfl rfl (by omega)) ?_
                            refine TO.quiet (q_assign rfl) ?_
                            refine TO.nil ?_
                            exact ⟨j + 1, by omega, rfl, by omega, rowOk_step hlt53 hok he0 he1, ⟨rfl, rfl, rfl, rfl, rfl, trivial⟩⟩
                      · have hge53 : ¬ j < d.next[k].length := by omega
                        refine T.exit ?_
                        refine T.region ?_
                        refine TO.quiet (q_move rfl) ?_
                        refine TO.quiet (q_inc rfl rfl (by omega)) ?_
                        refine TO.quiet (q_assign rfl) ?_
                        refine TO.nil ?_
                        refine ⟨k + 1, by omega, rfl, by omega, ?_, ⟨rfl, rfl, rfl, rfl, trivial⟩⟩
                        rw [← hr, rowsE_at hlt33, if_neg (by simpa using hge45), if_pos (rowOk_full (by omega) hok)]
                · have hge33 : ¬ k < d.next.length := by omega
                  refine T.exit ?_
                  refine T.seq ?_
                  refine T.region ?_
                  refine TO.quiet (q_assign rfl) ?_
                  refine TO.nil ?_
                  refine T.ret ?_
                  refine Res.drop ?_
                  refine Res.one (.int .i64 0) Tryd.results11 rfl ?_
                  refine ⟨[], Sub.of (List.nil_sublist _), congrArg (fun z : Nat => Value.int .i64 (z : Int)) (show 0 = checkD d from Eq.symm ?_), rfl⟩
                  rw [← hr, rowsE_end (by omega)]
  · have hk11 := fun (w1 : World) (hI : Inv w [objI b1 (.cells [(.int .i64 d.vars), (.int .i64 d.start), (.slice nb d.next.length nc), (.slice fb d.final.length fc)].toArray 25 (0, 0))] w1) => varsF w1 d.vars
    refine TO.loud rfl (l_call ent36 (CallT.of_pure hk11) rfl ?_)
    clear hk11
    rintro v O' ⟨N, rfl, rfl, rfl⟩
    rw [decide_eq_false hv]
    refine TO.quiet (q_not rfl) ?_
    refine TO.nil ?_
    refine T.cond1 rfl ?_
    refine T.seq ?_
    refine T.region ?_
    refine TO.quiet (q_assign rfl) ?_
    refine TO.nil ?_
    refine T.ret ?_
    refine Res.drop ?_
    refine Res.one (.int .i64 7) Tryd.results11 rfl ?_
    refine ⟨[], Sub.of (List.nil_sublist _), congrArg (fun z : Nat => Value.int .i64 (z : Int)) (show 7 = checkD d from Eq.symm ?_), rfl⟩
    unfold checkD
    rw [if_pos hv]

set_option maxHeartbeats 1000000 in
set_option maxRecDepth 20000 in
theorem slicesMin (w : World) (b : Option Addr) (c : Nat) (xs : List Int) (h : Sl w b (ints xs)) (h0 : 0 < xs.length) (hb : xs.length < 9223372036854775807) : PureT Tryd.prog 50 [.slice b xs.length c] w fun v N => (∃ m, v = .int .i64 m ∧ m ∈ xs ∧ ∀ x ∈ xs, m ≤ x) ∧ N = [] := by
  refine CallT.enter Tryd.func50 rfl Tryd.ntmps50 rfl ?_
  refine T.seq ?_
  refine T.region ?_
  refine TO.quiet (q_assign rfl) ?_
  refine TO.nil ?_
  refine T.seq ?_
  refine T.seq ?_
  refine T.region ?_
  refine TO.quiet (q_move rfl) ?_
  refine TO.quiet (q_len Tryd.underlying33 rfl) ?_
  refine TO.quiet (q_lss rfl rfl) ?_
  refine TO.nil ?_
  refine T.condP rfl (fun hc => ?_) (fun hc => ?_)
  · exact absurd hc (by omega)
  · have hge7 : ¬ xs.length < 1 := by omega
    refine T.skip ?_
    refine T.seq ?_
    refine T.region ?_
    refine TO.quiet (q_move rfl) ?_
    refine TO.quiet (q_ix (i := 0) Tryd.underlying33 inf3 rfl rfl (Sl.o h) (by first | assumption | omega | (simp; omega) | simp_all) (by first | omega | (simp; done) | (simp; omega) | (simp_all; done) | (simp_all; omega))) ?_
    refine TO.quiet (q_ld Tryd.underlying3 rfl rfl (Sl.o h) (ints_get (by first | assumption | omega | (simp; omega) | simp_all))) ?_
    refine TO.quiet (q_assign rfl) ?_
    refine TO.nil ?_
    refine T.seq ?_
    refine T.seq ?_
    refine T.region ?_
    refine TO.quiet (q_assign rfl) ?_
    refine TO.nil ?_
    refine T.block ?_
    refine T.loop (fun (k : Nat) ρ O => ∃ (m : Int), O = [] ∧ 1 ≤ k ∧ k ≤ xs.length ∧ m ∈ xs.take k ∧ (∀ x ∈ xs.take k, m ≤ x) ∧ Heads [(0, (.slice b xs.length c)), (2, .int .i64 0), (3, .int .i64 m), (4, .int .i64 (k : Int))] ρ) (fun k => xs.length - k) 1 ?_ ?_
    · refine ⟨xs[0], rfl, Nat.le_refl _, h0, ?_, ?_, ⟨rfl, rfl, rfl, rfl, trivial⟩⟩
      · show xs[0] ∈ xs.take (0 + 1)
        rw [List.take_succ_eq_append_getElem h0]; simp
      · show ∀ x ∈ xs.take (0 + 1), _
        rw [List.take_succ_eq_append_getElem h0]; simp
    · rintro k ρ O ⟨m, rfl, hk1, hk, hm, hall, hH⟩
      obtain ⟨ρ0, rfl⟩ := hH.elim
      clear hH
      refine T.seq ?_
      refine T.seq ?_
      refine T.region ?_
      refine TO.quiet (q_move rfl) ?_
      refine TO.quiet (q_move rfl) ?_
      refine TO.quiet (q_len Tryd.underlying33 rfl) ?_
      refine TO.quiet (q_lss rfl rfl) ?_
      refine TO.nil ?_
      refine T.condP rfl (fun hc => ?_) (fun hc => ?_)
      · have hlt15 : k < xs.length := by omega
        refine T.skip ?_
        refine T.seq ?_
        refine T.block ?_
        refine T.region ?_
        refine TO.quiet (q_move rfl) ?_
        refine TO.quiet (q_move rfl) ?_
        refine TO.quiet (q_move rfl) ?_
        refine TO.quiet (q_ix (i := k) Tryd.underlying33 inf3 rfl rfl (Sl.o h) (by first | assumption | omega | (simp; omega) | simp_all) (by first | omega | (simp; done) | (simp; omega) | (simp_all; done) | (simp_all; omega))) ?_
        refine TO.quiet (q_ld Tryd.underlying3 rfl rfl (Sl.o h) (ints_get (by first | assumption | omega | (simp; omega) | simp_all))) ?_
        refine TO.quiet (q_min rfl rfl) ?_
        refine TO.quiet (q_assign rfl) ?_
        refine TO.nil ?_
        refine T.region ?_
        refine TO.quiet (q_move rfl) ?_
        refine TO.quiet (q_inc rfl rfl (by omega)) ?_
        refine TO.quiet (q_assign rfl) ?_
        refine TO.nil ?_
        refine ⟨k + 1, by omega, if xs[k] < m then xs[k] else m, rfl, by omega, by omega, ?_, ?_, ⟨rfl, rfl, rfl, rfl, trivial⟩⟩
        · rw [List.take_succ_eq_append_getElem hlt15]; split
          · exact List.mem_append_right _ (List.mem_singleton.2 rfl)
          · exact List.mem_append_left _ hm
        · rw [List.take_succ_eq_append_getElem hlt15]
          intro x hx
          rcases List.mem_append.1 hx with hx | hx
          · have := hall x hx; split <;> omega
          · rw [List.mem_singleton] at hx; subst hx; split <;> omega
      · have hge15 : ¬ k < xs.length := by omega
        refine T.exit ?_
        refine T.seq ?_
        refine T.region ?_
        refine TO.quiet (q_move rfl) ?_
        refine TO.quiet (q_assign rfl) ?_
        refine TO.nil ?_
        refine T.ret ?_
        refine Res.one (.int .i64 m) Tryd.results50 rfl ?_
        rw [List.take_of_length_le (by omega)] at hm hall
        exact ⟨⟨m, rfl, hm, hall⟩, rfl⟩

set_option maxHeartbeats 1000000 in
set_option maxRecDepth 20000 in
theorem slicesMax (w : World) (b : Option Addr) (c : Nat) (xs : List Int) (h : Sl w b (ints xs)) (h0 : 0 < xs.length) (hb : xs.length < 9223372036854775807) : PureT Tryd.prog 51 [.slice b xs.length c] w fun v N => (∃ m, v = .int .i64 m ∧ m ∈ xs ∧ ∀ x ∈ xs, x ≤ m) ∧ N = [] := by
  refine CallT.enter Tryd.func51 rfl Tryd.ntmps51 rfl ?_
  refine T.seq ?_
  refine T.region ?_
  refine TO.quiet (q_assign rfl) ?_
  refine TO.nil ?_
  refine T.seq ?_
  refine T.seq ?_
  refine T.region ?_
  refine TO.quiet (q_move rfl) ?_
  refine TO.quiet (q_len Tryd.underlying33 rfl) ?_
  refine TO.quiet (q_lss rfl rfl) ?_
  refine TO.nil ?_
  refine T.condP rfl (fun hc => ?_) (fun hc => ?_)
  · exact absurd hc (by omega)
  · have hge7 : ¬ xs.length < 1 := by omega
    refine T.skip ?_
    refine T.seq ?_
    refine T.region ?_
    refine TO.quiet (q_move rfl) ?_
    refine TO.quiet (q_ix (i := 0) Tryd.underlying33 inf3 rfl rfl (Sl.o h) (by first | assumption | omega | (simp; omega) | simp_all) (by first | omega | (simp; done) | (simp; omega) | (simp_all; done) | (simp_all; omega))) ?_
    refine TO.quiet (q_ld Tryd.underlying3 rfl rfl (Sl.o h) (ints_get (by first | assumption | omega | (simp; omega) | simp_all))) ?_
    refine TO.quiet (q_assign rfl) ?_
    refine TO.nil ?_
    refine T.seq ?_
    refine T.seq ?_
    refine T.region ?_
    refine TO.quiet (q_assign rfl) ?_
    refine TO.nil ?_
    refine T.block ?_
    refine T.loop (fun (k : Nat) ρ O => ∃ (m : Int), O = [] ∧ 1 ≤ k ∧ k ≤ xs.length ∧ m ∈ xs.take k ∧ (∀ x ∈ xs.take k, x ≤ m) ∧ Heads [(0, (.slice b xs.length c)), (2, .int .i64 0), (3, .int .i64 m), (4, .int .i64 (k : Int))] ρ) (fun k => xs.length - k) 1 ?_ ?_
    · refine ⟨xs[0], rfl, Nat.le_refl _, h0, ?_, ?_, ⟨rfl, rfl, rfl, rfl, trivial⟩⟩
      · show xs[0] ∈ xs.take (0 + 1)
        rw [List.take_succ_eq_append_getElem h0]; simp
      · show ∀ x ∈ xs.take (0 + 1), _
        rw [List.take_succ_eq_append_getElem h0]; simp
    · rintro k ρ O ⟨m, rfl, hk1, hk, hm, hall, hH⟩
      obtain ⟨ρ0, rfl⟩ := hH.elim
      clear hH
      refine T.seq ?_
      refine T.seq ?_
      refine T.region ?_
      refine TO.quiet (q_move rfl) ?_
      refine TO.quiet (q_move rfl) ?_
      refine TO.quiet (q_len Tryd.underlying33 rfl) ?_
      refine TO.quiet (q_lss rfl rfl) ?_
      refine TO.nil ?_
      refine T.condP rfl (fun hc => ?_) (fun hc => ?_)
      · have hlt15 : k < xs.length := by omega
        refine T.skip ?_
        refine T.seq ?_
        refine T.block ?_
        refine T.region ?_
        refine TO.quiet (q_move rfl) ?_
        refine TO.quiet (q_move rfl) ?_
        refine TO.quiet (q_move rfl) ?_
        refine TO.quiet (q_ix (i := k) Tryd.underlying33 inf3 rfl rfl (Sl.o h) (by first | assumption | omega | (simp; omega) | simp_all) (by first | omega | (simp; done) | (simp; omega) | (simp_all; done) | (simp_all; omega))) ?_
        refine TO.quiet (q_ld Tryd.underlying3 rfl rfl (Sl.o h) (ints_get (by first | assumption | omega | (simp; omega) | simp_all))) ?_
        refine TO.quiet (q_max rfl rfl) ?_
        refine TO.quiet (q_assign rfl) ?_
        refine TO.nil ?_
        refine T.region ?_
        refine TO.quiet (q_move rfl) ?_
        refine TO.quiet (q_inc rfl rfl (by omega)) ?_
        refine TO.quiet (q_assign rfl) ?_
        refine TO.nil ?_
        refine ⟨k + 1, by omega, if xs[k] > m then xs[k] else m, rfl, by omega, by omega, ?_, ?_, ⟨rfl, rfl, rfl, rfl, trivial⟩⟩
        · rw [List.take_succ_eq_append_getElem hlt15]; split
          · exact List.mem_append_right _ (List.mem_singleton.2 rfl)
          · exact List.mem_append_left _ hm
        · rw [List.take_succ_eq_append_getElem hlt15]
          intro x hx
          rcases List.mem_append.1 hx with hx | hx
          · have := hall x hx; split <;> omega
          · rw [List.mem_singleton] at hx; subst hx; split <;> omega
      · have hge15 : ¬ k < xs.length := by omega
        refine T.exit ?_
        refine T.seq ?_
        refine T.region ?_
        refine TO.quiet (q_move rfl) ?_
        refine TO.quiet (q_assign rfl) ?_
        refine TO.nil ?_
        refine T.ret ?_
        refine Res.one (.int .i64 m) Tryd.results51 rfl ?_
        rw [List.take_of_length_le (by omega)] at hm hall
        exact ⟨⟨m, rfl, hm, hall⟩, rfl⟩

set_option maxHeartbeats 1000000 in
set_option maxRecDepth 20000 in
theorem subsetCheck (w : World) (d : DFA) (nb fb : Option Addr) (nc fc : Nat) (vs : List Value) (h : DfaAt w d nb vs fb) (hb : d.next.length < 9223372036854775807) (hbr : ∀ r ∈ d.next, r.length < 9223372036854775807) (hbf : d.final.length < 9223372036854775807) :
    PureT Tryd.prog 24 [.agg (dfaCells d nb nc fb fc).toArray] w fun v N => v = .int .i64 (checkD d : Int) ∧ N = [] := by
  refine CallT.enter Tryd.func24 rfl Tryd.ntmps24 rfl ?_
  have hvl := h.rows.1
  refine T.seq ?_
  refine T.region ?_
  refine TO.loud rfl (l_box (v := (.agg #[(.int .i64 d.vars), (.int .i64 d.start), (.slice nb d.next.length nc), (.slice fb d.final.length fc)])) (cs := [(.int .i64 d.vars), (.int .i64 d.start), (.slice nb d.next.length nc), (.slice fb d.final.length fc)]) rfl rfl (fun b1 => ?_))
  refine TO.quiet (q_assign rfl) ?_
  refine TO.nil ?_
  refine T.seq ?_
  refine T.region ?_
  refine TO.quiet (q_fieldAddr Tryd.underlying25 rfl inf22 rfl rfl) ?_
  refine TO.quiet (q_load_box 0 Tryd.underlying22 rfl rfl rfl rfl) ?_
  refine TO.quiet (q_len Tryd.underlying22 rfl) ?_
  refine TO.quiet (q_assign rfl) ?_
  refine TO.nil ?_
  refine T.seq ?_
  refine T.block ?_
  refine T.seq ?_
  refine T.region ?_
  refine TO.quiet (q_fieldAddr Tryd.underlying25 rfl inf3 rfl rfl) ?_
  refine TO.quiet (q_load_box 0 Tryd.underlying3 rfl rfl rfl rfl) ?_
  by_cases hv0 : d.vars < 0
  · refine TO.quiet (QT.toB (q_lss rfl rfl) (decide_eq_true hv0)) ?_
    refine TO.quiet (q_move rfl) ?_
    refine TO.passed rfl rfl ?_
    refine TO.passed rfl rfl ?_
    refine TO.passed rfl rfl ?_
    refine TO.quiet (q_pick1 rfl rfl) ?_
    refine TO.quiet (q_assign rfl) ?_
    refine TO.nil ?_
    refine T.cond1 rfl ?_
    refine T.seq ?_
    refine T.region ?_
    refine TO.quiet (q_assign rfl) ?_
    refine TO.nil ?_
    refine T.ret ?_
    refine Res.drop ?_
    refine Res.one (.int .i64 7) Tryd.results24 rfl ?_
    refine ⟨[], Sub.of (List.nil_sublist _), congrArg (fun z : Nat => Value.int .i64 (z : Int)) (show 7 = checkD d from Eq.symm ?_), rfl⟩
    unfold checkD
    rw [if_pos (by omega)]
  · refine TO.quiet (QT.toB (q_lss rfl rfl) (decide_eq_false hv0)) ?_
    refine TO.quiet (q_move rfl) ?_
    refine TO.guarded rfl rfl rfl (LT.of_quiet rfl rfl (q_fieldAddr Tryd.underlying25 rfl inf3 rfl rfl) ?_)
    refine TO.guarded rfl rfl rfl (LT.of_quiet rfl rfl (q_load_box 0 Tryd.underlying3 rfl rfl rfl rfl) ?_)
    by_cases hv6 : 6 < d.vars
    · refine TO.guarded rfl rfl rfl (LT.of_quiet rfl rfl (QT.toB (q_gtr rfl rfl) (decide_eq_true hv6)) ?_)
      refine TO.quiet (q_pick0 rfl rfl) ?_
      refine TO.quiet (q_assign rfl) ?_
      refine TO.nil ?_
      refine T.cond1 rfl ?_
      refine T.seq ?_
      refine T.region ?_
      refine TO.quiet (q_assign rfl) ?_
      refine TO.nil ?_
      refine T.ret ?_
      refine Res.drop ?_
      refine Res.one (.int .i64 7) Tryd.results24 rfl ?_
      refine ⟨[], Sub.of (List.nil_sublist _), congrArg (fun z : Nat => Value.int .i64 (z : Int)) (show 7 = checkD d from Eq.symm ?_), rfl⟩
      unfold checkD
      rw [if_pos (by omega)]
    · refine TO.guarded rfl rfl rfl (LT.of_quiet rfl rfl (QT.toB (q_gtr rfl rfl) (decide_eq_false hv6)) ?_)
      refine TO.quiet (q_pick0 rfl rfl) ?_
      refine TO.quiet (q_assign rfl) ?_
      refine TO.nil ?_
      refine T.cond0 rfl ?_
      refine T.seq ?_
      refine T.region ?_
      refine TO.quiet (q_move rfl) ?_
      refine TO.quiet (q_eql rfl rfl) ?_
      refine TO.quiet (q_assign rfl) ?_
      refine TO.nil ?_
      refine T.condP rfl (fun hc => ?_) (fun hc => ?_)
      · have hlt18 : d.next.length = 0 := by omega
        refine T.seq ?_
        refine T.region ?_
        refine TO.quiet (q_assign rfl) ?_
        refine TO.nil ?_
        refine T.ret ?_
        refine Res.drop ?_
        refine Res.one (.int .i64 3) Tryd.results24 rfl ?_
        refine ⟨[], Sub.of (List.nil_sublist _), congrArg (fun z : Nat => Value.int .i64 (z : Int)) (show 3 = checkD d from Eq.symm ?_), rfl⟩
        unfold checkD
        rw [if_neg (by simp; omega), if_pos hlt18]
      · have hge18 : ¬ d.next.length = 0 := by omega
        refine T.seq ?_
        refine T.region ?_
        refine TO.quiet (q_move rfl) ?_
        refine TO.quiet (q_gtr rfl rfl) ?_
        refine TO.quiet (q_assign rfl) ?_
        refine TO.nil ?_
        refine T.condP rfl (fun hc => ?_) (fun hc => ?_)
        · have hlt21 : d.next.length > 4096 := by omega
          refine T.seq ?_
          refine T.region ?_
          refine TO.quiet (q_assign rfl) ?_
          refine TO.nil ?_
          refine T.ret ?_
          refine Res.drop ?_
          refine Res.one (.int .i64 4) Tryd.results24 rfl ?_
          refine ⟨[], Sub.of (List.nil_sublist _), congrArg (fun z : Nat => Value.int .i64 (z : Int)) (show 4 = checkD d from Eq.symm ?_), rfl⟩
          unfold checkD
          rw [if_neg (by simp; omega), if_neg hge18, if_pos hlt21]
        · have hge21 : ¬ d.next.length > 4096 := by omega
          refine T.seq ?_
          refine T.region ?_
          refine TO.quiet (q_fieldAddr Tryd.underlying25 rfl inf23 rfl rfl) ?_
          refine TO.quiet (q_load_box 0 Tryd.underlying23 rfl rfl rfl rfl) ?_
          refine TO.quiet (q_len Tryd.underlying23 rfl) ?_
          refine TO.quiet (q_move rfl) ?_
          refine TO.quiet (q_neq rfl rfl) ?_
          refine TO.quiet (q_assign rfl) ?_
          refine TO.nil ?_
          refine T.condP rfl (fun hc => ?_) (fun hc => ?_)
          · have hlt24 : d.final.length ≠ d.next.length := by omega
            refine T.seq ?_
            refine T.region ?_
            refine TO.quiet (q_assign rfl) ?_
            refine TO.nil ?_
            refine T.ret ?_
            refine Res.drop ?_
            refine Res.one (.int .i64 2) Tryd.results24 rfl ?_
            refine ⟨[], Sub.of (List.nil_sublist _), congrArg (fun z : Nat => Value.int .i64 (z : Int)) (show 2 = checkD d from Eq.symm ?_), rfl⟩
            unfold checkD
            rw [if_neg (by simp; omega), if_neg hge18, if_neg hge21, if_pos hlt24]
          · have hge24 : ¬ d.final.length ≠ d.next.length := by omega
            refine T.seq ?_
            refine T.region ?_
            refine TO.quiet (q_fieldAddr Tryd.underlying25 rfl inf3 rfl rfl) ?_
            refine TO.quiet (q_load_box 0 Tryd.underlying3 rfl rfl rfl rfl) ?_
            by_cases hs0 : d.start < 0
            · refine TO.quiet (QT.toB (q_lss rfl rfl) (decide_eq_true hs0)) ?_
              refine TO.quiet (q_move rfl) ?_
              refine TO.passed rfl rfl ?_
              refine TO.passed rfl rfl ?_
              refine TO.passed rfl rfl ?_
              refine TO.passed rfl rfl ?_
              refine TO.quiet (q_pick1 rfl rfl) ?_
              refine TO.quiet (q_assign rfl) ?_
              refine TO.nil ?_
              refine T.cond1 rfl ?_
              refine T.seq ?_
              refine T.region ?_
              refine TO.quiet (q_assign rfl) ?_
              refine TO.nil ?_
              refine T.ret ?_
              refine Res.drop ?_
              refine Res.one (.int .i64 8) Tryd.results24 rfl ?_
              refine ⟨[], Sub.of (List.nil_sublist _), congrArg (fun z : Nat => Value.int .i64 (z : Int)) (show 8 = checkD d from Eq.symm ?_), rfl⟩
              unfold checkD
              rw [if_neg (by simp; omega), if_neg hge18, if_neg hge21, if_neg (by simpa using hge24), if_pos (by omega)]
            · refine TO.quiet (QT.toB (q_lss rfl rfl) (decide_eq_false hs0)) ?_
              refine TO.quiet (q_move rfl) ?_
              refine TO.guarded rfl rfl rfl (LT.of_quiet rfl rfl (q_fieldAddr Tryd.underlying25 rfl inf3 rfl rfl) ?_)
              refine TO.guarded rfl rfl rfl (LT.of_quiet rfl rfl (q_load_box 0 Tryd.underlying3 rfl rfl rfl rfl) ?_)
              refine TO.guarded rfl rfl rfl (LT.of_quiet rfl rfl (q_move rfl) ?_)
              by_cases hs1 : (d.next.length : Int) ≤ d.start
              · refine TO.guarded rfl rfl rfl (LT.of_quiet rfl rfl (QT.toB (q_geq rfl rfl) (decide_eq_true hs1)) ?_)
                refine TO.quiet (q_pick0 rfl rfl) ?_
                refine TO.quiet (q_assign rfl) ?_
                refine TO.nil ?_
                refine T.cond1 rfl ?_
                refine T.seq ?_
                refine T.region ?_
                refine TO.quiet (q_assign rfl) ?_
                refine TO.nil ?_
                refine T.ret ?_
                refine Res.drop ?_
                refine Res.one (.int .i64 8) Tryd.results24 rfl ?_
                refine ⟨[], Sub.of (List.nil_sublist _), congrArg (fun z : Nat => Value.int .i64 (z : Int)) (show 8 = checkD d from Eq.symm ?_), rfl⟩
                unfold checkD
                rw [if_neg (by simp; omega), if_neg hge18, if_neg hge21, if_neg (by simpa using hge24), if_pos (by omega)]
              · refine TO.guarded rfl rfl rfl (LT.of_quiet rfl rfl (QT.toB (q_geq rfl rfl) (decide_eq_false hs1)) ?_)
                refine TO.quiet (q_pick0 rfl rfl) ?_
                refine TO.quiet (q_assign rfl) ?_
                refine TO.nil ?_
                refine T.cond0 rfl ?_
                refine T.skip ?_
                refine T.seq ?_
                refine T.seq ?_
                refine T.region ?_
                refine TO.quiet (q_fieldAddr Tryd.underlying25 rfl inf22 rfl rfl) ?_
                refine TO.quiet (q_load_box 0 Tryd.underlying22 rfl rfl rfl rfl) ?_
                refine TO.quiet (q_len Tryd.underlying22 rfl) ?_
                refine TO.quiet (q_move rfl) ?_
                refine TO.nil ?_
                refine T.block ?_
                refine T.loop (fun (k : Nat) ρ O => O = [objI b1 (.cells [(.int .i64 d.vars), (.int .i64 d.start), (.slice nb d.next.length nc), (.slice fb d.final.length fc)].toArray 25 (0, 0))] ∧ k ≤ d.next.length ∧ rowsE (2 ^ d.vars.toNat) d.next.length (d.next.drop k) = checkD d ∧ Heads [(0, (.agg #[(.int .i64 d.vars), (.int .i64 d.start), (.slice nb d.next.length nc), (.slice fb d.final.length fc)])), (1, (.pointer (some ⟨b1, 0, none⟩))), (3, .int .i64 (d.next.length : Int)), (9, .bool false), (18, .bool (decide ((d.next.length : Int) = 0))), (21, .bool (decide ((d.next.length : Int) > 4096))), (24, .bool (decide ((d.final.length : Int) ≠ (d.next.length : Int)))), (30, .bool false), (41, (.slice nb d.next.length nc)), (42, .int .i64 (d.next.length : Int)), (43, .int .i64 (k : Int))] ρ) (fun k => d.next.length - k) 0 ?_ ?_
                · refine ⟨rfl, Nat.zero_le _, ?_, ⟨rfl, rfl, rfl, rfl, rfl, rfl, rfl, rfl, rfl, rfl, rfl, trivial⟩⟩
                  unfold checkD
                  rw [if_neg (by simp; omega), if_neg hge18, if_neg hge21, if_neg (by simpa using hge24), if_neg (by omega)]; rfl
                · rintro k ρ O ⟨rfl, hk, hr, hH⟩
                  obtain ⟨ρ0, rfl⟩ := hH.elim
                  clear hH
                  refine T.seq ?_
                  refine T.region ?_
                  refine TO.quiet (q_lss rfl rfl) ?_
                  refine TO.nil ?_
                  refine T.seq ?_
                  refine T.condP rfl (fun hc => ?_) (fun hc => ?_)
                  · have hlt44 : k < d.next.length := by omega
                    obtain ⟨vb1, vc1, g1, s1⟩ := h.rows.get hlt44
                    have hrl := hbr _ (List.getElem_mem hlt44)
                    refine T.skip ?_
                    refine T.seq ?_
                    refine T.block ?_
                    refine T.seq ?_
                    refine T.region ?_
                    refine TO.quiet (q_ix (i := k) Tryd.underlying22 inf33 rfl rfl (Sl.o h.outer) (by first | assumption | omega | (simp; omega) | simp_all) (by first | omega | (simp; done) | (simp; omega) | (simp_all; done) | (simp_all; omega))) ?_
                    refine TO.quiet (q_ld Tryd.underlying33 rfl rfl (Sl.o h.outer) g1) ?_
                    refine TO.quiet (q_assign rfl) ?_
                    refine TO.nil ?_
                    refine T.seq ?_
                    refine T.seq ?_
                    refine T.region ?_
                    refine TO.quiet (q_move rfl) ?_
                    refine TO.quiet (q_len Tryd.underlying33 rfl) ?_
                    refine TO.quiet (q_fieldAddr Tryd.underlying25 rfl inf3 rfl rfl) ?_
                    refine TO.quiet (q_load_box 0 Tryd.underlying3 rfl rfl rfl rfl) ?_
                    refine TO.quiet (q_shl1 (v := d.vars.toNat) rfl (by show Value.int _ d.vars = _; rw [Int.toNat_of_nonneg (by omega)]) (by omega)) ?_
                    refine TO.quiet (q_neq rfl rfl) ?_
                    refine TO.nil ?_
                    refine T.condP rfl (fun hc => ?_) (fun hc => ?_)
                    · have hlt52 : d.next[k].length ≠ 2 ^ d.vars.toNat := by omega
                      refine T.seq ?_
                      refine T.region ?_
                      refine TO.quiet (q_assign rfl) ?_
                      refine TO.nil ?_
                      refine T.ret ?_
                      refine Res.drop ?_
                      refine Res.one (.int .i64 2) Tryd.results24 rfl ?_
                      refine ⟨[], Sub.of (List.nil_sublist _), congrArg (fun z : Nat => Value.int .i64 (z : Int)) (show 2 = checkD d from Eq.symm ?_), rfl⟩
                      rw [← hr, rowsE_at hlt44, if_pos hlt52]
                    · have hge52 : ¬ d.next[k].length ≠ 2 ^ d.vars.toNat := by omega
                      have hrpos : 0 < d.next[k].length := by
                        have := Nat.pow_pos (n := d.vars.toNat) (show 0 < 2 by omega)
                        omega
                      refine T.skip ?_
                      refine T.seq ?_
                      refine T.region ?_
                      refine TO.quiet (q_move rfl) ?_
                      have hk54 := fun (w1 : World) (hI : Inv w [objI b1 (.cells [(.int .i64 d.vars), (.int .i64 d.start), (.slice nb d.next.length nc), (.slice fb d.final.length fc)].toArray 25 (0, 0))] w1) => slicesMin w1 vb1 vc1 d.next[k] (hI.sl s1) hrpos hrl
                      refine TO.loud rfl (l_call ent50 (CallT.of_pure hk54) rfl ?_)
                      clear hk54
                      rintro v O' ⟨N, rfl, ⟨m1, rfl, hm1, hall1⟩, rfl⟩
                      by_cases he0 : m1 < 0
                      · refine TO.quiet (QT.toB (q_lss rfl rfl) (decide_eq_true he0)) ?_
                        refine TO.quiet (q_move rfl) ?_
                        refine TO.passed rfl rfl ?_
                        refine TO.passed rfl rfl ?_
                        refine TO.passed rfl rfl ?_
                        refine TO.passed rfl rfl ?_
                        refine TO.quiet (q_pick1 rfl rfl) ?_
                        refine TO.nil ?_
                        refine T.cond1 rfl ?_
                        refine T.seq ?_
                        refine T.region ?_
                        refine TO.quiet (q_assign rfl) ?_
                        refine TO.nil ?_
                        refine T.ret ?_
                        refine Res.drop ?_
                        refine Res.one (.int .i64 8) Tryd.results24 rfl ?_
                        refine ⟨[], Sub.of (List.nil_sublist _), congrArg (fun z : Nat => Value.int .i64 (z : Int)) (show 8 = checkD d from Eq.symm ?_), rfl⟩
                        rw [← hr, rowsE_at hlt44, if_neg (by simpa using hge52), if_neg ?_]
                        intro hh
                        simp only [rowOk, List.all_eq_true, Bool.and_eq_true, decide_eq_true_eq] at hh
                        have := hh _ hm1; omega
                      · refine TO.quiet (QT.toB (q_lss rfl rfl) (decide_eq_false he0)) ?_
                        refine TO.quiet (q_move rfl) ?_
                        refine TO.guarded rfl rfl rfl (LT.of_quiet rfl rfl (q_move rfl) ?_)
                        have hk58 := fun (w1 : World) (hI : Inv w [objI b1 (.cells [(.int .i64 d.vars), (.int .i64 d.start), (.slice nb d.next.length nc), (.slice fb d.final.length fc)].toArray 25 (0, 0))] w1) => slicesMax w1 vb1 vc1 d.next[k] (hI.sl s1) hrpos hrl
                        refine TO.guarded rfl rfl rfl (l_call ent51 (CallT.of_pure hk58) rfl ?_)
                        clear hk58
                        rintro v O' ⟨N, rfl, ⟨m2, rfl, hm2, hall2⟩, rfl⟩
                        refine TO.guarded rfl rfl rfl (LT.of_quiet rfl rfl (q_move rfl) ?_)
                        by_cases he1 : (d.next.length : Int) ≤ m2
                        · refine TO.guarded rfl rfl rfl (LT.of_quiet rfl rfl (QT.toB (q_geq rfl rfl) (decide_eq_true he1)) ?_)
                          refine TO.quiet (q_pick0 rfl rfl) ?_
                          refine TO.nil ?_
                          refine T.cond1 rfl ?_
                          refine T.seq ?_
                          refine T.region ?_
                          refine TO.quiet (q_assign rfl) ?_
                          refine TO.nil ?_
                          refine T.ret ?_
                          refine Res.drop ?_
                          refine Res.one (.int .i64 8) Tryd.results24 rfl ?_
                          refine ⟨[], Sub.of (List.nil_sublist _), congrArg (fun z : Nat => Value.int .i64 (z : Int)) (show 8 = checkD d from Eq.symm ?_), rfl⟩
                          rw [← hr, rowsE_at hlt44, if_neg (by simpa using hge52), if_neg ?_]
                          intro hh
                          simp only [rowOk, List.all_eq_true, Bool.and_eq_true, decide_eq_true_eq] at hh
                          have := hh _ hm2; omega
                        · refine TO.guarded rfl rfl rfl (LT.of_quiet rfl rfl (QT.toB (q_geq rfl rfl) (decide_eq_false he1)) ?_)
                          refine TO.quiet (q_pick0 rfl rfl) ?_
                          refine TO.nil ?_
                          refine T.cond0 rfl ?_
                          refine T.skip ?_
                          refine T.region ?_
                          refine TO.quiet (q_inc rfl rfl (by omega)) ?_
                          refine TO.quiet (q_move rfl) ?_
                          refine TO.nil ?_
                          refine ⟨k + 1, by omega, rfl, by omega, ?_, ⟨rfl, rfl, rfl, rfl, rfl, rfl, rfl, rfl, rfl, rfl, rfl, trivial⟩⟩
                          rw [← hr, rowsE_at hlt44, if_neg (by simpa using hge52), if_pos ?_]
                          simp only [rowOk, List.all_eq_true, Bool.and_eq_true, decide_eq_true_eq]
                          intro x hx
                          have := hall1 x hx; have := hall2 x hx; omega
                  · have hge44 : ¬ k < d.next.length := by omega
                    refine T.exit ?_
                    refine T.seq ?_
                    refine T.region ?_
                    refine TO.quiet (q_assign rfl) ?_
                    refine TO.nil ?_
                    refine T.ret ?_
                    refine Res.drop ?_
                    refine Res.one (.int .i64 0) Tryd.results24 rfl ?_
                    refine ⟨[], Sub.of (List.nil_sublist _), congrArg (fun z : Nat => Value.int .i64 (z : Int)) (show 0 = checkD d from Eq.symm ?_), rfl⟩
                    rw [← hr, rowsE_end (by omega)]
end Go.Proofs.YthfemndklplpbaaDoor
