/- Contracts of functions of the program (Dist): what each call answers and that it leaves memory as it was. Conditions: those each theorem names. -/
import Derived.Test.YthfemndklplpbaaDoorCheck
import Derived.Test.YthfemndklplpbaaDoorTell
set_option linter.unusedSectionVars false
set_option linter.unusedSimpArgs false
set_option linter.unusedVariables false
set_option linter.unnecessarySimpa false
namespace Go.Proofs.YthfemndklplpbaaDoor
open Go.Lx Go.RowKit
set_option linter.unusedVariables false
set_option linter.unusedSimpArgs false

theorem pair76 : Pair2 Tryd.prog 76 { name := "s", type := 3, offset := 0, embedded := false, tag := "", pkgPath := "sentinel/minimal", byteOffset := 0 } { name := "t", type := 3, offset := 1, embedded := false, tag := "", pkgPath := "sentinel/minimal", byteOffset := 8 } := ⟨Tryd.underlying76, Tryd.underlying3, Tryd.underlying3, rfl, rfl, by decide, by decide, by kernel_rfl⟩

set_option maxHeartbeats 1000000 in
set_option maxRecDepth 20000 in
theorem cloneNil (w : World) (c : Nat) :
    PureT Tryd.prog 52 [.slice none 0 c] w fun v N => ∃ b' c', v = .slice b' 0 c' ∧ N = [rowI b' c' 5 1 []] := by
  refine CallT.enter Tryd.func52 rfl Tryd.ntmps52 rfl ?_
  refine T.seq ?_
  refine T.region ?_
  refine TO.quiet (q_assign rfl) ?_
  refine TO.nil ?_
  refine T.seq ?_
  refine T.seq ?_
  refine T.region ?_
  refine TO.quiet (q_move rfl) ?_
  refine TO.quiet (q_eqlNil Tryd.underlying42 rfl rfl) ?_
  refine TO.nil ?_
  refine T.cond1 rfl ?_
  refine T.seq ?_
  refine T.nilRow 5 1 ?_
  refine T.region ?_
  refine TO.quiet (q_assign rfl) ?_
  refine TO.nil ?_
  refine T.ret ?_
  refine Res.one (.slice none 0 0) Tryd.results52 rfl ?_
  exact ⟨_, _, rfl, rfl⟩

set_option maxHeartbeats 1000000 in
set_option maxRecDepth 20000 in
theorem cloneSome (w : World) (a : Addr) (c : Nat) (xs : List Nat) (h1 : Sl w (some a) (byts xs)) (hb : xs.length * 1 ≤ 70368744177664) :
    PureT Tryd.prog 52 [.slice (some a) xs.length c] w fun v N => ∃ b' c', v = .slice b' xs.length c' ∧ N = [rowI b' c' 5 1 (byts xs)] := by
  refine CallT.enter Tryd.func52 rfl Tryd.ntmps52 rfl ?_
  refine T.seq ?_
  refine T.region ?_
  refine TO.quiet (q_assign rfl) ?_
  refine TO.nil ?_
  refine T.seq ?_
  refine T.seq ?_
  refine T.region ?_
  refine TO.quiet (q_move rfl) ?_
  refine TO.quiet (q_eqlNil Tryd.underlying42 rfl rfl) ?_
  refine TO.nil ?_
  refine T.cond0 rfl ?_
  refine T.skip ?_
  refine T.seq ?_
  refine T.region ?_
  refine TO.loud rfl (l_buildSlice (m := 0) (parts := []) (cs := []) Tryd.underlying42 inf5 (by decide) (by simp [Instr.fill]) rfl (fun b1 => ?_))
  refine TO.quiet (q_move rfl) ?_
  refine TO.loud rfl (l_append 0 Tryd.underlying42 Tryd.underlying42 inf5 rfl rfl rfl rfl (by simp) (by decide) (Src.sl h1 (by simp)) (byts_one xs) (by omega) (by decide) (by decide) (fun b1 c2 => ?_))
  refine TO.quiet (q_assign rfl) ?_
  refine TO.nil ?_
  refine T.ret ?_
  refine Res.one (.slice b1 (0 + xs.length) c2) Tryd.results52 rfl ?_
  exact ⟨_, _, by rw [Nat.zero_add], rfl⟩

theorem cloneC (w : World) (b : Option Addr) (c : Nat) (xs : List Nat) (h1 : Sl w b (byts xs)) (hb : xs.length * 1 ≤ 70368744177664) :
    PureT Tryd.prog 52 [.slice b xs.length c] w fun v N => ∃ b' c', v = .slice b' xs.length c' ∧ N = [rowI b' c' 5 1 (byts xs)] := by
  cases b with
  | none =>
    have hx : xs = [] := by
      cases xs with
      | nil => rfl
      | cons x xs => obtain ⟨_, _, e⟩ := h1.addr (i := 0) (by simp); cases e
    subst hx
    exact cloneNil w c
  | some a => exact cloneSome w a c xs h1 hb

set_option maxHeartbeats 1000000 in
set_option maxRecDepth 20000 in
theorem distBad (w : World) (d : DFA) (nb fb : Option Addr) (nc fc : Nat) (vs : List Value) (h : DfaAt w d nb vs fb) (hb : d.next.length < 9223372036854775807) (hbr : ∀ r ∈ d.next, r.length < 9223372036854775807) (hbf : d.final.length < 9223372036854775807) (he : checkD d ≠ 0) (s t : Int) :
    PureT Tryd.prog 25 [.agg (dfaCells d nb nc fb fc).toArray, .int .i64 s, .int .i64 t] w fun v N => v = .tuple #[.slice none 0 0, .bool false, .int .i64 (checkD d : Int)] ∧ N = [] := by
  refine CallT.enter Tryd.func25 rfl Tryd.ntmps25 rfl ?_
  refine T.seq ?_
  refine T.region ?_
  refine TO.loud rfl (l_box (v := (.agg #[(.int .i64 d.vars), (.int .i64 d.start), (.slice nb d.next.length nc), (.slice fb d.final.length fc)])) (cs := [(.int .i64 d.vars), (.int .i64 d.start), (.slice nb d.next.length nc), (.slice fb d.final.length fc)]) rfl rfl (fun b1 => ?_))
  refine TO.quiet (q_assign rfl) ?_
  refine TO.quiet (q_assign rfl) ?_
  refine TO.quiet (q_assign rfl) ?_
  refine TO.nil ?_
  refine T.seq ?_
  refine T.seq ?_
  refine T.region ?_
  refine TO.quiet (q_load_boxAgg 0 Tryd.underlying25 rfl inf25 rfl rfl rfl) ?_
  have hk16 := fun (w1 : World) (hI : Inv w [objI b1 (.cells (List.toArray [(.int .i64 d.vars), (.int .i64 d.start), (.slice nb d.next.length nc), (.slice fb d.final.length fc)]) 25 (0, 0))] w1) => subsetCheck w1 d nb fb nc fc vs (hI.dfa h) hb hbr hbf
  refine TO.loud rfl (l_call ent24 (CallT.of_pure hk16) rfl ?_)
  clear hk16
  rintro v O' ⟨N, rfl, rfl, rfl⟩
  refine TO.quiet (q_assign rfl) ?_
  refine TO.nil ?_
  refine T.seq ?_
  refine T.region ?_
  refine TO.quiet (q_move rfl) ?_
  refine TO.quiet (QT.toB (q_neq rfl rfl) (decide_eq_true (by omega))) ?_
  refine TO.nil ?_
  refine T.cond1 rfl ?_
  refine T.seq ?_
  refine T.region ?_
  refine TO.quiet (q_move rfl) ?_
  refine TO.quiet (q_assign rfl) ?_
  refine TO.quiet (q_assign rfl) ?_
  refine TO.quiet (q_assign rfl) ?_
  refine TO.nil ?_
  refine T.ret ?_
  refine Res.drop ?_
  refine Res.three (.slice none 0 0) (.bool false) (.int .i64 (checkD d : Int)) Tryd.results25 rfl rfl rfl ?_
  exact ⟨[], Sub.of (List.nil_sublist _), rfl, rfl⟩

set_option maxHeartbeats 1000000 in
set_option maxRecDepth 20000 in
theorem distOut (w : World) (d : DFA) (nb fb : Option Addr) (nc fc : Nat) (vs : List Value) (h : DfaAt w d nb vs fb) (hv : Valid d) (s t : Int) (hst : s < 0 ∨ t < 0 ∨ (d.next.length : Int) ≤ s ∨ (d.next.length : Int) ≤ t) :
    PureT Tryd.prog 25 [.agg (dfaCells d nb nc fb fc).toArray, .int .i64 s, .int .i64 t] w fun v N => v = .tuple #[.slice none 0 0, .bool false, .int .i64 8] ∧ N = [] := by
  refine CallT.enter Tryd.func25 rfl Tryd.ntmps25 rfl ?_
  have he := checkD_zero.2 hv
  have hb : d.next.length < 9223372036854775807 := by have := hv.n4; omega
  have hbr : ∀ r ∈ d.next, r.length < 9223372036854775807 := hv.bound
  have hbf : d.final.length < 9223372036854775807 := by have := hv.fin; omega
  refine T.seq ?_
  refine T.region ?_
  refine TO.loud rfl (l_box (v := (.agg #[(.int .i64 d.vars), (.int .i64 d.start), (.slice nb d.next.length nc), (.slice fb d.final.length fc)])) (cs := [(.int .i64 d.vars), (.int .i64 d.start), (.slice nb d.next.length nc), (.slice fb d.final.length fc)]) rfl rfl (fun b1 => ?_))
  refine TO.quiet (q_assign rfl) ?_
  refine TO.quiet (q_assign rfl) ?_
  refine TO.quiet (q_assign rfl) ?_
  refine TO.nil ?_
  refine T.seq ?_
  refine T.seq ?_
  refine T.region ?_
  refine TO.quiet (q_load_boxAgg 0 Tryd.underlying25 rfl inf25 rfl rfl rfl) ?_
  have hk16 := fun (w1 : World) (hI : Inv w [objI b1 (.cells (List.toArray [(.int .i64 d.vars), (.int .i64 d.start), (.slice nb d.next.length nc), (.slice fb d.final.length fc)]) 25 (0, 0))] w1) => subsetCheck w1 d nb fb nc fc vs (hI.dfa h) hb hbr hbf
  refine TO.loud rfl (l_call ent24 (CallT.of_pure hk16) rfl ?_)
  clear hk16
  rintro v O' ⟨N, rfl, rfl, rfl⟩
  rw [he]
  refine TO.quiet (q_assign rfl) ?_
  refine TO.nil ?_
  refine T.seq ?_
  refine T.region ?_
  refine TO.quiet (q_move rfl) ?_
  refine TO.quiet (q_neq rfl rfl) ?_
  refine TO.nil ?_
  refine T.cond0 rfl ?_
  refine T.skip ?_
  refine T.seq ?_
  refine T.seq ?_
  refine T.region ?_
  refine TO.quiet (q_move rfl) ?_
  refine TO.quiet (q_move rfl) ?_
  refine TO.quiet (q_min rfl rfl) ?_
  by_cases hm : (if t < s then t else s) < 0
  · refine TO.quiet (QT.toB (q_lss rfl rfl) (decide_eq_true hm)) ?_
    refine TO.quiet (q_move rfl) ?_
    refine TO.passed rfl rfl ?_
    refine TO.passed rfl rfl ?_
    refine TO.passed rfl rfl ?_
    refine TO.passed rfl rfl ?_
    refine TO.passed rfl rfl ?_
    refine TO.passed rfl rfl ?_
    refine TO.passed rfl rfl ?_
    refine TO.quiet (q_pick1 rfl rfl) ?_
    refine TO.nil ?_
    refine T.cond1 rfl ?_
    refine T.seq ?_
    refine T.region ?_
    refine TO.quiet (q_assign rfl) ?_
    refine TO.quiet (q_assign rfl) ?_
    refine TO.quiet (q_assign rfl) ?_
    refine TO.nil ?_
    refine T.ret ?_
    refine Res.drop ?_
    refine Res.three (.slice none 0 0) (.bool false) (.int .i64 8) Tryd.results25 rfl rfl rfl ?_
    exact ⟨[], Sub.of (List.nil_sublist _), rfl, rfl⟩
  · refine TO.quiet (QT.toB (q_lss rfl rfl) (decide_eq_false hm)) ?_
    refine TO.quiet (q_move rfl) ?_
    refine TO.guarded rfl rfl rfl (LT.of_quiet rfl rfl (q_move rfl) ?_)
    refine TO.guarded rfl rfl rfl (LT.of_quiet rfl rfl (q_move rfl) ?_)
    refine TO.guarded rfl rfl rfl (LT.of_quiet rfl rfl (q_max rfl rfl) ?_)
    refine TO.guarded rfl rfl rfl (LT.of_quiet rfl rfl (q_fieldAddr Tryd.underlying25 rfl inf22 rfl rfl) ?_)
    refine TO.guarded rfl rfl rfl (LT.of_quiet rfl rfl (q_load_box 0 Tryd.underlying22 rfl rfl rfl rfl) ?_)
    refine TO.guarded rfl rfl rfl (LT.of_quiet rfl rfl (q_len Tryd.underlying22 rfl) ?_)
    refine TO.guarded rfl rfl rfl (LT.of_quiet rfl rfl (QT.toB (q_geq rfl rfl) (decide_eq_true (by split <;> (split at hm <;> omega)))) ?_)
    refine TO.quiet (q_pick0 rfl rfl) ?_
    refine TO.nil ?_
    refine T.cond1 rfl ?_
    refine T.seq ?_
    refine T.region ?_
    refine TO.quiet (q_assign rfl) ?_
    refine TO.quiet (q_assign rfl) ?_
    refine TO.quiet (q_assign rfl) ?_
    refine TO.nil ?_
    refine T.ret ?_
    refine Res.drop ?_
    refine Res.three (.slice none 0 0) (.bool false) (.int .i64 8) Tryd.results25 rfl rfl rfl ?_
    exact ⟨[], Sub.of (List.nil_sublist _), rfl, rfl⟩

set_option maxHeartbeats 8000000 in
set_option maxRecDepth 20000 in
theorem distOk (w : World) (d : DFA) (nb fb : Option Addr) (nc fc : Nat) (vs : List Value) (h : DfaAt w d nb vs fb) (hv : Valid d) (hn : d.next.length < 100) (s t : Nat) (hs : s < d.next.length) (ht : t < d.next.length) :
    PureT Tryd.prog 25 [.agg (dfaCells d nb nc fb fc).toArray, .int .i64 (s : Int), .int .i64 (t : Int)] w fun v N => ∃ res, Tell d s t res ∧ TellV 5 v N res := by
  refine CallT.enter Tryd.func25 rfl Tryd.ntmps25 rfl ?_
  have he := checkD_zero.2 hv
  have hb : d.next.length < 9223372036854775807 := by have := hv.n4; omega
  have hbr : ∀ r ∈ d.next, r.length < 9223372036854775807 := hv.bound
  have hbf : d.final.length < 9223372036854775807 := by have := hv.fin; omega
  have hvl := h.rows.1
  refine T.seq ?_
  refine T.region ?_
  refine TO.loud rfl (l_box (v := (.agg #[(.int .i64 d.vars), (.int .i64 d.start), (.slice nb d.next.length nc), (.slice fb d.final.length fc)])) (cs := [(.int .i64 d.vars), (.int .i64 d.start), (.slice nb d.next.length nc), (.slice fb d.final.length fc)]) rfl rfl (fun z1 => ?_))
  refine TO.quiet (q_assign rfl) ?_
  refine TO.quiet (q_assign rfl) ?_
  refine TO.quiet (q_assign rfl) ?_
  refine TO.nil ?_
  refine T.seq ?_
  refine T.seq ?_
  refine T.region ?_
  refine TO.quiet (q_load_boxAgg 0 Tryd.underlying25 rfl inf25 rfl rfl rfl) ?_
  have hk16 := fun (w1 : World) (hI : Inv w [objI z1 (.cells (List.toArray [(.int .i64 d.vars), (.int .i64 d.start), (.slice nb d.next.length nc), (.slice fb d.final.length fc)]) 25 (0, 0))] w1) => subsetCheck w1 d nb fb nc fc vs (hI.dfa h) hb hbr hbf
  refine TO.loud rfl (l_call ent24 (CallT.of_pure hk16) rfl ?_)
  clear hk16
  rintro v O' ⟨N, rfl, rfl, rfl⟩
  rw [he]
  refine TO.quiet (q_assign rfl) ?_
  refine TO.nil ?_
  refine T.seq ?_
  refine T.region ?_
  refine TO.quiet (q_move rfl) ?_
  refine TO.quiet (q_neq rfl rfl) ?_
  refine TO.nil ?_
  refine T.cond0 rfl ?_
  refine T.skip ?_
  refine T.seq ?_
  refine T.seq ?_
  refine T.region ?_
  refine TO.quiet (q_move rfl) ?_
  refine TO.quiet (q_move rfl) ?_
  refine TO.quiet (q_min rfl rfl) ?_
  refine TO.quiet (QT.toB (q_lss rfl rfl) (decide_eq_false (by split <;> omega))) ?_
  refine TO.quiet (q_move rfl) ?_
  refine TO.guarded rfl rfl rfl (LT.of_quiet rfl rfl (q_move rfl) ?_)
  refine TO.guarded rfl rfl rfl (LT.of_quiet rfl rfl (q_move rfl) ?_)
  refine TO.guarded rfl rfl rfl (LT.of_quiet rfl rfl (q_max rfl rfl) ?_)
  refine TO.guarded rfl rfl rfl (LT.of_quiet rfl rfl (q_fieldAddr Tryd.underlying25 rfl inf22 rfl rfl) ?_)
  refine TO.guarded rfl rfl rfl (LT.of_quiet rfl rfl (q_load_box 0 Tryd.underlying22 rfl rfl rfl rfl) ?_)
  refine TO.guarded rfl rfl rfl (LT.of_quiet rfl rfl (q_len Tryd.underlying22 rfl) ?_)
  refine TO.guarded rfl rfl rfl (LT.of_quiet rfl rfl (QT.toB (q_geq rfl rfl) (decide_eq_false (by split <;> omega))) ?_)
  refine TO.quiet (q_pick0 rfl rfl) ?_
  refine TO.nil ?_
  refine T.cond0 rfl ?_
  refine T.skip ?_
  refine T.seq ?_
  refine T.region ?_
  refine TO.loud rfl (l_makeMap pairV Value.bool (fun mp2 => ?_))
  refine TO.quiet (q_move rfl) ?_
  refine TO.quiet (q_move rfl) ?_
  refine TO.quiet (q_build (cs := [.int .i64 (s : Int), .int .i64 (t : Int)]) plan76 inf76 (by kernel_rfl)) ?_
  refine TO.loud rfl (l_mapInsert (a := cast2 (s, t)) (v := true) 0 Tryd.underlying77 (KeyOk.pair pair76) rfl rfl rfl rfl (by simp) ?_)
  refine TO.quiet (q_move rfl) ?_
  refine TO.quiet (q_assign rfl) ?_
  refine TO.nil ?_
  refine T.seq ?_
  refine T.seq ?_
  refine T.region ?_
  refine TO.quiet (q_move rfl) ?_
  refine TO.quiet (q_move rfl) ?_
  refine TO.quiet (q_build (cs := [.int .i64 (s : Int), .int .i64 (t : Int)]) plan76 inf76 (by kernel_rfl)) ?_
  refine TO.quiet (q_build (cs := [.int .i64 (s : Int), .int .i64 (t : Int), (.slice none 0 0)]) plan79 inf79 (by kernel_rfl)) ?_
  refine TO.loud rfl (l_buildSlice (m := 1) (parts := [(0, _)]) (cs := [.int .i64 (s : Int), .int .i64 (t : Int), (.slice none 0 0)]) Tryd.underlying80 inf79 (by decide) (by kernel_rfl) rfl (fun z3 => ?_))
  refine TO.quiet (q_assign rfl) ?_
  refine TO.nil ?_
  refine T.nilRow 5 1 ?_
  refine T.sub (O' := [rowI (some ⟨z3, 0, none⟩) 1 79 3 [.int .i64 (s : Int), .int .i64 (t : Int), (.slice none 0 0)], mapI pairV Value.bool mp2 [(cast2 (s, t), true)], objI z1 (.cells (List.toArray [(.int .i64 d.vars), (.int .i64 d.start), (.slice nb d.next.length nc), (.slice fb d.final.length fc)]) 25 (0, 0)), rowI none 0 5 1 []]) (Sub.pick [1, 1, 1, 0] rfl) ?_
  refine T.block ?_
  refine T.loop (fun (i : Nat) ρ O => ∃ (qb : Option Addr) (qc m : Nat) (rs : List QRec), O = ([rowI qb qc 79 3 (qcells rs), mapI pairV Value.bool mp2 (seenL (bq d s t i)), objI z1 (.cells (List.toArray [(.int .i64 d.vars), (.int .i64 d.start), (.slice nb d.next.length nc), (.slice fb d.final.length fc)]) 25 (0, 0))] ++ qitms 5 rs) ∧ m = rs.length ∧ rs.map QRec.stp = (bq d s t i).drop i ∧ (∀ j, j < i → ∃ q, (bq d s t j)[j]? = some q ∧ finN d q.1.1 = finN d q.1.2) ∧ Heads [(0, (.agg #[(.int .i64 d.vars), (.int .i64 d.start), (.slice nb d.next.length nc), (.slice fb d.final.length fc)])), (1, .int .i64 (s : Int)), (2, .int .i64 (t : Int)), (3, (.pointer (some ⟨z1, 0, none⟩))), (9, .int .i64 ((0 : Nat) : Int)), (10, (.map (some mp2))), (11, (.slice qb m qc))] ρ) (fun i => d.next.length * d.next.length - i) 0 ?_ ?_
  · exact ⟨_, _, 1, [⟨(s, t), none, 0, []⟩], rfl, rfl, rfl, fun j hj => absurd hj (by omega), ⟨rfl, rfl, rfl, rfl, rfl, rfl, rfl, trivial⟩⟩
  · rintro i ρ O ⟨qb, qc, m, rs, rfl, hm, hrs, hj, hH⟩
    obtain ⟨ρ0, rfl⟩ := hH.elim
    clear hH
    refine T.seq ?_
    refine T.seq ?_
    refine T.region ?_
    refine TO.quiet (q_move rfl) ?_
    refine TO.quiet (q_len Tryd.underlying80 rfl) ?_
    refine TO.quiet (q_gtr rfl rfl) ?_
    refine TO.nil ?_
    refine T.condP rfl (fun hc => ?_) (fun hc => ?_)
    · have hlt45 : m > 0 := by omega
      refine T.skip ?_
      refine T.seq ?_
      refine T.block ?_
      refine T.seq ?_
      obtain ⟨q0, rest, rfl⟩ : ∃ q0 rest, rs = q0 :: rest := by
        cases rs with
        | nil => subst hm; exact absurd hc (by simp)
        | cons a l => exact ⟨a, l, rfl⟩
      obtain ⟨m, rfl⟩ : ∃ k, m = k + 1 := ⟨rest.length, hm⟩
      have hm : m = rest.length := by simpa using hm
      have hq0 : (bq d s t i)[i]? = some q0.stp := by
        have := congrArg List.head? hrs
        rw [List.head?_drop] at this
        simpa using this.symm
      have hmid := fun x (hx : x ≤ letN d) => mid_ok hv hs ht hj hq0 hx
      have hp1 : q0.p.1 < d.next.length := (hmid 0 (Nat.zero_le _)).2.1
      have hp2 : q0.p.2 < d.next.length := (hmid 0 (Nat.zero_le _)).2.2.1
      have hwl : q0.xs.length ≤ i := (hmid 0 (Nat.zero_le _)).2.2.2.1
      have hi9 := (hmid 0 (Nat.zero_le _)).2.2.2.2.1
      have hn2 : d.next.length * d.next.length < 10000 := Nat.lt_of_le_of_lt (Nat.mul_le_mul (show d.next.length ≤ 99 by omega) (show d.next.length ≤ 99 by omega)) (by decide)
      have hf1 : q0.p.1 < d.final.length := by have := hv.fin; omega
      have hf2 : q0.p.2 < d.final.length := by have := hv.fin; omega
      obtain ⟨vb1, vc1, g1, s1⟩ := h.rows.get hp1
      obtain ⟨vb2, vc2, g2, s2⟩ := h.rows.get hp2
      have hl1 : d.next[q0.p.1].length = 2 ^ d.vars.toNat := hv.len _ (List.getElem_mem hp1)
      have hl2 : d.next[q0.p.2].length = 2 ^ d.vars.toNat := hv.len _ (List.getElem_mem hp2)
      have hww := hv.width
      refine T.region ?_
      refine TO.quiet (q_move rfl) ?_
      refine TO.quiet (q_ixK (i := 0) Tryd.underlying80 inf79 rfl rfl (rowO (List.mem_of_getElem? (i := 0) rfl)) (by omega) (by rw [qcells_len]; simp)) ?_
      refine TO.quiet (q_ldK (vs := [(.int .i64 ((q0.p.1 : Nat) : Int)), (.int .i64 ((q0.p.2 : Nat) : Int)), (.slice q0.b q0.xs.length q0.c)]) Tryd.underlying79 rfl inf79 rfl rfl (Nat.succ_pos _) (rowO (List.mem_of_getElem? (i := 0) rfl)) (by intro j hj; match j, hj with | 0, _ => rfl | 1, _ => rfl | 2, _ => rfl)) ?_
      refine TO.loud rfl (l_alloc inf79 rfl (fun z4 => ?_))
      refine TO.loud rfl (l_store_box (v := (.agg #[(.int .i64 ((q0.p.1 : Nat) : Int)), (.int .i64 ((q0.p.2 : Nat) : Int)), (.slice q0.b q0.xs.length q0.c)])) (vs := [(.int .i64 ((q0.p.1 : Nat) : Int)), (.int .i64 ((q0.p.2 : Nat) : Int)), (.slice q0.b q0.xs.length q0.c)]) 0 inf79 rfl rfl rfl rfl rfl rfl (by simp [putL]) ?_)
      refine TO.nil ?_
      refine T.seq ?_
      refine T.seq ?_
      refine T.draws [objI z4 (.cells (List.toArray [(.int .i64 ((q0.p.1 : Nat) : Int)), (.int .i64 ((q0.p.2 : Nat) : Int)), (.slice q0.b q0.xs.length q0.c)]) 79 (0, 0)), objI z1 (.cells (List.toArray [(.int .i64 d.vars), (.int .i64 d.start), (.slice nb d.next.length nc), (.slice fb d.final.length fc)]) 25 (0, 0))] [(0, 0), (1, 0), (2, 0), (3, 0), (4, 0), (5, 0), (6, 0), (7, 0), (8, 0), (9, 0), (10, 0), (11, 0), (12, 0), (13, 0), (14, 0)] mixed (by kernel_rfl) (Sub.pick0 [0, 2] [objI z4 (.cells (List.toArray [(.int .i64 ((q0.p.1 : Nat) : Int)), (.int .i64 ((q0.p.2 : Nat) : Int)), (.slice q0.b q0.xs.length q0.c)]) 79 (0, 0)), rowI qb qc 79 3 (qcells (q0 :: rest)), mapI pairV Value.bool mp2 (seenL (bq d s t i)), objI z1 (.cells (List.toArray [(.int .i64 d.vars), (.int .i64 d.start), (.slice nb d.next.length nc), (.slice fb d.final.length fc)]) 25 (0, 0))] (qitms 5 (q0 :: rest)) rfl rfl) (fun _ _ _ h => h) ?_
      refine DO.quiet rfl (q_fieldAddr Tryd.underlying25 rfl inf23 rfl rfl) ?_
      refine DO.quiet rfl (q_load_box 1 Tryd.underlying23 rfl rfl rfl rfl) ?_
      refine DO.quiet rfl (q_fieldAddr Tryd.underlying79 rfl inf76 rfl rfl) ?_
      refine DO.quiet rfl (q_fieldAddr Tryd.underlying76 rfl inf3 rfl rfl) ?_
      refine DO.quiet rfl (q_load_box 0 Tryd.underlying3 rfl rfl rfl rfl) ?_
      refine DO.quiet rfl (q_ix (i := q0.p.1) Tryd.underlying23 inf4 rfl rfl (Sl.o h.final) hf1 (by rw [List.length_map]; exact hf1)) ?_
      refine DO.quiet rfl (q_ld Tryd.underlying4 rfl rfl (Sl.o h.final) (bools_get hf1)) ?_
      refine DO.quiet rfl (q_fieldAddr Tryd.underlying25 rfl inf23 rfl rfl) ?_
      refine DO.quiet rfl (q_load_box 1 Tryd.underlying23 rfl rfl rfl rfl) ?_
      refine DO.quiet rfl (q_fieldAddr Tryd.underlying79 rfl inf76 rfl rfl) ?_
      refine DO.quiet rfl (q_fieldAddr Tryd.underlying76 rfl inf3 rfl rfl) ?_
      refine DO.quiet rfl (q_load_box 0 Tryd.underlying3 rfl rfl rfl rfl) ?_
      refine DO.quiet rfl (q_ix (i := q0.p.2) Tryd.underlying23 inf4 rfl rfl (Sl.o h.final) hf2 (by rw [List.length_map]; exact hf2)) ?_
      refine DO.quiet rfl (q_ld Tryd.underlying4 rfl rfl (Sl.o h.final) (bools_get hf2)) ?_
      refine DO.quiet rfl (q_bneq Tryd.underlying4 rfl rfl) ?_
      refine DO.done ?_
      refine T.cond rfl (fun hc => ?_) (fun hc => ?_)
      · have hne : finN d q0.p.1 ≠ finN d q0.p.2 := by simpa [finN, hf1, hf2] using hc
        refine T.seq ?_
        refine T.region ?_
        refine TO.quiet (q_fieldAddr Tryd.underlying79 rfl inf42 rfl rfl) ?_
        refine TO.quiet (q_load_box 0 Tryd.underlying42 rfl rfl rfl rfl) ?_
        refine TO.quiet (q_assign rfl) ?_
        refine TO.quiet (q_assign rfl) ?_
        refine TO.quiet (q_assign rfl) ?_
        refine TO.nil ?_
        refine T.ret ?_
        refine Res.drop ?_
        refine Res.three (.slice q0.b q0.xs.length q0.c) (.bool true) (.int .i64 0) Tryd.results25 rfl rfl rfl ?_
        exact ⟨[QRec.itm 5 q0], Sub.cnt ([objI z4 (.cells (List.toArray [(.int .i64 ((q0.p.1 : Nat) : Int)), (.int .i64 ((q0.p.2 : Nat) : Int)), (.slice q0.b q0.xs.length q0.c)]) 79 (0, 0)), rowI qb qc 79 3 (qcells (q0 :: rest)), mapI pairV Value.bool mp2 (seenL (bq d s t i)), objI z1 (.cells (List.toArray [(.int .i64 d.vars), (.int .i64 d.start), (.slice nb d.next.length nc), (.slice fb d.final.length fc)]) 25 (0, 0))] ++ qitms 5 rest) (by intro a; simp only [itms, qitms, List.set_cons_zero, List.set_cons_succ, putL, List.cons_append, List.nil_append, List.append_nil, List.append_assoc, List.map_append, List.map_cons, List.map_nil, cnt_append, cnt_cons, cnt_nil] <;> omega), some q0.xs, BfsR.tell hv ⟨i, hj, q0.stp, hq0, hne, rfl⟩, q0.b, q0.c, rfl, rfl⟩
      · have heq : finN d q0.p.1 = finN d q0.p.2 := by simpa [finN, hf1, hf2] using hc
        refine T.skip ?_
        refine T.seq ?_
        refine T.region ?_
        refine TO.quiet (q_fieldAddr Tryd.underlying25 rfl inf3 rfl rfl) ?_
        refine TO.quiet (q_load_box 3 Tryd.underlying3 rfl rfl rfl rfl) ?_
        refine TO.quiet (q_shl1 (v := d.vars.toNat) rfl (by show Value.int _ d.vars = _; rw [Int.toNat_of_nonneg hv.v0]) (by have := hv.v6; omega)) ?_
        refine TO.quiet (q_move rfl) ?_
        refine TO.nil ?_
        refine T.block ?_
        refine T.sub (O' := [rowI qb qc 79 3 (qcells (q0 :: rest)), mapI pairV Value.bool mp2 (seenL (bq d s t i)), objI z4 (.cells (List.toArray [(.int .i64 ((q0.p.1 : Nat) : Int)), (.int .i64 ((q0.p.2 : Nat) : Int)), (.slice q0.b q0.xs.length q0.c)]) 79 (0, 0)), objI z1 (.cells (List.toArray [(.int .i64 d.vars), (.int .i64 d.start), (.slice nb d.next.length nc), (.slice fb d.final.length fc)]) 25 (0, 0))] ++ qitms 5 (q0 :: rest)) (Sub.pickR [1, 1, 0, 0] [objI z4 (.cells (List.toArray [(.int .i64 ((q0.p.1 : Nat) : Int)), (.int .i64 ((q0.p.2 : Nat) : Int)), (.slice q0.b q0.xs.length q0.c)]) 79 (0, 0)), rowI qb qc 79 3 (qcells (q0 :: rest)), mapI pairV Value.bool mp2 (seenL (bq d s t i)), objI z1 (.cells (List.toArray [(.int .i64 d.vars), (.int .i64 d.start), (.slice nb d.next.length nc), (.slice fb d.final.length fc)]) 25 (0, 0))] (qitms 5 (q0 :: rest)) rfl rfl) ?_
        refine T.loop (fun (x : Nat) ρ O => ∃ (qb : Option Addr) (qc m : Nat) (rest : List QRec), O = ([rowI qb qc 79 3 (qcells (q0 :: rest)), mapI pairV Value.bool mp2 (seenL (pushN d q0.stp (bq d s t i) x)), objI z4 (.cells (List.toArray [(.int .i64 ((q0.p.1 : Nat) : Int)), (.int .i64 ((q0.p.2 : Nat) : Int)), (.slice q0.b q0.xs.length q0.c)]) 79 (0, 0)), objI z1 (.cells (List.toArray [(.int .i64 d.vars), (.int .i64 d.start), (.slice nb d.next.length nc), (.slice fb d.final.length fc)]) 25 (0, 0))] ++ qitms 5 (q0 :: rest)) ∧ x ≤ letN d ∧ m = rest.length ∧ (q0 :: rest).map QRec.stp = (pushN d q0.stp (bq d s t i) x).drop i ∧ Heads [(0, (.agg #[(.int .i64 d.vars), (.int .i64 d.start), (.slice nb d.next.length nc), (.slice fb d.final.length fc)])), (1, .int .i64 (s : Int)), (2, .int .i64 (t : Int)), (3, (.pointer (some ⟨z1, 0, none⟩))), (9, .int .i64 ((0 : Nat) : Int)), (10, (.map (some mp2))), (11, (.slice qb (m + 1) qc)), (12, (.pointer (some ⟨z4, 0, none⟩))), (70, .int .i64 ((2 ^ d.vars.toNat : Nat) : Int)), (71, .int .i64 (x : Int))] ρ) (fun x => letN d - x) 0 ?_ ?_
        · exact ⟨qb, qc, m, rest, rfl, Nat.zero_le _, hm, hrs, ⟨rfl, rfl, rfl, rfl, rfl, rfl, rfl, rfl, rfl, rfl, trivial⟩⟩
        · rintro x ρ O ⟨qb, qc, m, rest, rfl, hx9, hm, hrs2, hH⟩
          obtain ⟨ρ0, rfl⟩ := hH.elim
          clear hH
          refine T.seq ?_
          refine T.region ?_
          refine TO.quiet (q_lss rfl rfl) ?_
          refine TO.nil ?_
          refine T.seq ?_
          refine T.condP rfl (fun hc => ?_) (fun hc => ?_)
          · have hlt72 : x < 2 ^ d.vars.toNat := by omega
            have hlx : x < letN d := hlt72
            refine T.skip ?_
            refine T.seq ?_
            refine T.block ?_
            refine T.seq ?_
            refine T.region ?_
            refine TO.quiet (q_move rfl) ?_
            refine TO.quiet (q_assign rfl) ?_
            refine TO.nil ?_
            refine T.seq ?_
            obtain ⟨_, _, hxk1, hx1⟩ := hv.toN_lt hp1 hlt72
            obtain ⟨_, _, hxk2, hx2⟩ := hv.toN_lt hp2 hlt72
            have hx1 : (ints d.next[q0.p.1])[x]? = some (.int .i64 ((toN d q0.p.1 x : Nat) : Int)) := by rw [ints_get hxk1, hx1]
            have hx2 : (ints d.next[q0.p.2])[x]? = some (.int .i64 ((toN d q0.p.2 x : Nat) : Int)) := by rw [ints_get hxk2, hx2]
            refine T.draws [objI z4 (.cells (List.toArray [(.int .i64 ((q0.p.1 : Nat) : Int)), (.int .i64 ((q0.p.2 : Nat) : Int)), (.slice q0.b q0.xs.length q0.c)]) 79 (0, 0)), objI z1 (.cells (List.toArray [(.int .i64 d.vars), (.int .i64 d.start), (.slice nb d.next.length nc), (.slice fb d.final.length fc)]) 25 (0, 0))] [(0, 0), (1, 0), (2, 0), (3, 0), (4, 0), (5, 0), (6, 0), (7, 0), (8, 0), (9, 0), (10, 0), (11, 0), (12, 0), (13, 0), (14, 0), (15, 0), (16, 0), (17, 0), (18, 0), (19, 0), (20, 0), (21, 1), (22, 2)] mixed (by kernel_rfl) (Sub.pick0 [2, 2] [rowI qb qc 79 3 (qcells (q0 :: rest)), mapI pairV Value.bool mp2 (seenL (pushN d q0.stp (bq d s t i) x)), objI z4 (.cells (List.toArray [(.int .i64 ((q0.p.1 : Nat) : Int)), (.int .i64 ((q0.p.2 : Nat) : Int)), (.slice q0.b q0.xs.length q0.c)]) 79 (0, 0)), objI z1 (.cells (List.toArray [(.int .i64 d.vars), (.int .i64 d.start), (.slice nb d.next.length nc), (.slice fb d.final.length fc)]) 25 (0, 0))] (qitms 5 (q0 :: rest)) rfl rfl) (fun _ _ _ h => h) ?_
            refine DO.quiet rfl (q_fieldAddr Tryd.underlying25 rfl inf22 rfl rfl) ?_
            refine DO.quiet rfl (q_load_box 1 Tryd.underlying22 rfl rfl rfl rfl) ?_
            refine DO.quiet rfl (q_fieldAddr Tryd.underlying79 rfl inf76 rfl rfl) ?_
            refine DO.quiet rfl (q_fieldAddr Tryd.underlying76 rfl inf3 rfl rfl) ?_
            refine DO.quiet rfl (q_load_box 0 Tryd.underlying3 rfl rfl rfl rfl) ?_
            refine DO.quiet rfl (q_ix (i := q0.p.1) Tryd.underlying22 inf33 rfl rfl (Sl.o h.outer) hp1 (hvl ▸ hp1)) ?_
            refine DO.quiet rfl (q_ld Tryd.underlying33 rfl rfl (Sl.o h.outer) g1) ?_
            refine DO.quiet rfl (q_move rfl) ?_
            refine DO.quiet rfl (q_ix (i := x) Tryd.underlying33 inf3 rfl rfl (Sl.o s1) (by rw [hl1]; exact hlt72) (by rw [List.length_map, hl1]; exact hlt72)) ?_
            refine DO.quiet rfl (q_ld Tryd.underlying3 rfl rfl (Sl.o s1) hx1) ?_
            refine DO.quiet rfl (q_fieldAddr Tryd.underlying25 rfl inf22 rfl rfl) ?_
            refine DO.quiet rfl (q_load_box 1 Tryd.underlying22 rfl rfl rfl rfl) ?_
            refine DO.quiet rfl (q_fieldAddr Tryd.underlying79 rfl inf76 rfl rfl) ?_
            refine DO.quiet rfl (q_fieldAddr Tryd.underlying76 rfl inf3 rfl rfl) ?_
            refine DO.quiet rfl (q_load_box 0 Tryd.underlying3 rfl rfl rfl rfl) ?_
            refine DO.quiet rfl (q_ix (i := q0.p.2) Tryd.underlying22 inf33 rfl rfl (Sl.o h.outer) hp2 (hvl ▸ hp2)) ?_
            refine DO.quiet rfl (q_ld Tryd.underlying33 rfl rfl (Sl.o h.outer) g2) ?_
            refine DO.quiet rfl (q_move rfl) ?_
            refine DO.quiet rfl (q_ix (i := x) Tryd.underlying33 inf3 rfl rfl (Sl.o s2) (by rw [hl2]; exact hlt72) (by rw [List.length_map, hl2]; exact hlt72)) ?_
            refine DO.quiet rfl (q_ld Tryd.underlying3 rfl rfl (Sl.o s2) hx2) ?_
            refine DO.quiet rfl (q_build (cs := [.int .i64 ((toN d q0.p.1 x : Nat) : Int), .int .i64 ((toN d q0.p.2 x : Nat) : Int)]) plan76 inf76 (by kernel_rfl)) ?_
            refine DO.loud rfl rfl (l_alloc inf76 rfl (fun z5 => ⟨Sub.pick0 [3, 3] [objI z5 (.cells (List.toArray [(.int .i64 0), (.int .i64 0)]) 76 (0, 0)), rowI qb qc 79 3 (qcells (q0 :: rest)), mapI pairV Value.bool mp2 (seenL (pushN d q0.stp (bq d s t i) x)), objI z4 (.cells (List.toArray [(.int .i64 ((q0.p.1 : Nat) : Int)), (.int .i64 ((q0.p.2 : Nat) : Int)), (.slice q0.b q0.xs.length q0.c)]) 79 (0, 0)), objI z1 (.cells (List.toArray [(.int .i64 d.vars), (.int .i64 d.start), (.slice nb d.next.length nc), (.slice fb d.final.length fc)]) 25 (0, 0))] (qitms 5 (q0 :: rest)) rfl rfl, ?_⟩))
            refine DO.last rfl rfl (l_store_box (v := (.agg #[.int .i64 ((toN d q0.p.1 x : Nat) : Int), .int .i64 ((toN d q0.p.2 x : Nat) : Int)])) (vs := [.int .i64 ((toN d q0.p.1 x : Nat) : Int), .int .i64 ((toN d q0.p.2 x : Nat) : Int)]) 0 inf76 rfl rfl rfl rfl rfl rfl (by simp [putL]) ?_)
            refine DO.done ?_
            refine T.seq ?_
            refine T.region ?_
            refine TO.quiet (q_move rfl) ?_
            refine TO.quiet (q_load_boxAgg 0 Tryd.underlying76 rfl inf76 rfl rfl rfl) ?_
            by_cases hin : suc2 d q0.p x ∈ (pushN d q0.stp (bq d s t i) x).map Prod.fst
            · refine TO.quiet (QT.toB (QT.cast (q_lookup (a := cast2 (suc2 d q0.p x)) Tryd.underlying77 inf4 (KeyOk.pair pair76) rfl rfl (List.mem_of_getElem? (i := 2) rfl)) (v' := .bool (decide (suc2 d q0.p x ∈ (pushN d q0.stp (bq d s t i) x).map Prod.fst))) (look_seenV _ _)) (decide_eq_true hin)) ?_
              refine TO.quiet (q_not rfl) ?_
              refine TO.nil ?_
              refine T.cond0 rfl ?_
              refine T.skip ?_
              refine T.region ?_
              refine TO.quiet (q_inc rfl rfl (by omega)) ?_
              refine TO.quiet (q_move rfl) ?_
              refine TO.sub (O' := ([rowI qb qc 79 3 (qcells (q0 :: rest)), mapI pairV Value.bool mp2 (seenL (pushN d q0.stp (bq d s t i) x)), objI z4 (.cells (List.toArray [(.int .i64 ((q0.p.1 : Nat) : Int)), (.int .i64 ((q0.p.2 : Nat) : Int)), (.slice q0.b q0.xs.length q0.c)]) 79 (0, 0)), objI z1 (.cells (List.toArray [(.int .i64 d.vars), (.int .i64 d.start), (.slice nb d.next.length nc), (.slice fb d.final.length fc)]) 25 (0, 0))] ++ qitms 5 (q0 :: rest))) (Sub.pickR [1, 1, 1, 1] [objI z5 (.cells (List.toArray [.int .i64 ((toN d q0.p.1 x : Nat) : Int), .int .i64 ((toN d q0.p.2 x : Nat) : Int)]) 76 (0, 0)), rowI qb qc 79 3 (qcells (q0 :: rest)), mapI pairV Value.bool mp2 (seenL (pushN d q0.stp (bq d s t i) x)), objI z4 (.cells (List.toArray [(.int .i64 ((q0.p.1 : Nat) : Int)), (.int .i64 ((q0.p.2 : Nat) : Int)), (.slice q0.b q0.xs.length q0.c)]) 79 (0, 0)), objI z1 (.cells (List.toArray [(.int .i64 d.vars), (.int .i64 d.start), (.slice nb d.next.length nc), (.slice fb d.final.length fc)]) 25 (0, 0))] (qitms 5 (q0 :: rest)) rfl rfl) ?_
              refine TO.nil ?_
              have hA : pushN d q0.stp (bq d s t i) (x + 1) = (pushN d q0.stp (bq d s t i) x) := by
                show pushS d q0.stp _ x = _
                unfold pushS
                exact if_pos hin
              refine ⟨x + 1, by omega, qb, qc, m, rest, by rw [hA], by omega, hm, by rw [hA]; exact hrs2, ⟨rfl, rfl, rfl, rfl, rfl, rfl, rfl, rfl, rfl, rfl, trivial⟩⟩
            · refine TO.quiet (QT.toB (QT.cast (q_lookup (a := cast2 (suc2 d q0.p x)) Tryd.underlying77 inf4 (KeyOk.pair pair76) rfl rfl (List.mem_of_getElem? (i := 2) rfl)) (v' := .bool (decide (suc2 d q0.p x ∈ (pushN d q0.stp (bq d s t i) x).map Prod.fst))) (look_seenV _ _)) (decide_eq_false hin)) ?_
              refine TO.quiet (q_not rfl) ?_
              refine TO.nil ?_
              refine T.cond1 rfl ?_
              refine T.seq ?_
              refine T.region ?_
              refine TO.quiet (q_move rfl) ?_
              refine TO.quiet (q_load_boxAgg 0 Tryd.underlying76 rfl inf76 rfl rfl rfl) ?_
              refine TO.loud rfl (l_mapPut (a := cast2 (suc2 d q0.p x)) (v := true) 2 Tryd.underlying77 (KeyOk.pair pair76) rfl rfl rfl rfl (seen_fresh hin) ?_)
              refine TO.nil ?_
              have hRR : ∀ wb2 wc2, rowI wb2 wc2 5 1 ((byts q0.xs) ++ [(.int .u8 (x : Int))]) = QRec.itm 5 ⟨suc2 d q0.p x, wb2, wc2, q0.xs ++ [x]⟩ := fun _ _ => by simp [QRec.itm]
              have hrl : rest.length + 1 ≤ d.next.length * d.next.length := by
                have := congrArg List.length hrs2
                simp at this
                have := (hmid x hx9).1
                omega
              have hil := (hmid x hx9).2.2.2.2.2
              refine T.cut1 (fun ρ O => ∃ (qb2 : Option Addr) (qc2 : Nat) (wb2 : Option Addr) (wc2 : Nat), O = ([rowI qb2 qc2 79 3 ((qcells (q0 :: rest)) ++ [(.int .i64 ((toN d q0.p.1 x : Nat) : Int)), (.int .i64 ((toN d q0.p.2 x : Nat) : Int)), (.slice wb2 (q0.xs.length + 1) wc2)]), objI z5 (.cells (List.toArray [.int .i64 ((toN d q0.p.1 x : Nat) : Int), .int .i64 ((toN d q0.p.2 x : Nat) : Int)]) 76 (0, 0)), mapI pairV Value.bool mp2 ((seenL (pushN d q0.stp (bq d s t i) x)) ++ [(cast2 (suc2 d q0.p x), true)]), objI z4 (.cells (List.toArray [(.int .i64 ((q0.p.1 : Nat) : Int)), (.int .i64 ((q0.p.2 : Nat) : Int)), (.slice q0.b q0.xs.length q0.c)]) 79 (0, 0)), objI z1 (.cells (List.toArray [(.int .i64 d.vars), (.int .i64 d.start), (.slice nb d.next.length nc), (.slice fb d.final.length fc)]) 25 (0, 0))] ++ qitms 5 (q0 :: (rest ++ [⟨suc2 d q0.p x, wb2, wc2, q0.xs ++ [x]⟩]))) ∧ Heads [(0, (.agg #[(.int .i64 d.vars), (.int .i64 d.start), (.slice nb d.next.length nc), (.slice fb d.final.length fc)])), (1, .int .i64 (s : Int)), (2, .int .i64 (t : Int)), (3, (.pointer (some ⟨z1, 0, none⟩))), (9, .int .i64 ((0 : Nat) : Int)), (10, (.map (some mp2))), (11, (.slice qb2 (m + 1 + 1) qc2)), (12, (.pointer (some ⟨z4, 0, none⟩))), (13, .int .i64 (x : Int)), (14, (.pointer (some ⟨z5, 0, none⟩))), (70, .int .i64 ((2 ^ d.vars.toNat : Nat) : Int)), (71, .int .i64 (x : Int))] ρ) ?_ ?_
              · refine T.tree [objI z5 (.cells (List.toArray [.int .i64 ((toN d q0.p.1 x : Nat) : Int), .int .i64 ((toN d q0.p.2 x : Nat) : Int)]) 76 (0, 0)), objI z4 (.cells (List.toArray [(.int .i64 ((q0.p.1 : Nat) : Int)), (.int .i64 ((q0.p.2 : Nat) : Int)), (.slice q0.b q0.xs.length q0.c)]) 79 (0, 0)), objI z1 (.cells (List.toArray [(.int .i64 d.vars), (.int .i64 d.start), (.slice nb d.next.length nc), (.slice fb d.final.length fc)]) 25 (0, 0))] 13 mixed rfl (Sub.pick0 [0, 2, 2] [objI z5 (.cells (List.toArray [.int .i64 ((toN d q0.p.1 x : Nat) : Int), .int .i64 ((toN d q0.p.2 x : Nat) : Int)]) 76 (0, 0)), rowI qb qc 79 3 (qcells (q0 :: rest)), mapI pairV Value.bool mp2 ((seenL (pushN d q0.stp (bq d s t i) x)) ++ [(cast2 (suc2 d q0.p x), true)]), objI z4 (.cells (List.toArray [(.int .i64 ((q0.p.1 : Nat) : Int)), (.int .i64 ((q0.p.2 : Nat) : Int)), (.slice q0.b q0.xs.length q0.c)]) 79 (0, 0)), objI z1 (.cells (List.toArray [(.int .i64 d.vars), (.int .i64 d.start), (.slice nb d.next.length nc), (.slice fb d.final.length fc)]) 25 (0, 0))] (qitms 5 (q0 :: rest)) rfl rfl) (fun _ _ _ h => h) ?_
                refine RO.quietT 0 rfl (by kernel_rfl) (q_move rfl) ?_
                refine RO.quietT 1 rfl (by kernel_rfl) (q_load_boxAgg 0 Tryd.underlying76 rfl inf76 rfl rfl rfl) ?_
                refine RO.quietT 2 rfl (by kernel_rfl) (q_fieldAddr Tryd.underlying79 rfl inf42 rfl rfl) ?_
                refine RO.quietT 3 rfl (by kernel_rfl) (q_load_box 1 Tryd.underlying42 rfl rfl rfl rfl) ?_
                refine RO.quietT 5 rfl (by kernel_rfl) (q_move rfl) ?_
                refine RO.quietT 6 rfl (by kernel_rfl) (q_conv_id Tryd.underlying3 Tryd.underlying5 rfl (wrap8 (by omega))) ?_
                have hk105 := fun (w1 : World) (hI : Inv w ([objI z5 (.cells (List.toArray [.int .i64 ((toN d q0.p.1 x : Nat) : Int), .int .i64 ((toN d q0.p.2 x : Nat) : Int)]) 76 (0, 0)), rowI qb qc 79 3 (qcells (q0 :: rest)), mapI pairV Value.bool mp2 ((seenL (pushN d q0.stp (bq d s t i) x)) ++ [(cast2 (suc2 d q0.p x), true)]), objI z4 (.cells (List.toArray [(.int .i64 ((q0.p.1 : Nat) : Int)), (.int .i64 ((q0.p.2 : Nat) : Int)), (.slice q0.b q0.xs.length q0.c)]) 79 (0, 0)), objI z1 (.cells (List.toArray [(.int .i64 d.vars), (.int .i64 d.start), (.slice nb d.next.length nc), (.slice fb d.final.length fc)]) 25 (0, 0))] ++ qitms 5 (q0 :: rest)) w1) => cloneC w1 q0.b q0.c q0.xs (hI.slOf (T := 5) (k := 1) (List.mem_append_right _ List.mem_cons_self)) (by omega)
                refine RO.fork [4, 7] (by kernel_rfl) rfl ⟨⟨_, rfl, rfl, l_call ent52 (CallT.of_pure hk105) rfl ?_⟩, ⟨_, rfl, rfl, l_build1 (v := .int .u8 (x : Int)) Tryd.underlying42 inf5 rfl rfl rfl (fun zA => ⟨Sub.pick0 [1, 3, 3] [rowI (some ⟨zA, 0, none⟩) 1 5 1 [.int .u8 (x : Int)], objI z5 (.cells (List.toArray [.int .i64 ((toN d q0.p.1 x : Nat) : Int), .int .i64 ((toN d q0.p.2 x : Nat) : Int)]) 76 (0, 0)), rowI qb qc 79 3 (qcells (q0 :: rest)), mapI pairV Value.bool mp2 ((seenL (pushN d q0.stp (bq d s t i) x)) ++ [(cast2 (suc2 d q0.p x), true)]), objI z4 (.cells (List.toArray [(.int .i64 ((q0.p.1 : Nat) : Int)), (.int .i64 ((q0.p.2 : Nat) : Int)), (.slice q0.b q0.xs.length q0.c)]) 79 (0, 0)), objI z1 (.cells (List.toArray [(.int .i64 d.vars), (.int .i64 d.start), (.slice nb d.next.length nc), (.slice fb d.final.length fc)]) 25 (0, 0))] (qitms 5 (q0 :: rest)) rfl rfl, ?_⟩)⟩, trivial⟩
                · clear hk105
                  rintro v O' ⟨N, rfl, wb, wc, rfl, rfl⟩
                  refine ⟨Sub.pick0 [1, 3, 3] [rowI wb wc 5 1 (byts q0.xs), objI z5 (.cells (List.toArray [.int .i64 ((toN d q0.p.1 x : Nat) : Int), .int .i64 ((toN d q0.p.2 x : Nat) : Int)]) 76 (0, 0)), rowI qb qc 79 3 (qcells (q0 :: rest)), mapI pairV Value.bool mp2 ((seenL (pushN d q0.stp (bq d s t i) x)) ++ [(cast2 (suc2 d q0.p x), true)]), objI z4 (.cells (List.toArray [(.int .i64 ((q0.p.1 : Nat) : Int)), (.int .i64 ((q0.p.2 : Nat) : Int)), (.slice q0.b q0.xs.length q0.c)]) 79 (0, 0)), objI z1 (.cells (List.toArray [(.int .i64 d.vars), (.int .i64 d.start), (.slice nb d.next.length nc), (.slice fb d.final.length fc)]) 25 (0, 0))] (qitms 5 (q0 :: rest)) rfl rfl, ?_⟩
                  refine RO.fork [7] (by kernel_rfl) rfl ⟨⟨_, rfl, rfl, l_build1 (v := .int .u8 (x : Int)) Tryd.underlying42 inf5 rfl rfl rfl (fun zA => ⟨Sub.pick0 [2, 4, 4] [rowI (some ⟨zA, 0, none⟩) 1 5 1 [.int .u8 (x : Int)], rowI wb wc 5 1 (byts q0.xs), objI z5 (.cells (List.toArray [.int .i64 ((toN d q0.p.1 x : Nat) : Int), .int .i64 ((toN d q0.p.2 x : Nat) : Int)]) 76 (0, 0)), rowI qb qc 79 3 (qcells (q0 :: rest)), mapI pairV Value.bool mp2 ((seenL (pushN d q0.stp (bq d s t i) x)) ++ [(cast2 (suc2 d q0.p x), true)]), objI z4 (.cells (List.toArray [(.int .i64 ((q0.p.1 : Nat) : Int)), (.int .i64 ((q0.p.2 : Nat) : Int)), (.slice q0.b q0.xs.length q0.c)]) 79 (0, 0)), objI z1 (.cells (List.toArray [(.int .i64 d.vars), (.int .i64 d.start), (.slice nb d.next.length nc), (.slice fb d.final.length fc)]) 25 (0, 0))] (qitms 5 (q0 :: rest)) rfl rfl, ?_⟩)⟩, trivial⟩
                  refine RO.fork [8] (by kernel_rfl) rfl ⟨⟨_, rfl, rfl, l_append 1 Tryd.underlying42 Tryd.underlying42 inf5 rfl rfl rfl rfl (by rw [List.length_map, Nat.mul_one]) (by decide) (Src.row (j := 0) rfl (by simp)) (by simp [oneB]) (by omega) (by decide) (by decide) (fun wb2 wc2 => ⟨Sub.pick0 [2, 4, 4] [rowI (some ⟨zA, 0, none⟩) 1 5 1 [.int .u8 (x : Int)], rowI wb2 wc2 5 1 ((byts q0.xs) ++ [.int .u8 (x : Int)]), objI z5 (.cells (List.toArray [.int .i64 ((toN d q0.p.1 x : Nat) : Int), .int .i64 ((toN d q0.p.2 x : Nat) : Int)]) 76 (0, 0)), rowI qb qc 79 3 (qcells (q0 :: rest)), mapI pairV Value.bool mp2 ((seenL (pushN d q0.stp (bq d s t i) x)) ++ [(cast2 (suc2 d q0.p x), true)]), objI z4 (.cells (List.toArray [(.int .i64 ((q0.p.1 : Nat) : Int)), (.int .i64 ((q0.p.2 : Nat) : Int)), (.slice q0.b q0.xs.length q0.c)]) 79 (0, 0)), objI z1 (.cells (List.toArray [(.int .i64 d.vars), (.int .i64 d.start), (.slice nb d.next.length nc), (.slice fb d.final.length fc)]) 25 (0, 0))] (qitms 5 (q0 :: rest)) rfl rfl, ?_⟩)⟩, trivial⟩
                  refine RO.quietT 9 rfl (by kernel_rfl) (q_build (cs := [.int .i64 ((toN d q0.p.1 x : Nat) : Int), .int .i64 ((toN d q0.p.2 x : Nat) : Int), (.slice wb2 (q0.xs.length + 1) wc2)]) plan79 inf79 (by kernel_rfl)) ?_
                  refine RO.fork [10] (by kernel_rfl) rfl ⟨⟨_, rfl, rfl, l_buildSlice (m := 1) (parts := [(0, _)]) (cs := [.int .i64 ((toN d q0.p.1 x : Nat) : Int), .int .i64 ((toN d q0.p.2 x : Nat) : Int), (.slice wb2 (q0.xs.length + 1) wc2)]) Tryd.underlying80 inf79 (by decide) (by kernel_rfl) rfl (fun zB => ⟨Sub.pick0 [3, 5, 5] [rowI (some ⟨zB, 0, none⟩) 1 79 3 [.int .i64 ((toN d q0.p.1 x : Nat) : Int), .int .i64 ((toN d q0.p.2 x : Nat) : Int), (.slice wb2 (q0.xs.length + 1) wc2)], rowI (some ⟨zA, 0, none⟩) 1 5 1 [.int .u8 (x : Int)], rowI wb2 wc2 5 1 ((byts q0.xs) ++ [.int .u8 (x : Int)]), objI z5 (.cells (List.toArray [.int .i64 ((toN d q0.p.1 x : Nat) : Int), .int .i64 ((toN d q0.p.2 x : Nat) : Int)]) 76 (0, 0)), rowI qb qc 79 3 (qcells (q0 :: rest)), mapI pairV Value.bool mp2 ((seenL (pushN d q0.stp (bq d s t i) x)) ++ [(cast2 (suc2 d q0.p x), true)]), objI z4 (.cells (List.toArray [(.int .i64 ((q0.p.1 : Nat) : Int)), (.int .i64 ((q0.p.2 : Nat) : Int)), (.slice q0.b q0.xs.length q0.c)]) 79 (0, 0)), objI z1 (.cells (List.toArray [(.int .i64 d.vars), (.int .i64 d.start), (.slice nb d.next.length nc), (.slice fb d.final.length fc)]) 25 (0, 0))] (qitms 5 (q0 :: rest)) rfl rfl, ?_⟩)⟩, trivial⟩
                  refine RO.fork [11] (by kernel_rfl) rfl ⟨⟨_, rfl, rfl, l_append 4 Tryd.underlying80 Tryd.underlying80 inf79 rfl rfl rfl rfl (by rw [qcells_len, hm]; rfl) (by decide) (Src.row (j := 0) rfl (by simp)) (by simp [oneB]) (by omega) (by decide) (by decide) (fun qb2 qc2 => ⟨Sub.pick0 [3, 5, 5] [rowI (some ⟨zB, 0, none⟩) 1 79 3 [.int .i64 ((toN d q0.p.1 x : Nat) : Int), .int .i64 ((toN d q0.p.2 x : Nat) : Int), (.slice wb2 (q0.xs.length + 1) wc2)], rowI (some ⟨zA, 0, none⟩) 1 5 1 [.int .u8 (x : Int)], rowI wb2 wc2 5 1 ((byts q0.xs) ++ [.int .u8 (x : Int)]), objI z5 (.cells (List.toArray [.int .i64 ((toN d q0.p.1 x : Nat) : Int), .int .i64 ((toN d q0.p.2 x : Nat) : Int)]) 76 (0, 0)), rowI qb2 qc2 79 3 ((qcells (q0 :: rest)) ++ [.int .i64 ((toN d q0.p.1 x : Nat) : Int), .int .i64 ((toN d q0.p.2 x : Nat) : Int), (.slice wb2 (q0.xs.length + 1) wc2)]), mapI pairV Value.bool mp2 ((seenL (pushN d q0.stp (bq d s t i) x)) ++ [(cast2 (suc2 d q0.p x), true)]), objI z4 (.cells (List.toArray [(.int .i64 ((q0.p.1 : Nat) : Int)), (.int .i64 ((q0.p.2 : Nat) : Int)), (.slice q0.b q0.xs.length q0.c)]) 79 (0, 0)), objI z1 (.cells (List.toArray [(.int .i64 d.vars), (.int .i64 d.start), (.slice nb d.next.length nc), (.slice fb d.final.length fc)]) 25 (0, 0))] (qitms 5 (q0 :: rest)) rfl rfl, ?_⟩)⟩, trivial⟩
                  refine RO.quietT 12 rfl (by kernel_rfl) (q_assign rfl) ?_
                  exact RO.sub (O' := ([rowI qb2 qc2 79 3 ((qcells (q0 :: rest)) ++ [(.int .i64 ((toN d q0.p.1 x : Nat) : Int)), (.int .i64 ((toN d q0.p.2 x : Nat) : Int)), (.slice wb2 (q0.xs.length + 1) wc2)]), objI z5 (.cells (List.toArray [.int .i64 ((toN d q0.p.1 x : Nat) : Int), .int .i64 ((toN d q0.p.2 x : Nat) : Int)]) 76 (0, 0)), mapI pairV Value.bool mp2 ((seenL (pushN d q0.stp (bq d s t i) x)) ++ [(cast2 (suc2 d q0.p x), true)]), objI z4 (.cells (List.toArray [(.int .i64 ((q0.p.1 : Nat) : Int)), (.int .i64 ((q0.p.2 : Nat) : Int)), (.slice q0.b q0.xs.length q0.c)]) 79 (0, 0)), objI z1 (.cells (List.toArray [(.int .i64 d.vars), (.int .i64 d.start), (.slice nb d.next.length nc), (.slice fb d.final.length fc)]) 25 (0, 0))] ++ qitms 5 (q0 :: (rest ++ [⟨suc2 d q0.p x, wb2, wc2, q0.xs ++ [x]⟩])))) (by show Sub _ ([rowI (some ⟨zB, 0, none⟩) 1 79 3 [.int .i64 ((toN d q0.p.1 x : Nat) : Int), .int .i64 ((toN d q0.p.2 x : Nat) : Int), (.slice wb2 (q0.xs.length + 1) wc2)], rowI (some ⟨zA, 0, none⟩) 1 5 1 [.int .u8 (x : Int)], rowI wb2 wc2 5 1 ((byts q0.xs) ++ [.int .u8 (x : Int)]), objI z5 (.cells (List.toArray [.int .i64 ((toN d q0.p.1 x : Nat) : Int), .int .i64 ((toN d q0.p.2 x : Nat) : Int)]) 76 (0, 0)), rowI qb2 qc2 79 3 ((qcells (q0 :: rest)) ++ [.int .i64 ((toN d q0.p.1 x : Nat) : Int), .int .i64 ((toN d q0.p.2 x : Nat) : Int), (.slice wb2 (q0.xs.length + 1) wc2)]), mapI pairV Value.bool mp2 ((seenL (pushN d q0.stp (bq d s t i) x)) ++ [(cast2 (suc2 d q0.p x), true)]), objI z4 (.cells (List.toArray [(.int .i64 ((q0.p.1 : Nat) : Int)), (.int .i64 ((q0.p.2 : Nat) : Int)), (.slice q0.b q0.xs.length q0.c)]) 79 (0, 0)), objI z1 (.cells (List.toArray [(.int .i64 d.vars), (.int .i64 d.start), (.slice nb d.next.length nc), (.slice fb d.final.length fc)]) 25 (0, 0))] ++ qitms 5 (q0 :: rest)); rw [hRR]; exact Sub.cnt [rowI (some ⟨zB, 0, none⟩) 1 79 3 [.int .i64 ((toN d q0.p.1 x : Nat) : Int), .int .i64 ((toN d q0.p.2 x : Nat) : Int), (.slice wb2 (q0.xs.length + 1) wc2)], rowI (some ⟨zA, 0, none⟩) 1 5 1 [.int .u8 (x : Int)]] (by intro a; simp only [itms, qitms, List.set_cons_zero, List.set_cons_succ, putL, List.cons_append, List.nil_append, List.append_nil, List.append_assoc, List.map_append, List.map_cons, List.map_nil, cnt_append, cnt_cons, cnt_nil] <;> omega)) (RO.done (by kernel_rfl) ⟨qb2, qc2, wb2, wc2, rfl, ⟨rfl, rfl, rfl, rfl, rfl, rfl, rfl, rfl, rfl, rfl, rfl, rfl, trivial⟩⟩)
                · have hk105 := fun (w1 : World) (hI : Inv w ([rowI (some ⟨zA, 0, none⟩) 1 5 1 [.int .u8 (x : Int)], objI z5 (.cells (List.toArray [.int .i64 ((toN d q0.p.1 x : Nat) : Int), .int .i64 ((toN d q0.p.2 x : Nat) : Int)]) 76 (0, 0)), rowI qb qc 79 3 (qcells (q0 :: rest)), mapI pairV Value.bool mp2 ((seenL (pushN d q0.stp (bq d s t i) x)) ++ [(cast2 (suc2 d q0.p x), true)]), objI z4 (.cells (List.toArray [(.int .i64 ((q0.p.1 : Nat) : Int)), (.int .i64 ((q0.p.2 : Nat) : Int)), (.slice q0.b q0.xs.length q0.c)]) 79 (0, 0)), objI z1 (.cells (List.toArray [(.int .i64 d.vars), (.int .i64 d.start), (.slice nb d.next.length nc), (.slice fb d.final.length fc)]) 25 (0, 0))] ++ qitms 5 (q0 :: rest)) w1) => cloneC w1 q0.b q0.c q0.xs (hI.slOf (T := 5) (k := 1) (List.mem_append_right _ List.mem_cons_self)) (by omega)
                  refine RO.fork [4] (by kernel_rfl) rfl ⟨⟨_, rfl, rfl, l_call ent52 (CallT.of_pure hk105) rfl ?_⟩, trivial⟩
                  clear hk105
                  rintro v O' ⟨N, rfl, wb, wc, rfl, rfl⟩
                  refine ⟨Sub.pick0 [2, 4, 4] [rowI wb wc 5 1 (byts q0.xs), rowI (some ⟨zA, 0, none⟩) 1 5 1 [.int .u8 (x : Int)], objI z5 (.cells (List.toArray [.int .i64 ((toN d q0.p.1 x : Nat) : Int), .int .i64 ((toN d q0.p.2 x : Nat) : Int)]) 76 (0, 0)), rowI qb qc 79 3 (qcells (q0 :: rest)), mapI pairV Value.bool mp2 ((seenL (pushN d q0.stp (bq d s t i) x)) ++ [(cast2 (suc2 d q0.p x), true)]), objI z4 (.cells (List.toArray [(.int .i64 ((q0.p.1 : Nat) : Int)), (.int .i64 ((q0.p.2 : Nat) : Int)), (.slice q0.b q0.xs.length q0.c)]) 79 (0, 0)), objI z1 (.cells (List.toArray [(.int .i64 d.vars), (.int .i64 d.start), (.slice nb d.next.length nc), (.slice fb d.final.length fc)]) 25 (0, 0))] (qitms 5 (q0 :: rest)) rfl rfl, ?_⟩
                  refine RO.fork [8] (by kernel_rfl) rfl ⟨⟨_, rfl, rfl, l_append 0 Tryd.underlying42 Tryd.underlying42 inf5 rfl rfl rfl rfl (by rw [List.length_map, Nat.mul_one]) (by decide) (Src.row (j := 1) rfl (by simp)) (by simp [oneB]) (by omega) (by decide) (by decide) (fun wb2 wc2 => ⟨Sub.pick0 [2, 4, 4] [rowI wb2 wc2 5 1 ((byts q0.xs) ++ [.int .u8 (x : Int)]), rowI (some ⟨zA, 0, none⟩) 1 5 1 [.int .u8 (x : Int)], objI z5 (.cells (List.toArray [.int .i64 ((toN d q0.p.1 x : Nat) : Int), .int .i64 ((toN d q0.p.2 x : Nat) : Int)]) 76 (0, 0)), rowI qb qc 79 3 (qcells (q0 :: rest)), mapI pairV Value.bool mp2 ((seenL (pushN d q0.stp (bq d s t i) x)) ++ [(cast2 (suc2 d q0.p x), true)]), objI z4 (.cells (List.toArray [(.int .i64 ((q0.p.1 : Nat) : Int)), (.int .i64 ((q0.p.2 : Nat) : Int)), (.slice q0.b q0.xs.length q0.c)]) 79 (0, 0)), objI z1 (.cells (List.toArray [(.int .i64 d.vars), (.int .i64 d.start), (.slice nb d.next.length nc), (.slice fb d.final.length fc)]) 25 (0, 0))] (qitms 5 (q0 :: rest)) rfl rfl, ?_⟩)⟩, trivial⟩
                  refine RO.quietT 9 rfl (by kernel_rfl) (q_build (cs := [.int .i64 ((toN d q0.p.1 x : Nat) : Int), .int .i64 ((toN d q0.p.2 x : Nat) : Int), (.slice wb2 (q0.xs.length + 1) wc2)]) plan79 inf79 (by kernel_rfl)) ?_
                  refine RO.fork [10] (by kernel_rfl) rfl ⟨⟨_, rfl, rfl, l_buildSlice (m := 1) (parts := [(0, _)]) (cs := [.int .i64 ((toN d q0.p.1 x : Nat) : Int), .int .i64 ((toN d q0.p.2 x : Nat) : Int), (.slice wb2 (q0.xs.length + 1) wc2)]) Tryd.underlying80 inf79 (by decide) (by kernel_rfl) rfl (fun zB => ⟨Sub.pick0 [3, 5, 5] [rowI (some ⟨zB, 0, none⟩) 1 79 3 [.int .i64 ((toN d q0.p.1 x : Nat) : Int), .int .i64 ((toN d q0.p.2 x : Nat) : Int), (.slice wb2 (q0.xs.length + 1) wc2)], rowI wb2 wc2 5 1 ((byts q0.xs) ++ [.int .u8 (x : Int)]), rowI (some ⟨zA, 0, none⟩) 1 5 1 [.int .u8 (x : Int)], objI z5 (.cells (List.toArray [.int .i64 ((toN d q0.p.1 x : Nat) : Int), .int .i64 ((toN d q0.p.2 x : Nat) : Int)]) 76 (0, 0)), rowI qb qc 79 3 (qcells (q0 :: rest)), mapI pairV Value.bool mp2 ((seenL (pushN d q0.stp (bq d s t i) x)) ++ [(cast2 (suc2 d q0.p x), true)]), objI z4 (.cells (List.toArray [(.int .i64 ((q0.p.1 : Nat) : Int)), (.int .i64 ((q0.p.2 : Nat) : Int)), (.slice q0.b q0.xs.length q0.c)]) 79 (0, 0)), objI z1 (.cells (List.toArray [(.int .i64 d.vars), (.int .i64 d.start), (.slice nb d.next.length nc), (.slice fb d.final.length fc)]) 25 (0, 0))] (qitms 5 (q0 :: rest)) rfl rfl, ?_⟩)⟩, trivial⟩
                  refine RO.fork [11] (by kernel_rfl) rfl ⟨⟨_, rfl, rfl, l_append 4 Tryd.underlying80 Tryd.underlying80 inf79 rfl rfl rfl rfl (by rw [qcells_len, hm]; rfl) (by decide) (Src.row (j := 0) rfl (by simp)) (by simp [oneB]) (by omega) (by decide) (by decide) (fun qb2 qc2 => ⟨Sub.pick0 [3, 5, 5] [rowI (some ⟨zB, 0, none⟩) 1 79 3 [.int .i64 ((toN d q0.p.1 x : Nat) : Int), .int .i64 ((toN d q0.p.2 x : Nat) : Int), (.slice wb2 (q0.xs.length + 1) wc2)], rowI wb2 wc2 5 1 ((byts q0.xs) ++ [.int .u8 (x : Int)]), rowI (some ⟨zA, 0, none⟩) 1 5 1 [.int .u8 (x : Int)], objI z5 (.cells (List.toArray [.int .i64 ((toN d q0.p.1 x : Nat) : Int), .int .i64 ((toN d q0.p.2 x : Nat) : Int)]) 76 (0, 0)), rowI qb2 qc2 79 3 ((qcells (q0 :: rest)) ++ [.int .i64 ((toN d q0.p.1 x : Nat) : Int), .int .i64 ((toN d q0.p.2 x : Nat) : Int), (.slice wb2 (q0.xs.length + 1) wc2)]), mapI pairV Value.bool mp2 ((seenL (pushN d q0.stp (bq d s t i) x)) ++ [(cast2 (suc2 d q0.p x), true)]), objI z4 (.cells (List.toArray [(.int .i64 ((q0.p.1 : Nat) : Int)), (.int .i64 ((q0.p.2 : Nat) : Int)), (.slice q0.b q0.xs.length q0.c)]) 79 (0, 0)), objI z1 (.cells (List.toArray [(.int .i64 d.vars), (.int .i64 d.start), (.slice nb d.next.length nc), (.slice fb d.final.length fc)]) 25 (0, 0))] (qitms 5 (q0 :: rest)) rfl rfl, ?_⟩)⟩, trivial⟩
                  refine RO.quietT 12 rfl (by kernel_rfl) (q_assign rfl) ?_
                  exact RO.sub (O' := ([rowI qb2 qc2 79 3 ((qcells (q0 :: rest)) ++ [(.int .i64 ((toN d q0.p.1 x : Nat) : Int)), (.int .i64 ((toN d q0.p.2 x : Nat) : Int)), (.slice wb2 (q0.xs.length + 1) wc2)]), objI z5 (.cells (List.toArray [.int .i64 ((toN d q0.p.1 x : Nat) : Int), .int .i64 ((toN d q0.p.2 x : Nat) : Int)]) 76 (0, 0)), mapI pairV Value.bool mp2 ((seenL (pushN d q0.stp (bq d s t i) x)) ++ [(cast2 (suc2 d q0.p x), true)]), objI z4 (.cells (List.toArray [(.int .i64 ((q0.p.1 : Nat) : Int)), (.int .i64 ((q0.p.2 : Nat) : Int)), (.slice q0.b q0.xs.length q0.c)]) 79 (0, 0)), objI z1 (.cells (List.toArray [(.int .i64 d.vars), (.int .i64 d.start), (.slice nb d.next.length nc), (.slice fb d.final.length fc)]) 25 (0, 0))] ++ qitms 5 (q0 :: (rest ++ [⟨suc2 d q0.p x, wb2, wc2, q0.xs ++ [x]⟩])))) (by show Sub _ ([rowI (some ⟨zB, 0, none⟩) 1 79 3 [.int .i64 ((toN d q0.p.1 x : Nat) : Int), .int .i64 ((toN d q0.p.2 x : Nat) : Int), (.slice wb2 (q0.xs.length + 1) wc2)], rowI wb2 wc2 5 1 ((byts q0.xs) ++ [.int .u8 (x : Int)]), rowI (some ⟨zA, 0, none⟩) 1 5 1 [.int .u8 (x : Int)], objI z5 (.cells (List.toArray [.int .i64 ((toN d q0.p.1 x : Nat) : Int), .int .i64 ((toN d q0.p.2 x : Nat) : Int)]) 76 (0, 0)), rowI qb2 qc2 79 3 ((qcells (q0 :: rest)) ++ [.int .i64 ((toN d q0.p.1 x : Nat) : Int), .int .i64 ((toN d q0.p.2 x : Nat) : Int), (.slice wb2 (q0.xs.length + 1) wc2)]), mapI pairV Value.bool mp2 ((seenL (pushN d q0.stp (bq d s t i) x)) ++ [(cast2 (suc2 d q0.p x), true)]), objI z4 (.cells (List.toArray [(.int .i64 ((q0.p.1 : Nat) : Int)), (.int .i64 ((q0.p.2 : Nat) : Int)), (.slice q0.b q0.xs.length q0.c)]) 79 (0, 0)), objI z1 (.cells (List.toArray [(.int .i64 d.vars), (.int .i64 d.start), (.slice nb d.next.length nc), (.slice fb d.final.length fc)]) 25 (0, 0))] ++ qitms 5 (q0 :: rest)); rw [hRR]; exact Sub.cnt [rowI (some ⟨zB, 0, none⟩) 1 79 3 [.int .i64 ((toN d q0.p.1 x : Nat) : Int), .int .i64 ((toN d q0.p.2 x : Nat) : Int), (.slice wb2 (q0.xs.length + 1) wc2)], rowI (some ⟨zA, 0, none⟩) 1 5 1 [.int .u8 (x : Int)]] (by intro a; simp only [itms, qitms, List.set_cons_zero, List.set_cons_succ, putL, List.cons_append, List.nil_append, List.append_nil, List.append_assoc, List.map_append, List.map_cons, List.map_nil, cnt_append, cnt_cons, cnt_nil] <;> omega)) (RO.done (by kernel_rfl) ⟨qb2, qc2, wb2, wc2, rfl, ⟨rfl, rfl, rfl, rfl, rfl, rfl, rfl, rfl, rfl, rfl, rfl, rfl, trivial⟩⟩)
              · rintro ρ O ⟨qb2, qc2, wb2, wc2, rfl, hH⟩
                obtain ⟨ρ0, rfl⟩ := hH.elim
                clear hH
                refine T.region ?_
                refine TO.quiet (q_inc rfl rfl (by omega)) ?_
                refine TO.quiet (q_move rfl) ?_
                refine TO.sub (O' := ([rowI qb2 qc2 79 3 ((qcells (q0 :: rest)) ++ [(.int .i64 ((toN d q0.p.1 x : Nat) : Int)), (.int .i64 ((toN d q0.p.2 x : Nat) : Int)), (.slice wb2 (q0.xs.length + 1) wc2)]), mapI pairV Value.bool mp2 ((seenL (pushN d q0.stp (bq d s t i) x)) ++ [(cast2 (suc2 d q0.p x), true)]), objI z4 (.cells (List.toArray [(.int .i64 ((q0.p.1 : Nat) : Int)), (.int .i64 ((q0.p.2 : Nat) : Int)), (.slice q0.b q0.xs.length q0.c)]) 79 (0, 0)), objI z1 (.cells (List.toArray [(.int .i64 d.vars), (.int .i64 d.start), (.slice nb d.next.length nc), (.slice fb d.final.length fc)]) 25 (0, 0))] ++ qitms 5 (q0 :: (rest ++ [⟨suc2 d q0.p x, wb2, wc2, q0.xs ++ [x]⟩])))) (Sub.pickR [0, 1, 1, 1] [rowI qb2 qc2 79 3 ((qcells (q0 :: rest)) ++ [(.int .i64 ((toN d q0.p.1 x : Nat) : Int)), (.int .i64 ((toN d q0.p.2 x : Nat) : Int)), (.slice wb2 (q0.xs.length + 1) wc2)]), objI z5 (.cells (List.toArray [.int .i64 ((toN d q0.p.1 x : Nat) : Int), .int .i64 ((toN d q0.p.2 x : Nat) : Int)]) 76 (0, 0)), mapI pairV Value.bool mp2 ((seenL (pushN d q0.stp (bq d s t i) x)) ++ [(cast2 (suc2 d q0.p x), true)]), objI z4 (.cells (List.toArray [(.int .i64 ((q0.p.1 : Nat) : Int)), (.int .i64 ((q0.p.2 : Nat) : Int)), (.slice q0.b q0.xs.length q0.c)]) 79 (0, 0)), objI z1 (.cells (List.toArray [(.int .i64 d.vars), (.int .i64 d.start), (.slice nb d.next.length nc), (.slice fb d.final.length fc)]) 25 (0, 0))] (qitms 5 (q0 :: (rest ++ [⟨suc2 d q0.p x, wb2, wc2, q0.xs ++ [x]⟩]))) rfl rfl) ?_
                refine TO.nil ?_
                have hA : pushN d q0.stp (bq d s t i) (x + 1) = (pushN d q0.stp (bq d s t i) x) ++ [(suc2 d q0.p x, q0.xs ++ [x])] := by
                  show pushS d q0.stp _ x = _
                  unfold pushS
                  exact if_neg hin
                refine ⟨x + 1, by omega, qb2, qc2, m + 1, rest ++ [⟨suc2 d q0.p x, wb2, wc2, q0.xs ++ [x]⟩], ?_, by omega, by simp [hm], ?_, ⟨rfl, rfl, rfl, rfl, rfl, rfl, rfl, rfl, rfl, rfl, trivial⟩⟩
                · rw [hA, show seenL ((pushN d q0.stp (bq d s t i) x) ++ [(suc2 d q0.p x, q0.xs ++ [x])]) = seenL (pushN d q0.stp (bq d s t i) x) ++ [(cast2 (suc2 d q0.p x), true)] from List.map_append, show qcells (q0 :: (rest ++ [⟨suc2 d q0.p x, wb2, wc2, q0.xs ++ [x]⟩])) = qcells (q0 :: rest) ++ [(.int .i64 ((toN d q0.p.1 x : Nat) : Int)), (.int .i64 ((toN d q0.p.2 x : Nat) : Int)), (.slice wb2 (q0.xs.length + 1) wc2)] by simp [QRec.cells, suc2]]
                · rw [hA, List.drop_append_of_le_length (by omega), ← hrs2]; simp [QRec.stp]
          · have hge72 : ¬ x < 2 ^ d.vars.toNat := by omega
            have hgx : ¬ x < letN d := hge72
            refine T.exit ?_
            refine T.region ?_
            refine TO.quiet (q_move rfl) ?_
            refine TO.loud rfl (l_tail 0 Tryd.underlying80 inf79 (by decide) rfl rfl rfl (by rw [qcells_len, hm]; rfl) (by omega) (fun z6 => ?_))
            refine TO.quiet (q_assign rfl) ?_
            refine TO.sub (O' := [rowI z6 (qc - 1) 79 3 (qcells rest), mapI pairV Value.bool mp2 (seenL (pushN d q0.stp (bq d s t i) x)), objI z1 (.cells (List.toArray [(.int .i64 d.vars), (.int .i64 d.start), (.slice nb d.next.length nc), (.slice fb d.final.length fc)]) 25 (0, 0))] ++ qitms 5 rest) (by show Sub _ ([rowI z6 (qc - 1) 79 3 (qcells rest), mapI pairV Value.bool mp2 (seenL (pushN d q0.stp (bq d s t i) x)), objI z4 (.cells (List.toArray [(.int .i64 ((q0.p.1 : Nat) : Int)), (.int .i64 ((q0.p.2 : Nat) : Int)), (.slice q0.b q0.xs.length q0.c)]) 79 (0, 0)), objI z1 (.cells (List.toArray [(.int .i64 d.vars), (.int .i64 d.start), (.slice nb d.next.length nc), (.slice fb d.final.length fc)]) 25 (0, 0))] ++ qitms 5 (q0 :: rest)); exact Sub.cnt [objI z4 (.cells (List.toArray [(.int .i64 ((q0.p.1 : Nat) : Int)), (.int .i64 ((q0.p.2 : Nat) : Int)), (.slice q0.b q0.xs.length q0.c)]) 79 (0, 0)), QRec.itm 5 q0] (by intro a; simp only [itms, qitms, List.set_cons_zero, List.set_cons_succ, putL, List.cons_append, List.nil_append, List.append_nil, List.append_assoc, List.map_append, List.map_cons, List.map_nil, cnt_append, cnt_cons, cnt_nil] <;> omega)) ?_
            refine TO.nil ?_
            have hxe : x = letN d := by omega
            have hbq : pushN d q0.stp (bq d s t i) x = bq d s t (i + 1) := by rw [bq_succ hq0, hxe]
            refine ⟨i + 1, by omega, z6, qc - 1, m, rest, by rw [hbq], hm, ?_, ?_, ⟨rfl, rfl, rfl, rfl, rfl, rfl, rfl, trivial⟩⟩
            · rw [← hbq]; have := congrArg List.tail hrs2; simpa [List.tail_drop] using this
            · intro j hj9
              by_cases e : j = i
              · subst e; exact ⟨q0.stp, hq0, heq⟩
              · exact hj j (by omega)
    · have hge45 : ¬ m > 0 := by omega
      refine T.exit ?_
      refine T.seq ?_
      refine T.region ?_
      refine TO.quiet (q_assign rfl) ?_
      refine TO.quiet (q_assign rfl) ?_
      refine TO.quiet (q_assign rfl) ?_
      refine TO.nil ?_
      refine T.ret ?_
      refine Res.drop ?_
      refine Res.three (.slice none 0 0) (.bool false) (.int .i64 0) Tryd.results25 rfl rfl rfl ?_
      have hend : (bq d s t i).length ≤ i := by
        have := congrArg List.length hrs
        simp at this
        omega
      exact ⟨[], Sub.of (List.nil_sublist _), none, BfsR.tell hv (res := none) ⟨i, hj, hend⟩, rfl, rfl⟩
end Go.Proofs.YthfemndklplpbaaDoor
