/- Contracts of functions of the program (Dist, Diff, RefR, Ref7, RefM, RefD, Uni, DR, Myh, Rnd, Word, Wrd2, Bol, Dct, Can, Bol2, Bol3, Bol4, Bol5, Bol6, DK, Bol7, CoreS, P1, P2): what each call answers and that it leaves memory as it was. Conditions: those each theorem names. -/
import Derived.Test.YtdaapdamcekkgaaDoorStr
import Derived.Test.YtdaapdamcekkgaaDoorQuo
import Derived.Test.YtdaapdamcekkgaaDoorDec
set_option linter.unusedSectionVars false
set_option linter.unusedSimpArgs false
set_option linter.unusedVariables false
set_option linter.unnecessarySimpa false
namespace Go.Proofs.YtdaapdamcekkgaaDoor
open Go.Lx Go.RowKit
set_option linter.unusedVariables false
set_option linter.unusedSimpArgs false
theorem pair108 : Pair2 Tryd.prog 108 { name := "s", type := 3, offset := 0, embedded := false, tag := "", pkgPath := "sentinel/minimal", byteOffset := 0 } { name := "t", type := 3, offset := 1, embedded := false, tag := "", pkgPath := "sentinel/minimal", byteOffset := 8 } := ⟨Tryd.underlying108, Tryd.underlying3, Tryd.underlying3, rfl, rfl, by decide, by decide, by kernel_rfl⟩
set_option maxHeartbeats 1000000 in
set_option maxRecDepth 20000 in
theorem cloneNil (w : World) (c : Nat) :
    PureT Tryd.prog 82 [.slice none 0 c] w fun v N => ∃ b' c', v = .slice b' 0 c' ∧ N = [rowI b' c' 5 1 []] := by
  refine CallT.enter Tryd.func82 rfl Tryd.ntmps82 rfl ?_
  refine T.seq (T.region ?_)
  refine TO.quiet (q_assign rfl) ?_
  refine TO.nil (T.seq (T.seq (T.region ?_)))
  refine TO.quiet (q_move rfl) (TO.quiet (q_eqlNil Tryd.underlying35 rfl rfl) ?_)
  refine TO.nil ?_
  refine T.cond1 rfl ?_
  refine T.seq ?_
  refine T.nilRow 5 1 ?_
  refine T.region ?_
  refine TO.quiet (q_assign rfl) ?_
  refine TO.nil (T.ret ?_)
  refine Res.one (.slice none 0 0) Tryd.results82 rfl ?_
  exact ⟨_, _, rfl, rfl⟩
set_option maxHeartbeats 1000000 in
set_option maxRecDepth 20000 in
theorem cloneSome (w : World) (a : Addr) (c : Nat) (xs : List Nat) (h1 : Sl w (some a) (byts xs)) (hb : xs.length * 1 ≤ 70368744177664) :
    PureT Tryd.prog 82 [.slice (some a) xs.length c] w fun v N => ∃ b' c', v = .slice b' xs.length c' ∧ N = [rowI b' c' 5 1 (byts xs)] := by
  refine CallT.enter Tryd.func82 rfl Tryd.ntmps82 rfl ?_
  refine T.seq (T.region ?_)
  refine TO.quiet (q_assign rfl) ?_
  refine TO.nil (T.seq (T.seq (T.region ?_)))
  refine TO.quiet (q_move rfl) (TO.quiet (q_eqlNil Tryd.underlying35 rfl rfl) ?_)
  refine TO.nil ?_
  refine T.cond0 rfl ?_
  refine T.skip (T.seq (T.region ?_))
  refine TO.loud rfl (l_buildSlice (m := 0) (parts := []) (cs := []) Tryd.underlying35 inf5 (by decide) (by simp [Instr.fill]) rfl (fun b1 => ?_))
  refine TO.quiet (q_move rfl) ?_
  refine TO.loud rfl (l_append 0 Tryd.underlying35 Tryd.underlying35 inf5 rfl rfl rfl rfl (by simp) (by decide) (Src.sl h1 (by simp)) (byts_one xs) (by omega) (by decide) (by decide) (fun b1 c2 => ?_))
  refine TO.quiet (q_assign rfl) ?_
  refine TO.nil (T.ret ?_)
  refine Res.one (.slice b1 (0 + xs.length) c2) Tryd.results82 rfl ?_
  exact ⟨_, _, by rw [Nat.zero_add], rfl⟩
theorem cloneC (w : World) (b : Option Addr) (c : Nat) (xs : List Nat) (h1 : Sl w b (byts xs)) (hb : xs.length * 1 ≤ 70368744177664) :
    PureT Tryd.prog 82 [.slice b xs.length c] w fun v N => ∃ b' c', v = .slice b' xs.length c' ∧ N = [rowI b' c' 5 1 (byts xs)] := by
  cases b with
  | none =>
    have hx : xs = [] := by
      cases xs with
      | nil => rfl
      | cons x xs => obtain ⟨_, _, e⟩ := h1.addr (i := 0) (by simp); cases e
    subst hx
    exact cloneNil w c
  | some a => exact cloneSome w a c xs h1 hb
set_option maxHeartbeats 1000000 in
set_option maxRecDepth 20000 in
theorem distBad (w : World) (d : DFA) (nb fb : Option Addr) (nc fc : Nat) (vs : List Value) (h : DfaAt w d nb vs fb) (hb : d.next.length < 9223372036854775807) (hbr : ∀ r ∈ d.next, r.length < 9223372036854775807) (hbf : d.final.length < 9223372036854775807) (he : checkD d ≠ 0) (s t : Int) :
    PureT Tryd.prog 61 [.agg (dfaCells d nb nc fb fc).toArray, .int .i64 s, .int .i64 t] w fun v N => v = .tuple #[.slice none 0 0, .bool false, .int .i64 (checkD d : Int)] ∧ N = [] := by
  refine CallT.enter Tryd.func61 rfl Tryd.ntmps61 rfl ?_
  refine T.seq (T.region ?_)
  refine TO.loud rfl (l_box (v := (.agg #[(.int .i64 d.vars), (.int .i64 d.start), (.slice nb d.next.length nc), (.slice fb d.final.length fc)])) (cs := [(.int .i64 d.vars), (.int .i64 d.start), (.slice nb d.next.length nc), (.slice fb d.final.length fc)]) rfl rfl (fun b1 => ?_))
  refine TO.quiet (q_assign rfl) (TO.quiet (q_assign rfl) (TO.quiet (q_assign rfl) ?_))
  refine TO.nil (T.seq (T.seq (T.region ?_)))
  refine TO.quiet (q_load_boxAgg 0 Tryd.underlying25 rfl inf25 rfl rfl rfl) ?_
  have hk16 := fun (w1 : World) (hI : Inv w [oI b1 25 [(.int .i64 d.vars), (.int .i64 d.start), (.slice nb d.next.length nc), (.slice fb d.final.length fc)]] w1) => subsetCheck w1 d nb fb nc fc vs (hI.dfa h) hb hbr hbf
  refine TO.loud rfl (l_call ent20 (CallT.of_pure hk16) rfl ?_)
  clear hk16
  rintro v O' ⟨N, rfl, rfl, rfl⟩
  refine TO.quiet (q_assign rfl) ?_
  refine TO.nil (T.seq (T.region ?_))
  refine TO.quiet (q_move rfl) (TO.quiet (QT.toB (q_neq rfl rfl) (decide_eq_true (by omega))) ?_)
  refine TO.nil ?_
  refine T.cond1 rfl ?_
  refine T.seq (T.region ?_)
  refine TO.quiet (q_move rfl) (TO.quiet (q_assign rfl) (TO.quiet (q_assign rfl) (TO.quiet (q_assign rfl) ?_)))
  refine TO.nil (T.ret (Res.drop ?_))
  refine Res.three (.slice none 0 0) (.bool false) (.int .i64 (checkD d : Int)) Tryd.results61 rfl rfl rfl ?_
  exact ⟨[], Sub.of (List.nil_sublist _), rfl, rfl⟩
set_option maxHeartbeats 1000000 in
set_option maxRecDepth 20000 in
theorem distOut (w : World) (d : DFA) (nb fb : Option Addr) (nc fc : Nat) (vs : List Value) (h : DfaAt w d nb vs fb) (hv : Valid d) (s t : Int) (hst : s < 0 ∨ t < 0 ∨ (d.next.length : Int) ≤ s ∨ (d.next.length : Int) ≤ t) :
    PureT Tryd.prog 61 [.agg (dfaCells d nb nc fb fc).toArray, .int .i64 s, .int .i64 t] w fun v N => v = .tuple #[.slice none 0 0, .bool false, .int .i64 8] ∧ N = [] := by
  refine CallT.enter Tryd.func61 rfl Tryd.ntmps61 rfl ?_
  have he := checkD_zero.2 hv
  have hb : d.next.length < 9223372036854775807 := by have := hv.n4; omega
  have hbr : ∀ r ∈ d.next, r.length < 9223372036854775807 := hv.bound
  have hbf : d.final.length < 9223372036854775807 := by have := hv.fin; omega
  refine T.seq (T.region ?_)
  refine TO.loud rfl (l_box (v := (.agg #[(.int .i64 d.vars), (.int .i64 d.start), (.slice nb d.next.length nc), (.slice fb d.final.length fc)])) (cs := [(.int .i64 d.vars), (.int .i64 d.start), (.slice nb d.next.length nc), (.slice fb d.final.length fc)]) rfl rfl (fun b1 => ?_))
  refine TO.quiet (q_assign rfl) (TO.quiet (q_assign rfl) (TO.quiet (q_assign rfl) ?_))
  refine TO.nil (T.seq (T.seq (T.region ?_)))
  refine TO.quiet (q_load_boxAgg 0 Tryd.underlying25 rfl inf25 rfl rfl rfl) ?_
  have hk16 := fun (w1 : World) (hI : Inv w [oI b1 25 [(.int .i64 d.vars), (.int .i64 d.start), (.slice nb d.next.length nc), (.slice fb d.final.length fc)]] w1) => subsetCheck w1 d nb fb nc fc vs (hI.dfa h) hb hbr hbf
  refine TO.loud rfl (l_call ent20 (CallT.of_pure hk16) rfl ?_)
  clear hk16
  rintro v O' ⟨N, rfl, rfl, rfl⟩
  rw [he]
  refine TO.quiet (q_assign rfl) ?_
  refine TO.nil (T.seq (T.region ?_))
  refine TO.quiet (q_move rfl) (TO.quiet (q_neq rfl rfl) ?_)
  refine TO.nil ?_
  refine T.cond0 rfl ?_
  refine T.skip (T.seq (T.seq (T.region ?_)))
  refine TO.quiet (q_move rfl) (TO.quiet (q_move rfl) (TO.quiet (q_min rfl rfl) ?_))
  by_cases hm : (if t < s then t else s) < 0
  · refine TO.quiet (QT.toB (q_lss rfl rfl) (decide_eq_true hm)) ?_
    refine TO.quiet (q_move rfl) ?_
    refine TO.passed rfl rfl ?_
    refine TO.passed rfl rfl ?_
    refine TO.passed rfl rfl ?_
    refine TO.passed rfl rfl ?_
    refine TO.passed rfl rfl ?_
    refine TO.passed rfl rfl ?_
    refine TO.passed rfl rfl ?_
    refine TO.quiet (q_pick1 rfl rfl) ?_
    refine TO.nil ?_
    refine T.cond1 rfl ?_
    refine T.seq (T.region ?_)
    refine TO.quiet (q_assign rfl) (TO.quiet (q_assign rfl) (TO.quiet (q_assign rfl) ?_))
    refine TO.nil (T.ret (Res.drop ?_))
    refine Res.three (.slice none 0 0) (.bool false) (.int .i64 8) Tryd.results61 rfl rfl rfl ?_
    exact ⟨[], Sub.of (List.nil_sublist _), rfl, rfl⟩
  refine TO.quiet (QT.toB (q_lss rfl rfl) (decide_eq_false hm)) (TO.quiet (q_move rfl) ?_)
  refine TO.guarded rfl rfl rfl (LT.of_quiet rfl rfl (q_move rfl) ?_)
  refine TO.guarded rfl rfl rfl (LT.of_quiet rfl rfl (q_move rfl) ?_)
  refine TO.guarded rfl rfl rfl (LT.of_quiet rfl rfl (q_max rfl rfl) ?_)
  refine TO.guarded rfl rfl rfl (LT.of_quiet rfl rfl (q_fieldAddr Tryd.underlying25 rfl inf22 rfl rfl) ?_)
  refine TO.guarded rfl rfl rfl (LT.of_quiet rfl rfl (q_load_box 0 Tryd.underlying22 rfl rfl rfl rfl) ?_)
  refine TO.guarded rfl rfl rfl (LT.of_quiet rfl rfl (q_len Tryd.underlying22 rfl) ?_)
  refine TO.guarded rfl rfl rfl (LT.of_quiet rfl rfl (QT.toB (q_geq rfl rfl) (decide_eq_true (by split <;> (split at hm <;> omega)))) ?_)
  refine TO.quiet (q_pick0 rfl rfl) ?_
  refine TO.nil ?_
  refine T.cond1 rfl ?_
  refine T.seq (T.region ?_)
  refine TO.quiet (q_assign rfl) (TO.quiet (q_assign rfl) (TO.quiet (q_assign rfl) ?_))
  refine TO.nil (T.ret (Res.drop ?_))
  refine Res.three (.slice none 0 0) (.bool false) (.int .i64 8) Tryd.results61 rfl rfl rfl ?_
  exact ⟨[], Sub.of (List.nil_sublist _), rfl, rfl⟩
set_option maxHeartbeats 8000000 in
set_option maxRecDepth 20000 in
theorem distOk (w : World) (d : DFA) (nb fb : Option Addr) (nc fc : Nat) (vs : List Value) (h : DfaAt w d nb vs fb) (hv : Valid d) (hn : d.next.length < 100) (s t : Nat) (hs : s < d.next.length) (ht : t < d.next.length) :
    PureT Tryd.prog 61 [.agg (dfaCells d nb nc fb fc).toArray, .int .i64 (s : Int), .int .i64 (t : Int)] w fun v N => ∃ res, Tell d s t res ∧ TellV 5 v N res := by
  refine CallT.enter Tryd.func61 rfl Tryd.ntmps61 rfl ?_
  have he := checkD_zero.2 hv
  have hb : d.next.length < 9223372036854775807 := by have := hv.n4; omega
  have hbr : ∀ r ∈ d.next, r.length < 9223372036854775807 := hv.bound
  have hbf : d.final.length < 9223372036854775807 := by have := hv.fin; omega
  have hvl := h.rows.1
  refine T.seq (T.region ?_)
  refine TO.loud rfl (l_box (v := (.agg #[(.int .i64 d.vars), (.int .i64 d.start), (.slice nb d.next.length nc), (.slice fb d.final.length fc)])) (cs := [(.int .i64 d.vars), (.int .i64 d.start), (.slice nb d.next.length nc), (.slice fb d.final.length fc)]) rfl rfl (fun z1 => ?_))
  refine TO.quiet (q_assign rfl) (TO.quiet (q_assign rfl) (TO.quiet (q_assign rfl) ?_))
  refine TO.nil (T.seq (T.seq (T.region ?_)))
  refine TO.quiet (q_load_boxAgg 0 Tryd.underlying25 rfl inf25 rfl rfl rfl) ?_
  have hk16 := fun (w1 : World) (hI : Inv w [oI z1 25 [(.int .i64 d.vars), (.int .i64 d.start), (.slice nb d.next.length nc), (.slice fb d.final.length fc)]] w1) => subsetCheck w1 d nb fb nc fc vs (hI.dfa h) hb hbr hbf
  refine TO.loud rfl (l_call ent20 (CallT.of_pure hk16) rfl ?_)
  clear hk16
  rintro v O' ⟨N, rfl, rfl, rfl⟩
  rw [he]
  refine TO.quiet (q_assign rfl) ?_
  refine TO.nil (T.seq (T.region ?_))
  refine TO.quiet (q_move rfl) (TO.quiet (q_neq rfl rfl) ?_)
  refine TO.nil ?_
  refine T.cond0 rfl ?_
  refine T.skip (T.seq (T.seq (T.region ?_)))
  refine TO.quiet (q_move rfl) (TO.quiet (q_move rfl) (TO.quiet (q_min rfl rfl) (TO.quiet (QT.toB (q_lss rfl rfl) (decide_eq_false (by split <;> omega))) ?_)))
  refine TO.quiet (q_move rfl) ?_
  refine TO.guarded rfl rfl rfl (LT.of_quiet rfl rfl (q_move rfl) ?_)
  refine TO.guarded rfl rfl rfl (LT.of_quiet rfl rfl (q_move rfl) ?_)
  refine TO.guarded rfl rfl rfl (LT.of_quiet rfl rfl (q_max rfl rfl) ?_)
  refine TO.guarded rfl rfl rfl (LT.of_quiet rfl rfl (q_fieldAddr Tryd.underlying25 rfl inf22 rfl rfl) ?_)
  refine TO.guarded rfl rfl rfl (LT.of_quiet rfl rfl (q_load_box 0 Tryd.underlying22 rfl rfl rfl rfl) ?_)
  refine TO.guarded rfl rfl rfl (LT.of_quiet rfl rfl (q_len Tryd.underlying22 rfl) ?_)
  refine TO.guarded rfl rfl rfl (LT.of_quiet rfl rfl (QT.toB (q_geq rfl rfl) (decide_eq_false (by split <;> omega))) ?_)
  refine TO.quiet (q_pick0 rfl rfl) ?_
  refine TO.nil ?_
  refine T.cond0 rfl ?_
  refine T.skip (T.seq (T.region ?_))
  refine TO.loud rfl (l_makeMap pairV Value.bool (fun mp2 => ?_))
  refine TO.quiet (q_move rfl) (TO.quiet (q_move rfl) (TO.quiet (q_build (cs := [.int .i64 (s : Int), .int .i64 (t : Int)]) plan108 inf108 (by kernel_rfl)) ?_))
  refine TO.loud rfl (l_mapInsert (a := cast2 (s, t)) (v := true) 0 Tryd.underlying109 (KeyOk.pair pair108) rfl rfl rfl rfl (by simp) ?_)
  refine TO.quiet (q_move rfl) (TO.quiet (q_assign rfl) ?_)
  refine TO.nil (T.seq (T.seq (T.region ?_)))
  refine TO.quiet (q_move rfl) (TO.quiet (q_move rfl) (TO.quiet (q_build (cs := [.int .i64 (s : Int), .int .i64 (t : Int)]) plan108 inf108 (by kernel_rfl)) (TO.quiet (q_build (cs := [.int .i64 (s : Int), .int .i64 (t : Int), (.slice none 0 0)]) plan111 inf111 (by kernel_rfl)) ?_)))
  refine TO.loud rfl (l_buildSlice (m := 1) (parts := [(0, _)]) (cs := [.int .i64 (s : Int), .int .i64 (t : Int), (.slice none 0 0)]) Tryd.underlying112 inf111 (by decide) (by kernel_rfl) rfl (fun z3 => ?_))
  refine TO.quiet (q_assign rfl) ?_
  refine TO.nil ?_
  refine T.nilRow 5 1 ?_
  refine T.sub (O' := [rowI (some ⟨z3, 0, none⟩) 1 111 3 [.int .i64 (s : Int), .int .i64 (t : Int), (.slice none 0 0)], mapI pairV Value.bool mp2 [(cast2 (s, t), true)], oI z1 25 [(.int .i64 d.vars), (.int .i64 d.start), (.slice nb d.next.length nc), (.slice fb d.final.length fc)], rowI none 0 5 1 []]) (Sub.pick [1, 1, 1, 0] rfl) ?_
  refine T.block ?_
  refine T.loop (fun (i : Nat) ρ O => ∃ (qb : Option Addr) (qc m : Nat) (rs : List QRec), O = ([rowI qb qc 111 3 (qcells rs), mapI pairV Value.bool mp2 (seenL (bq d s t i)), oI z1 25 [(.int .i64 d.vars), (.int .i64 d.start), (.slice nb d.next.length nc), (.slice fb d.final.length fc)]] ++ (qitms 5 rs)) ∧ m = rs.length ∧ rs.map QRec.stp = (bq d s t i).drop i ∧ (∀ j, j < i → ∃ q, (bq d s t j)[j]? = some q ∧ finN d q.1.1 = finN d q.1.2) ∧ Heads [(0, (.agg #[(.int .i64 d.vars), (.int .i64 d.start), (.slice nb d.next.length nc), (.slice fb d.final.length fc)])), (1, .int .i64 (s : Int)), (2, .int .i64 (t : Int)), (3, (.pointer (some ⟨z1, 0, none⟩))), (9, .int .i64 ((0 : Nat) : Int)), (10, (.map (some mp2))), (11, (.slice qb m qc))] ρ) (fun i => d.next.length * d.next.length - i) 0 ?_ ?_
  · exact ⟨_, _, 1, [⟨(s, t), none, 0, []⟩], rfl, rfl, rfl, fun j hj => absurd hj (by omega), ⟨rfl, rfl, rfl, rfl, rfl, rfl, rfl, trivial⟩⟩
  rintro i ρ O ⟨qb, qc, m, rs, rfl, hm, hrs, hj, hH⟩
  obtain ⟨ρ0, rfl⟩ := hH.elim
  clear hH
  refine T.seq (T.seq (T.region ?_))
  refine TO.quiet (q_move rfl) (TO.quiet (q_len Tryd.underlying112 rfl) (TO.quiet (q_gtr rfl rfl) ?_))
  refine TO.nil ?_
  refine T.condP rfl (fun hc => ?_) (fun hc => ?_)
  · have hlt45 : m > 0 := by omega
    refine T.skip (T.seq (T.block (T.seq ?_)))
    obtain ⟨q0, rest, rfl⟩ : ∃ q0 rest, rs = q0 :: rest := by
      cases rs with
      | nil => subst hm; exact absurd hc (by simp)
      | cons a l => exact ⟨a, l, rfl⟩
    obtain ⟨m, rfl⟩ : ∃ k, m = k + 1 := ⟨rest.length, hm⟩
    have hm : m = rest.length := by simpa using hm
    have hq0 : (bq d s t i)[i]? = some q0.stp := by
      have := congrArg List.head? hrs
      rw [List.head?_drop] at this
      simpa using this.symm
    have hmid := fun x (hx : x ≤ letN d) => mid_ok hv hs ht hj hq0 hx
    have hp1 : q0.p.1 < d.next.length := (hmid 0 (Nat.zero_le _)).2.1
    have hp2 : q0.p.2 < d.next.length := (hmid 0 (Nat.zero_le _)).2.2.1
    have hwl : q0.xs.length ≤ i := (hmid 0 (Nat.zero_le _)).2.2.2.1
    have hi9 := (hmid 0 (Nat.zero_le _)).2.2.2.2.1
    have hn2 : d.next.length * d.next.length < 10000 := Nat.lt_of_le_of_lt (Nat.mul_le_mul (show d.next.length ≤ 99 by omega) (show d.next.length ≤ 99 by omega)) (by decide)
    have hf1 : q0.p.1 < d.final.length := by have := hv.fin; omega
    have hf2 : q0.p.2 < d.final.length := by have := hv.fin; omega
    obtain ⟨vb1, vc1, g1, s1⟩ := h.rows.get hp1
    obtain ⟨vb2, vc2, g2, s2⟩ := h.rows.get hp2
    have hl1 : d.next[q0.p.1].length = 2 ^ d.vars.toNat := hv.len _ (List.getElem_mem hp1)
    have hl2 : d.next[q0.p.2].length = 2 ^ d.vars.toNat := hv.len _ (List.getElem_mem hp2)
    have hww := hv.width
    refine T.region ?_
    refine TO.quiet (q_move rfl) (TO.quiet (q_ixK (i := 0) Tryd.underlying112 inf111 rfl rfl (rowO (List.mem_of_getElem? (i := 0) rfl)) (by omega) (by rw [qcells_len]; simp)) (TO.quiet (q_ldK (vs := [(.int .i64 ((q0.p.1 : Nat) : Int)), (.int .i64 ((q0.p.2 : Nat) : Int)), (.slice q0.b q0.xs.length q0.c)]) Tryd.underlying111 rfl inf111 rfl rfl (Nat.succ_pos _) (rowO (List.mem_of_getElem? (i := 0) rfl)) (by intro j hj; match j, hj with | 0, _ => rfl | 1, _ => rfl | 2, _ => rfl)) ?_))
    refine TO.loud rfl (l_alloc inf111 rfl (fun z4 => ?_))
    refine TO.loud rfl (l_store_box (v := (.agg #[(.int .i64 ((q0.p.1 : Nat) : Int)), (.int .i64 ((q0.p.2 : Nat) : Int)), (.slice q0.b q0.xs.length q0.c)])) (vs := [(.int .i64 ((q0.p.1 : Nat) : Int)), (.int .i64 ((q0.p.2 : Nat) : Int)), (.slice q0.b q0.xs.length q0.c)]) 0 inf111 rfl rfl rfl rfl rfl rfl (by simp [putL]) ?_)
    refine TO.nil (T.seq (T.seq ?_))
    refine T.draws [oI z4 111 [(.int .i64 ((q0.p.1 : Nat) : Int)), (.int .i64 ((q0.p.2 : Nat) : Int)), (.slice q0.b q0.xs.length q0.c)], oI z1 25 [(.int .i64 d.vars), (.int .i64 d.start), (.slice nb d.next.length nc), (.slice fb d.final.length fc)]] [(0, 0), (1, 0), (2, 0), (3, 0), (4, 0), (5, 0), (6, 0), (7, 0), (8, 0), (9, 0), (10, 0), (11, 0), (12, 0), (13, 0), (14, 0)] mixed (by kernel_rfl) (Sub.pick0 [0, 2] [oI z4 111 [(.int .i64 ((q0.p.1 : Nat) : Int)), (.int .i64 ((q0.p.2 : Nat) : Int)), (.slice q0.b q0.xs.length q0.c)], rowI qb qc 111 3 (qcells (q0 :: rest)), mapI pairV Value.bool mp2 (seenL (bq d s t i)), oI z1 25 [(.int .i64 d.vars), (.int .i64 d.start), (.slice nb d.next.length nc), (.slice fb d.final.length fc)]] (qitms 5 (q0 :: rest)) rfl rfl) (fun _ _ _ h => h) ?_
    refine DO.quiet rfl (q_fieldAddr Tryd.underlying25 rfl inf23 rfl rfl) (DO.quiet rfl (q_load_box 1 Tryd.underlying23 rfl rfl rfl rfl) (DO.quiet rfl (q_fieldAddr Tryd.underlying111 rfl inf108 rfl rfl) (DO.quiet rfl (q_fieldAddr Tryd.underlying108 rfl inf3 rfl rfl) ?_)))
    refine DO.quiet rfl (q_load_box 0 Tryd.underlying3 rfl rfl rfl rfl) (DO.quiet rfl (q_ix (i := q0.p.1) Tryd.underlying23 inf4 rfl rfl (Sl.o h.final) hf1 (by rw [List.length_map]; exact hf1)) (DO.quiet rfl (q_ld Tryd.underlying4 rfl rfl (Sl.o h.final) (bools_get hf1)) (DO.quiet rfl (q_fieldAddr Tryd.underlying25 rfl inf23 rfl rfl) ?_)))
    refine DO.quiet rfl (q_load_box 1 Tryd.underlying23 rfl rfl rfl rfl) (DO.quiet rfl (q_fieldAddr Tryd.underlying111 rfl inf108 rfl rfl) (DO.quiet rfl (q_fieldAddr Tryd.underlying108 rfl inf3 rfl rfl) (DO.quiet rfl (q_load_box 0 Tryd.underlying3 rfl rfl rfl rfl) ?_)))
    refine DO.quiet rfl (q_ix (i := q0.p.2) Tryd.underlying23 inf4 rfl rfl (Sl.o h.final) hf2 (by rw [List.length_map]; exact hf2)) (DO.quiet rfl (q_ld Tryd.underlying4 rfl rfl (Sl.o h.final) (bools_get hf2)) (DO.quiet rfl (q_bneq Tryd.underlying4 rfl rfl) ?_))
    refine DO.done ?_
    refine T.cond rfl (fun hc => ?_) (fun hc => ?_)
    · have hne : finN d q0.p.1 ≠ finN d q0.p.2 := by simpa [finN, hf1, hf2] using hc
      refine T.seq (T.region ?_)
      refine TO.quiet (q_fieldAddr Tryd.underlying111 rfl inf35 rfl rfl) (TO.quiet (q_load_box 0 Tryd.underlying35 rfl rfl rfl rfl) (TO.quiet (q_assign rfl) (TO.quiet (q_assign rfl) ?_)))
      refine TO.quiet (q_assign rfl) ?_
      refine TO.nil (T.ret (Res.drop ?_))
      refine Res.three (.slice q0.b q0.xs.length q0.c) (.bool true) (.int .i64 0) Tryd.results61 rfl rfl rfl ?_
      exact ⟨[QRec.itm 5 q0], Sub.cnt ([oI z4 111 [(.int .i64 ((q0.p.1 : Nat) : Int)), (.int .i64 ((q0.p.2 : Nat) : Int)), (.slice q0.b q0.xs.length q0.c)], rowI qb qc 111 3 (qcells (q0 :: rest)), mapI pairV Value.bool mp2 (seenL (bq d s t i)), oI z1 25 [(.int .i64 d.vars), (.int .i64 d.start), (.slice nb d.next.length nc), (.slice fb d.final.length fc)]] ++ qitms 5 rest) (by intro a; simp only [itms, qitms, oI, List.set_cons_zero, List.set_cons_succ, putL, List.cons_append, List.nil_append, List.append_nil, List.append_assoc, List.map_append, List.map_cons, List.map_nil, cnt_append, cnt_cons, cnt_nil] <;> omega), some q0.xs, BfsR.tell hv ⟨i, hj, q0.stp, hq0, hne, rfl⟩, q0.b, q0.c, rfl, rfl⟩
    have heq : finN d q0.p.1 = finN d q0.p.2 := by simpa [finN, hf1, hf2] using hc
    refine T.skip (T.seq (T.region ?_))
    refine TO.quiet (q_fieldAddr Tryd.underlying25 rfl inf3 rfl rfl) (TO.quiet (q_load_box 3 Tryd.underlying3 rfl rfl rfl rfl) (TO.quiet (q_shl1 (v := d.vars.toNat) rfl (by show Value.int _ d.vars = _; rw [Int.toNat_of_nonneg hv.v0]) (by have := hv.v6; omega)) (TO.quiet (q_move rfl) ?_)))
    refine TO.nil (T.block ?_)
    refine T.sub (O' := [rowI qb qc 111 3 (qcells (q0 :: rest)), mapI pairV Value.bool mp2 (seenL (bq d s t i)), oI z4 111 [(.int .i64 ((q0.p.1 : Nat) : Int)), (.int .i64 ((q0.p.2 : Nat) : Int)), (.slice q0.b q0.xs.length q0.c)], oI z1 25 [(.int .i64 d.vars), (.int .i64 d.start), (.slice nb d.next.length nc), (.slice fb d.final.length fc)]] ++ qitms 5 (q0 :: rest)) (Sub.pickR [1, 1, 0, 0] [oI z4 111 [(.int .i64 ((q0.p.1 : Nat) : Int)), (.int .i64 ((q0.p.2 : Nat) : Int)), (.slice q0.b q0.xs.length q0.c)], rowI qb qc 111 3 (qcells (q0 :: rest)), mapI pairV Value.bool mp2 (seenL (bq d s t i)), oI z1 25 [(.int .i64 d.vars), (.int .i64 d.start), (.slice nb d.next.length nc), (.slice fb d.final.length fc)]] (qitms 5 (q0 :: rest)) rfl rfl) ?_
    refine T.loop (fun (x : Nat) ρ O => ∃ (qb : Option Addr) (qc m : Nat) (rest : List QRec), O = ([rowI qb qc 111 3 (qcells (q0 :: rest)), mapI pairV Value.bool mp2 (seenL (pushN d q0.stp (bq d s t i) x)), oI z4 111 [(.int .i64 ((q0.p.1 : Nat) : Int)), (.int .i64 ((q0.p.2 : Nat) : Int)), (.slice q0.b q0.xs.length q0.c)], oI z1 25 [(.int .i64 d.vars), (.int .i64 d.start), (.slice nb d.next.length nc), (.slice fb d.final.length fc)]] ++ (qitms 5 (q0 :: rest))) ∧ x ≤ letN d ∧ m = rest.length ∧ (q0 :: rest).map QRec.stp = (pushN d q0.stp (bq d s t i) x).drop i ∧ Heads [(0, (.agg #[(.int .i64 d.vars), (.int .i64 d.start), (.slice nb d.next.length nc), (.slice fb d.final.length fc)])), (1, .int .i64 (s : Int)), (2, .int .i64 (t : Int)), (3, (.pointer (some ⟨z1, 0, none⟩))), (9, .int .i64 ((0 : Nat) : Int)), (10, (.map (some mp2))), (11, (.slice qb (m + 1) qc)), (12, (.pointer (some ⟨z4, 0, none⟩))), (70, .int .i64 ((2 ^ d.vars.toNat : Nat) : Int)), (71, .int .i64 (x : Int))] ρ) (fun x => letN d - x) 0 ?_ ?_
    · exact ⟨qb, qc, m, rest, rfl, Nat.zero_le _, hm, hrs, ⟨rfl, rfl, rfl, rfl, rfl, rfl, rfl, rfl, rfl, rfl, trivial⟩⟩
    rintro x ρ O ⟨qb, qc, m, rest, rfl, hx9, hm, hrs2, hH⟩
    obtain ⟨ρ0, rfl⟩ := hH.elim
    clear hH
    refine T.seq (T.region ?_)
    refine TO.quiet (q_lss rfl rfl) ?_
    refine TO.nil (T.seq ?_)
    refine T.condP rfl (fun hc => ?_) (fun hc => ?_)
    · have hlt72 : x < 2 ^ d.vars.toNat := by omega
      have hlx : x < letN d := hlt72
      refine T.skip (T.seq (T.block (T.seq (T.region ?_))))
      refine TO.quiet (q_move rfl) (TO.quiet (q_assign rfl) ?_)
      refine TO.nil (T.seq ?_)
      obtain ⟨_, _, hxk1, hx1⟩ := hv.toN_lt hp1 hlt72
      obtain ⟨_, _, hxk2, hx2⟩ := hv.toN_lt hp2 hlt72
      have hx1 : (ints d.next[q0.p.1])[x]? = some (.int .i64 ((toN d q0.p.1 x : Nat) : Int)) := by rw [ints_get hxk1, hx1]
      have hx2 : (ints d.next[q0.p.2])[x]? = some (.int .i64 ((toN d q0.p.2 x : Nat) : Int)) := by rw [ints_get hxk2, hx2]
      refine T.draws [oI z4 111 [(.int .i64 ((q0.p.1 : Nat) : Int)), (.int .i64 ((q0.p.2 : Nat) : Int)), (.slice q0.b q0.xs.length q0.c)], oI z1 25 [(.int .i64 d.vars), (.int .i64 d.start), (.slice nb d.next.length nc), (.slice fb d.final.length fc)]] [(0, 0), (1, 0), (2, 0), (3, 0), (4, 0), (5, 0), (6, 0), (7, 0), (8, 0), (9, 0), (10, 0), (11, 0), (12, 0), (13, 0), (14, 0), (15, 0), (16, 0), (17, 0), (18, 0), (19, 0), (20, 0), (21, 1), (22, 2)] mixed (by kernel_rfl) (Sub.pick0 [2, 2] [rowI qb qc 111 3 (qcells (q0 :: rest)), mapI pairV Value.bool mp2 (seenL (pushN d q0.stp (bq d s t i) x)), oI z4 111 [(.int .i64 ((q0.p.1 : Nat) : Int)), (.int .i64 ((q0.p.2 : Nat) : Int)), (.slice q0.b q0.xs.length q0.c)], oI z1 25 [(.int .i64 d.vars), (.int .i64 d.start), (.slice nb d.next.length nc), (.slice fb d.final.length fc)]] (qitms 5 (q0 :: rest)) rfl rfl) (fun _ _ _ h => h) ?_
      refine DO.quiet rfl (q_fieldAddr Tryd.underlying25 rfl inf22 rfl rfl) (DO.quiet rfl (q_load_box 1 Tryd.underlying22 rfl rfl rfl rfl) (DO.quiet rfl (q_fieldAddr Tryd.underlying111 rfl inf108 rfl rfl) (DO.quiet rfl (q_fieldAddr Tryd.underlying108 rfl inf3 rfl rfl) ?_)))
      refine DO.quiet rfl (q_load_box 0 Tryd.underlying3 rfl rfl rfl rfl) (DO.quiet rfl (q_ix (i := q0.p.1) Tryd.underlying22 inf52 rfl rfl (Sl.o h.outer) hp1 (hvl ▸ hp1)) (DO.quiet rfl (q_ld Tryd.underlying52 rfl rfl (Sl.o h.outer) g1) (DO.quiet rfl (q_move rfl) ?_)))
      refine DO.quiet rfl (q_ix (i := x) Tryd.underlying52 inf3 rfl rfl (Sl.o s1) (by rw [hl1]; exact hlt72) (by rw [List.length_map, hl1]; exact hlt72)) (DO.quiet rfl (q_ld Tryd.underlying3 rfl rfl (Sl.o s1) hx1) (DO.quiet rfl (q_fieldAddr Tryd.underlying25 rfl inf22 rfl rfl) (DO.quiet rfl (q_load_box 1 Tryd.underlying22 rfl rfl rfl rfl) ?_)))
      refine DO.quiet rfl (q_fieldAddr Tryd.underlying111 rfl inf108 rfl rfl) (DO.quiet rfl (q_fieldAddr Tryd.underlying108 rfl inf3 rfl rfl) (DO.quiet rfl (q_load_box 0 Tryd.underlying3 rfl rfl rfl rfl) (DO.quiet rfl (q_ix (i := q0.p.2) Tryd.underlying22 inf52 rfl rfl (Sl.o h.outer) hp2 (hvl ▸ hp2)) ?_)))
      refine DO.quiet rfl (q_ld Tryd.underlying52 rfl rfl (Sl.o h.outer) g2) (DO.quiet rfl (q_move rfl) (DO.quiet rfl (q_ix (i := x) Tryd.underlying52 inf3 rfl rfl (Sl.o s2) (by rw [hl2]; exact hlt72) (by rw [List.length_map, hl2]; exact hlt72)) (DO.quiet rfl (q_ld Tryd.underlying3 rfl rfl (Sl.o s2) hx2) ?_)))
      refine DO.quiet rfl (q_build (cs := [.int .i64 ((toN d q0.p.1 x : Nat) : Int), .int .i64 ((toN d q0.p.2 x : Nat) : Int)]) plan108 inf108 (by kernel_rfl)) ?_
      refine DO.loud rfl rfl (l_alloc inf108 rfl (fun z5 => ⟨Sub.pick0 [3, 3] [oI z5 108 [(.int .i64 0), (.int .i64 0)], rowI qb qc 111 3 (qcells (q0 :: rest)), mapI pairV Value.bool mp2 (seenL (pushN d q0.stp (bq d s t i) x)), oI z4 111 [(.int .i64 ((q0.p.1 : Nat) : Int)), (.int .i64 ((q0.p.2 : Nat) : Int)), (.slice q0.b q0.xs.length q0.c)], oI z1 25 [(.int .i64 d.vars), (.int .i64 d.start), (.slice nb d.next.length nc), (.slice fb d.final.length fc)]] (qitms 5 (q0 :: rest)) rfl rfl, ?_⟩))
      refine DO.last rfl rfl (l_store_box (v := (.agg #[.int .i64 ((toN d q0.p.1 x : Nat) : Int), .int .i64 ((toN d q0.p.2 x : Nat) : Int)])) (vs := [.int .i64 ((toN d q0.p.1 x : Nat) : Int), .int .i64 ((toN d q0.p.2 x : Nat) : Int)]) 0 inf108 rfl rfl rfl rfl rfl rfl (by simp [putL]) ?_)
      refine DO.done ?_
      refine T.seq (T.region ?_)
      refine TO.quiet (q_move rfl) (TO.quiet (q_load_boxAgg 0 Tryd.underlying108 rfl inf108 rfl rfl rfl) ?_)
      by_cases hin : suc2 d q0.p x ∈ (pushN d q0.stp (bq d s t i) x).map Prod.fst
      · refine TO.quiet (QT.toB (QT.cast (q_lookup (a := cast2 (suc2 d q0.p x)) Tryd.underlying109 inf4 (KeyOk.pair pair108) rfl rfl (List.mem_of_getElem? (i := 2) rfl)) (v' := .bool (decide (suc2 d q0.p x ∈ (pushN d q0.stp (bq d s t i) x).map Prod.fst))) (look_seenV _ _)) (decide_eq_true hin)) ?_
        refine TO.quiet (q_not rfl) ?_
        refine TO.nil ?_
        refine T.cond0 rfl ?_
        refine T.skip (T.region ?_)
        refine TO.quiet (q_inc rfl rfl (by omega)) (TO.quiet (q_move rfl) ?_)
        refine TO.sub (O' := ([rowI qb qc 111 3 (qcells (q0 :: rest)), mapI pairV Value.bool mp2 (seenL (pushN d q0.stp (bq d s t i) x)), oI z4 111 [(.int .i64 ((q0.p.1 : Nat) : Int)), (.int .i64 ((q0.p.2 : Nat) : Int)), (.slice q0.b q0.xs.length q0.c)], oI z1 25 [(.int .i64 d.vars), (.int .i64 d.start), (.slice nb d.next.length nc), (.slice fb d.final.length fc)]] ++ (qitms 5 (q0 :: rest)))) (Sub.pickR [1, 1, 1, 1] [oI z5 108 [.int .i64 ((toN d q0.p.1 x : Nat) : Int), .int .i64 ((toN d q0.p.2 x : Nat) : Int)], rowI qb qc 111 3 (qcells (q0 :: rest)), mapI pairV Value.bool mp2 (seenL (pushN d q0.stp (bq d s t i) x)), oI z4 111 [(.int .i64 ((q0.p.1 : Nat) : Int)), (.int .i64 ((q0.p.2 : Nat) : Int)), (.slice q0.b q0.xs.length q0.c)], oI z1 25 [(.int .i64 d.vars), (.int .i64 d.start), (.slice nb d.next.length nc), (.slice fb d.final.length fc)]] (qitms 5 (q0 :: rest)) rfl rfl) ?_
        refine TO.nil ?_
        have hA : pushN d q0.stp (bq d s t i) (x + 1) = (pushN d q0.stp (bq d s t i) x) := by
          show pushS d q0.stp _ x = _
          unfold pushS
          exact if_pos hin
        refine ⟨x + 1, by omega, qb, qc, m, rest, by rw [hA], by omega, hm, by rw [hA]; exact hrs2, ⟨rfl, rfl, rfl, rfl, rfl, rfl, rfl, rfl, rfl, rfl, trivial⟩⟩
      refine TO.quiet (QT.toB (QT.cast (q_lookup (a := cast2 (suc2 d q0.p x)) Tryd.underlying109 inf4 (KeyOk.pair pair108) rfl rfl (List.mem_of_getElem? (i := 2) rfl)) (v' := .bool (decide (suc2 d q0.p x ∈ (pushN d q0.stp (bq d s t i) x).map Prod.fst))) (look_seenV _ _)) (decide_eq_false hin)) (TO.quiet (q_not rfl) ?_)
      refine TO.nil ?_
      refine T.cond1 rfl ?_
      refine T.seq (T.region ?_)
      refine TO.quiet (q_move rfl) (TO.quiet (q_load_boxAgg 0 Tryd.underlying108 rfl inf108 rfl rfl rfl) ?_)
      refine TO.loud rfl (l_mapPut (a := cast2 (suc2 d q0.p x)) (v := true) 2 Tryd.underlying109 (KeyOk.pair pair108) rfl rfl rfl rfl (seen_fresh hin) ?_)
      refine TO.nil ?_
      have hRR : ∀ wb2 wc2, rowI wb2 wc2 5 1 ((byts q0.xs) ++ [(.int .u8 (x : Int))]) = QRec.itm 5 ⟨suc2 d q0.p x, wb2, wc2, q0.xs ++ [x]⟩ := fun _ _ => by simp [QRec.itm]
      have hrl : rest.length + 1 ≤ d.next.length * d.next.length := by
        have := congrArg List.length hrs2
        simp at this
        have := (hmid x hx9).1
        omega
      have hil := (hmid x hx9).2.2.2.2.2
      refine T.cut1 (fun ρ O => ∃ (qb2 : Option Addr) (qc2 : Nat) (wb2 : Option Addr) (wc2 : Nat), O = ([rowI qb2 qc2 111 3 ((qcells (q0 :: rest)) ++ [(.int .i64 ((toN d q0.p.1 x : Nat) : Int)), (.int .i64 ((toN d q0.p.2 x : Nat) : Int)), (.slice wb2 (q0.xs.length + 1) wc2)]), oI z5 108 [.int .i64 ((toN d q0.p.1 x : Nat) : Int), .int .i64 ((toN d q0.p.2 x : Nat) : Int)], mapI pairV Value.bool mp2 ((seenL (pushN d q0.stp (bq d s t i) x)) ++ [(cast2 (suc2 d q0.p x), true)]), oI z4 111 [(.int .i64 ((q0.p.1 : Nat) : Int)), (.int .i64 ((q0.p.2 : Nat) : Int)), (.slice q0.b q0.xs.length q0.c)], oI z1 25 [(.int .i64 d.vars), (.int .i64 d.start), (.slice nb d.next.length nc), (.slice fb d.final.length fc)]] ++ (qitms 5 (q0 :: (rest ++ [⟨suc2 d q0.p x, wb2, wc2, q0.xs ++ [x]⟩])))) ∧ Heads [(0, (.agg #[(.int .i64 d.vars), (.int .i64 d.start), (.slice nb d.next.length nc), (.slice fb d.final.length fc)])), (1, .int .i64 (s : Int)), (2, .int .i64 (t : Int)), (3, (.pointer (some ⟨z1, 0, none⟩))), (9, .int .i64 ((0 : Nat) : Int)), (10, (.map (some mp2))), (11, (.slice qb2 (m + 1 + 1) qc2)), (12, (.pointer (some ⟨z4, 0, none⟩))), (13, .int .i64 (x : Int)), (14, (.pointer (some ⟨z5, 0, none⟩))), (70, .int .i64 ((2 ^ d.vars.toNat : Nat) : Int)), (71, .int .i64 (x : Int))] ρ) ?_ ?_
      · refine T.tree [oI z5 108 [.int .i64 ((toN d q0.p.1 x : Nat) : Int), .int .i64 ((toN d q0.p.2 x : Nat) : Int)], oI z4 111 [(.int .i64 ((q0.p.1 : Nat) : Int)), (.int .i64 ((q0.p.2 : Nat) : Int)), (.slice q0.b q0.xs.length q0.c)], oI z1 25 [(.int .i64 d.vars), (.int .i64 d.start), (.slice nb d.next.length nc), (.slice fb d.final.length fc)]] 13 mixed rfl (Sub.pick0 [0, 2, 2] [oI z5 108 [.int .i64 ((toN d q0.p.1 x : Nat) : Int), .int .i64 ((toN d q0.p.2 x : Nat) : Int)], rowI qb qc 111 3 (qcells (q0 :: rest)), mapI pairV Value.bool mp2 ((seenL (pushN d q0.stp (bq d s t i) x)) ++ [(cast2 (suc2 d q0.p x), true)]), oI z4 111 [(.int .i64 ((q0.p.1 : Nat) : Int)), (.int .i64 ((q0.p.2 : Nat) : Int)), (.slice q0.b q0.xs.length q0.c)], oI z1 25 [(.int .i64 d.vars), (.int .i64 d.start), (.slice nb d.next.length nc), (.slice fb d.final.length fc)]] (qitms 5 (q0 :: rest)) rfl rfl) (fun _ _ _ h => h) ?_
        refine RO.quietT 0 rfl (by kernel_rfl) (q_move rfl) ?_
        refine RO.quietT 1 rfl (by kernel_rfl) (q_load_boxAgg 0 Tryd.underlying108 rfl inf108 rfl rfl rfl) ?_
        refine RO.quietT 2 rfl (by kernel_rfl) (q_fieldAddr Tryd.underlying111 rfl inf35 rfl rfl) ?_
        refine RO.quietT 3 rfl (by kernel_rfl) (q_load_box 1 Tryd.underlying35 rfl rfl rfl rfl) ?_
        refine RO.quietT 5 rfl (by kernel_rfl) (q_move rfl) ?_
        refine RO.quietT 6 rfl (by kernel_rfl) (q_conv_id Tryd.underlying3 Tryd.underlying5 rfl (wrap8 (by omega))) ?_
        have hk105 := fun (w1 : World) (hI : Inv w ([oI z5 108 [.int .i64 ((toN d q0.p.1 x : Nat) : Int), .int .i64 ((toN d q0.p.2 x : Nat) : Int)], rowI qb qc 111 3 (qcells (q0 :: rest)), mapI pairV Value.bool mp2 ((seenL (pushN d q0.stp (bq d s t i) x)) ++ [(cast2 (suc2 d q0.p x), true)]), oI z4 111 [(.int .i64 ((q0.p.1 : Nat) : Int)), (.int .i64 ((q0.p.2 : Nat) : Int)), (.slice q0.b q0.xs.length q0.c)], oI z1 25 [(.int .i64 d.vars), (.int .i64 d.start), (.slice nb d.next.length nc), (.slice fb d.final.length fc)]] ++ (qitms 5 (q0 :: rest))) w1) => cloneC w1 q0.b q0.c q0.xs (hI.slOf (T := 5) (k := 1) (List.mem_append_right _ List.mem_cons_self)) (by omega)
        refine RO.fork [4, 7] (by kernel_rfl) rfl ⟨⟨_, rfl, rfl, l_call ent82 (CallT.of_pure hk105) rfl ?_⟩, ⟨_, rfl, rfl, l_build1 (v := .int .u8 (x : Int)) Tryd.underlying35 inf5 rfl rfl rfl (fun zA => ⟨Sub.pick0 [1, 3, 3] [rowI (some ⟨zA, 0, none⟩) 1 5 1 [.int .u8 (x : Int)], oI z5 108 [.int .i64 ((toN d q0.p.1 x : Nat) : Int), .int .i64 ((toN d q0.p.2 x : Nat) : Int)], rowI qb qc 111 3 (qcells (q0 :: rest)), mapI pairV Value.bool mp2 ((seenL (pushN d q0.stp (bq d s t i) x)) ++ [(cast2 (suc2 d q0.p x), true)]), oI z4 111 [(.int .i64 ((q0.p.1 : Nat) : Int)), (.int .i64 ((q0.p.2 : Nat) : Int)), (.slice q0.b q0.xs.length q0.c)], oI z1 25 [(.int .i64 d.vars), (.int .i64 d.start), (.slice nb d.next.length nc), (.slice fb d.final.length fc)]] (qitms 5 (q0 :: rest)) rfl rfl, ?_⟩)⟩, trivial⟩
        · clear hk105
          rintro v O' ⟨N, rfl, wb, wc, rfl, rfl⟩
          refine ⟨Sub.pick0 [1, 3, 3] [rowI wb wc 5 1 (byts q0.xs), oI z5 108 [.int .i64 ((toN d q0.p.1 x : Nat) : Int), .int .i64 ((toN d q0.p.2 x : Nat) : Int)], rowI qb qc 111 3 (qcells (q0 :: rest)), mapI pairV Value.bool mp2 ((seenL (pushN d q0.stp (bq d s t i) x)) ++ [(cast2 (suc2 d q0.p x), true)]), oI z4 111 [(.int .i64 ((q0.p.1 : Nat) : Int)), (.int .i64 ((q0.p.2 : Nat) : Int)), (.slice q0.b q0.xs.length q0.c)], oI z1 25 [(.int .i64 d.vars), (.int .i64 d.start), (.slice nb d.next.length nc), (.slice fb d.final.length fc)]] (qitms 5 (q0 :: rest)) rfl rfl, ?_⟩
          refine RO.fork [7] (by kernel_rfl) rfl ⟨⟨_, rfl, rfl, l_build1 (v := .int .u8 (x : Int)) Tryd.underlying35 inf5 rfl rfl rfl (fun zA => ⟨Sub.pick0 [2, 4, 4] [rowI (some ⟨zA, 0, none⟩) 1 5 1 [.int .u8 (x : Int)], rowI wb wc 5 1 (byts q0.xs), oI z5 108 [.int .i64 ((toN d q0.p.1 x : Nat) : Int), .int .i64 ((toN d q0.p.2 x : Nat) : Int)], rowI qb qc 111 3 (qcells (q0 :: rest)), mapI pairV Value.bool mp2 ((seenL (pushN d q0.stp (bq d s t i) x)) ++ [(cast2 (suc2 d q0.p x), true)]), oI z4 111 [(.int .i64 ((q0.p.1 : Nat) : Int)), (.int .i64 ((q0.p.2 : Nat) : Int)), (.slice q0.b q0.xs.length q0.c)], oI z1 25 [(.int .i64 d.vars), (.int .i64 d.start), (.slice nb d.next.length nc), (.slice fb d.final.length fc)]] (qitms 5 (q0 :: rest)) rfl rfl, ?_⟩)⟩, trivial⟩
          refine RO.fork [8] (by kernel_rfl) rfl ⟨⟨_, rfl, rfl, l_append 1 Tryd.underlying35 Tryd.underlying35 inf5 rfl rfl rfl rfl (by rw [List.length_map, Nat.mul_one]) (by decide) (Src.row (j := 0) rfl (by simp)) (by simp [oneB]) (by omega) (by decide) (by decide) (fun wb2 wc2 => ⟨Sub.pick0 [2, 4, 4] [rowI (some ⟨zA, 0, none⟩) 1 5 1 [.int .u8 (x : Int)], rowI wb2 wc2 5 1 ((byts q0.xs) ++ [.int .u8 (x : Int)]), oI z5 108 [.int .i64 ((toN d q0.p.1 x : Nat) : Int), .int .i64 ((toN d q0.p.2 x : Nat) : Int)], rowI qb qc 111 3 (qcells (q0 :: rest)), mapI pairV Value.bool mp2 ((seenL (pushN d q0.stp (bq d s t i) x)) ++ [(cast2 (suc2 d q0.p x), true)]), oI z4 111 [(.int .i64 ((q0.p.1 : Nat) : Int)), (.int .i64 ((q0.p.2 : Nat) : Int)), (.slice q0.b q0.xs.length q0.c)], oI z1 25 [(.int .i64 d.vars), (.int .i64 d.start), (.slice nb d.next.length nc), (.slice fb d.final.length fc)]] (qitms 5 (q0 :: rest)) rfl rfl, ?_⟩)⟩, trivial⟩
          refine RO.quietT 9 rfl (by kernel_rfl) (q_build (cs := [.int .i64 ((toN d q0.p.1 x : Nat) : Int), .int .i64 ((toN d q0.p.2 x : Nat) : Int), (.slice wb2 (q0.xs.length + 1) wc2)]) plan111 inf111 (by kernel_rfl)) ?_
          refine RO.fork [10] (by kernel_rfl) rfl ⟨⟨_, rfl, rfl, l_buildSlice (m := 1) (parts := [(0, _)]) (cs := [.int .i64 ((toN d q0.p.1 x : Nat) : Int), .int .i64 ((toN d q0.p.2 x : Nat) : Int), (.slice wb2 (q0.xs.length + 1) wc2)]) Tryd.underlying112 inf111 (by decide) (by kernel_rfl) rfl (fun zB => ⟨Sub.pick0 [3, 5, 5] [rowI (some ⟨zB, 0, none⟩) 1 111 3 [.int .i64 ((toN d q0.p.1 x : Nat) : Int), .int .i64 ((toN d q0.p.2 x : Nat) : Int), (.slice wb2 (q0.xs.length + 1) wc2)], rowI (some ⟨zA, 0, none⟩) 1 5 1 [.int .u8 (x : Int)], rowI wb2 wc2 5 1 ((byts q0.xs) ++ [.int .u8 (x : Int)]), oI z5 108 [.int .i64 ((toN d q0.p.1 x : Nat) : Int), .int .i64 ((toN d q0.p.2 x : Nat) : Int)], rowI qb qc 111 3 (qcells (q0 :: rest)), mapI pairV Value.bool mp2 ((seenL (pushN d q0.stp (bq d s t i) x)) ++ [(cast2 (suc2 d q0.p x), true)]), oI z4 111 [(.int .i64 ((q0.p.1 : Nat) : Int)), (.int .i64 ((q0.p.2 : Nat) : Int)), (.slice q0.b q0.xs.length q0.c)], oI z1 25 [(.int .i64 d.vars), (.int .i64 d.start), (.slice nb d.next.length nc), (.slice fb d.final.length fc)]] (qitms 5 (q0 :: rest)) rfl rfl, ?_⟩)⟩, trivial⟩
          refine RO.fork [11] (by kernel_rfl) rfl ⟨⟨_, rfl, rfl, l_append 4 Tryd.underlying112 Tryd.underlying112 inf111 rfl rfl rfl rfl (by rw [qcells_len, hm]; rfl) (by decide) (Src.row (j := 0) rfl (by simp)) (by simp [oneB]) (by omega) (by decide) (by decide) (fun qb2 qc2 => ⟨Sub.pick0 [3, 5, 5] [rowI (some ⟨zB, 0, none⟩) 1 111 3 [.int .i64 ((toN d q0.p.1 x : Nat) : Int), .int .i64 ((toN d q0.p.2 x : Nat) : Int), (.slice wb2 (q0.xs.length + 1) wc2)], rowI (some ⟨zA, 0, none⟩) 1 5 1 [.int .u8 (x : Int)], rowI wb2 wc2 5 1 ((byts q0.xs) ++ [.int .u8 (x : Int)]), oI z5 108 [.int .i64 ((toN d q0.p.1 x : Nat) : Int), .int .i64 ((toN d q0.p.2 x : Nat) : Int)], rowI qb2 qc2 111 3 ((qcells (q0 :: rest)) ++ [.int .i64 ((toN d q0.p.1 x : Nat) : Int), .int .i64 ((toN d q0.p.2 x : Nat) : Int), (.slice wb2 (q0.xs.length + 1) wc2)]), mapI pairV Value.bool mp2 ((seenL (pushN d q0.stp (bq d s t i) x)) ++ [(cast2 (suc2 d q0.p x), true)]), oI z4 111 [(.int .i64 ((q0.p.1 : Nat) : Int)), (.int .i64 ((q0.p.2 : Nat) : Int)), (.slice q0.b q0.xs.length q0.c)], oI z1 25 [(.int .i64 d.vars), (.int .i64 d.start), (.slice nb d.next.length nc), (.slice fb d.final.length fc)]] (qitms 5 (q0 :: rest)) rfl rfl, ?_⟩)⟩, trivial⟩
          refine RO.quietT 12 rfl (by kernel_rfl) (q_assign rfl) ?_
          exact RO.fin (by kernel_rfl) ⟨qb2, qc2, wb2, wc2, rfl, ⟨rfl, rfl, rfl, rfl, rfl, rfl, rfl, rfl, rfl, rfl, rfl, rfl, trivial⟩⟩ (by show Sub _ ([rowI (some ⟨zB, 0, none⟩) 1 111 3 [.int .i64 ((toN d q0.p.1 x : Nat) : Int), .int .i64 ((toN d q0.p.2 x : Nat) : Int), (.slice wb2 (q0.xs.length + 1) wc2)], rowI (some ⟨zA, 0, none⟩) 1 5 1 [.int .u8 (x : Int)], rowI wb2 wc2 5 1 ((byts q0.xs) ++ [.int .u8 (x : Int)]), oI z5 108 [.int .i64 ((toN d q0.p.1 x : Nat) : Int), .int .i64 ((toN d q0.p.2 x : Nat) : Int)], rowI qb2 qc2 111 3 ((qcells (q0 :: rest)) ++ [.int .i64 ((toN d q0.p.1 x : Nat) : Int), .int .i64 ((toN d q0.p.2 x : Nat) : Int), (.slice wb2 (q0.xs.length + 1) wc2)]), mapI pairV Value.bool mp2 ((seenL (pushN d q0.stp (bq d s t i) x)) ++ [(cast2 (suc2 d q0.p x), true)]), oI z4 111 [(.int .i64 ((q0.p.1 : Nat) : Int)), (.int .i64 ((q0.p.2 : Nat) : Int)), (.slice q0.b q0.xs.length q0.c)], oI z1 25 [(.int .i64 d.vars), (.int .i64 d.start), (.slice nb d.next.length nc), (.slice fb d.final.length fc)]] ++ qitms 5 (q0 :: rest)); rw [hRR]; exact Sub.cnt [rowI (some ⟨zB, 0, none⟩) 1 111 3 [.int .i64 ((toN d q0.p.1 x : Nat) : Int), .int .i64 ((toN d q0.p.2 x : Nat) : Int), (.slice wb2 (q0.xs.length + 1) wc2)], rowI (some ⟨zA, 0, none⟩) 1 5 1 [.int .u8 (x : Int)]] (by intro a; simp only [itms, qitms, oI, List.set_cons_zero, List.set_cons_succ, putL, List.cons_append, List.nil_append, List.append_nil, List.append_assoc, List.map_append, List.map_cons, List.map_nil, cnt_append, cnt_cons, cnt_nil] <;> omega))
        have hk105 := fun (w1 : World) (hI : Inv w ([rowI (some ⟨zA, 0, none⟩) 1 5 1 [.int .u8 (x : Int)], oI z5 108 [.int .i64 ((toN d q0.p.1 x : Nat) : Int), .int .i64 ((toN d q0.p.2 x : Nat) : Int)], rowI qb qc 111 3 (qcells (q0 :: rest)), mapI pairV Value.bool mp2 ((seenL (pushN d q0.stp (bq d s t i) x)) ++ [(cast2 (suc2 d q0.p x), true)]), oI z4 111 [(.int .i64 ((q0.p.1 : Nat) : Int)), (.int .i64 ((q0.p.2 : Nat) : Int)), (.slice q0.b q0.xs.length q0.c)], oI z1 25 [(.int .i64 d.vars), (.int .i64 d.start), (.slice nb d.next.length nc), (.slice fb d.final.length fc)]] ++ (qitms 5 (q0 :: rest))) w1) => cloneC w1 q0.b q0.c q0.xs (hI.slOf (T := 5) (k := 1) (List.mem_append_right _ List.mem_cons_self)) (by omega)
        refine RO.fork [4] (by kernel_rfl) rfl ⟨⟨_, rfl, rfl, l_call ent82 (CallT.of_pure hk105) rfl ?_⟩, trivial⟩
        clear hk105
        rintro v O' ⟨N, rfl, wb, wc, rfl, rfl⟩
        refine ⟨Sub.pick0 [2, 4, 4] [rowI wb wc 5 1 (byts q0.xs), rowI (some ⟨zA, 0, none⟩) 1 5 1 [.int .u8 (x : Int)], oI z5 108 [.int .i64 ((toN d q0.p.1 x : Nat) : Int), .int .i64 ((toN d q0.p.2 x : Nat) : Int)], rowI qb qc 111 3 (qcells (q0 :: rest)), mapI pairV Value.bool mp2 ((seenL (pushN d q0.stp (bq d s t i) x)) ++ [(cast2 (suc2 d q0.p x), true)]), oI z4 111 [(.int .i64 ((q0.p.1 : Nat) : Int)), (.int .i64 ((q0.p.2 : Nat) : Int)), (.slice q0.b q0.xs.length q0.c)], oI z1 25 [(.int .i64 d.vars), (.int .i64 d.start), (.slice nb d.next.length nc), (.slice fb d.final.length fc)]] (qitms 5 (q0 :: rest)) rfl rfl, ?_⟩
        refine RO.fork [8] (by kernel_rfl) rfl ⟨⟨_, rfl, rfl, l_append 0 Tryd.underlying35 Tryd.underlying35 inf5 rfl rfl rfl rfl (by rw [List.length_map, Nat.mul_one]) (by decide) (Src.row (j := 1) rfl (by simp)) (by simp [oneB]) (by omega) (by decide) (by decide) (fun wb2 wc2 => ⟨Sub.pick0 [2, 4, 4] [rowI wb2 wc2 5 1 ((byts q0.xs) ++ [.int .u8 (x : Int)]), rowI (some ⟨zA, 0, none⟩) 1 5 1 [.int .u8 (x : Int)], oI z5 108 [.int .i64 ((toN d q0.p.1 x : Nat) : Int), .int .i64 ((toN d q0.p.2 x : Nat) : Int)], rowI qb qc 111 3 (qcells (q0 :: rest)), mapI pairV Value.bool mp2 ((seenL (pushN d q0.stp (bq d s t i) x)) ++ [(cast2 (suc2 d q0.p x), true)]), oI z4 111 [(.int .i64 ((q0.p.1 : Nat) : Int)), (.int .i64 ((q0.p.2 : Nat) : Int)), (.slice q0.b q0.xs.length q0.c)], oI z1 25 [(.int .i64 d.vars), (.int .i64 d.start), (.slice nb d.next.length nc), (.slice fb d.final.length fc)]] (qitms 5 (q0 :: rest)) rfl rfl, ?_⟩)⟩, trivial⟩
        refine RO.quietT 9 rfl (by kernel_rfl) (q_build (cs := [.int .i64 ((toN d q0.p.1 x : Nat) : Int), .int .i64 ((toN d q0.p.2 x : Nat) : Int), (.slice wb2 (q0.xs.length + 1) wc2)]) plan111 inf111 (by kernel_rfl)) ?_
        refine RO.fork [10] (by kernel_rfl) rfl ⟨⟨_, rfl, rfl, l_buildSlice (m := 1) (parts := [(0, _)]) (cs := [.int .i64 ((toN d q0.p.1 x : Nat) : Int), .int .i64 ((toN d q0.p.2 x : Nat) : Int), (.slice wb2 (q0.xs.length + 1) wc2)]) Tryd.underlying112 inf111 (by decide) (by kernel_rfl) rfl (fun zB => ⟨Sub.pick0 [3, 5, 5] [rowI (some ⟨zB, 0, none⟩) 1 111 3 [.int .i64 ((toN d q0.p.1 x : Nat) : Int), .int .i64 ((toN d q0.p.2 x : Nat) : Int), (.slice wb2 (q0.xs.length + 1) wc2)], rowI wb2 wc2 5 1 ((byts q0.xs) ++ [.int .u8 (x : Int)]), rowI (some ⟨zA, 0, none⟩) 1 5 1 [.int .u8 (x : Int)], oI z5 108 [.int .i64 ((toN d q0.p.1 x : Nat) : Int), .int .i64 ((toN d q0.p.2 x : Nat) : Int)], rowI qb qc 111 3 (qcells (q0 :: rest)), mapI pairV Value.bool mp2 ((seenL (pushN d q0.stp (bq d s t i) x)) ++ [(cast2 (suc2 d q0.p x), true)]), oI z4 111 [(.int .i64 ((q0.p.1 : Nat) : Int)), (.int .i64 ((q0.p.2 : Nat) : Int)), (.slice q0.b q0.xs.length q0.c)], oI z1 25 [(.int .i64 d.vars), (.int .i64 d.start), (.slice nb d.next.length nc), (.slice fb d.final.length fc)]] (qitms 5 (q0 :: rest)) rfl rfl, ?_⟩)⟩, trivial⟩
        refine RO.fork [11] (by kernel_rfl) rfl ⟨⟨_, rfl, rfl, l_append 4 Tryd.underlying112 Tryd.underlying112 inf111 rfl rfl rfl rfl (by rw [qcells_len, hm]; rfl) (by decide) (Src.row (j := 0) rfl (by simp)) (by simp [oneB]) (by omega) (by decide) (by decide) (fun qb2 qc2 => ⟨Sub.pick0 [3, 5, 5] [rowI (some ⟨zB, 0, none⟩) 1 111 3 [.int .i64 ((toN d q0.p.1 x : Nat) : Int), .int .i64 ((toN d q0.p.2 x : Nat) : Int), (.slice wb2 (q0.xs.length + 1) wc2)], rowI wb2 wc2 5 1 ((byts q0.xs) ++ [.int .u8 (x : Int)]), rowI (some ⟨zA, 0, none⟩) 1 5 1 [.int .u8 (x : Int)], oI z5 108 [.int .i64 ((toN d q0.p.1 x : Nat) : Int), .int .i64 ((toN d q0.p.2 x : Nat) : Int)], rowI qb2 qc2 111 3 ((qcells (q0 :: rest)) ++ [.int .i64 ((toN d q0.p.1 x : Nat) : Int), .int .i64 ((toN d q0.p.2 x : Nat) : Int), (.slice wb2 (q0.xs.length + 1) wc2)]), mapI pairV Value.bool mp2 ((seenL (pushN d q0.stp (bq d s t i) x)) ++ [(cast2 (suc2 d q0.p x), true)]), oI z4 111 [(.int .i64 ((q0.p.1 : Nat) : Int)), (.int .i64 ((q0.p.2 : Nat) : Int)), (.slice q0.b q0.xs.length q0.c)], oI z1 25 [(.int .i64 d.vars), (.int .i64 d.start), (.slice nb d.next.length nc), (.slice fb d.final.length fc)]] (qitms 5 (q0 :: rest)) rfl rfl, ?_⟩)⟩, trivial⟩
        refine RO.quietT 12 rfl (by kernel_rfl) (q_assign rfl) ?_
        exact RO.fin (by kernel_rfl) ⟨qb2, qc2, wb2, wc2, rfl, ⟨rfl, rfl, rfl, rfl, rfl, rfl, rfl, rfl, rfl, rfl, rfl, rfl, trivial⟩⟩ (by show Sub _ ([rowI (some ⟨zB, 0, none⟩) 1 111 3 [.int .i64 ((toN d q0.p.1 x : Nat) : Int), .int .i64 ((toN d q0.p.2 x : Nat) : Int), (.slice wb2 (q0.xs.length + 1) wc2)], rowI wb2 wc2 5 1 ((byts q0.xs) ++ [.int .u8 (x : Int)]), rowI (some ⟨zA, 0, none⟩) 1 5 1 [.int .u8 (x : Int)], oI z5 108 [.int .i64 ((toN d q0.p.1 x : Nat) : Int), .int .i64 ((toN d q0.p.2 x : Nat) : Int)], rowI qb2 qc2 111 3 ((qcells (q0 :: rest)) ++ [.int .i64 ((toN d q0.p.1 x : Nat) : Int), .int .i64 ((toN d q0.p.2 x : Nat) : Int), (.slice wb2 (q0.xs.length + 1) wc2)]), mapI pairV Value.bool mp2 ((seenL (pushN d q0.stp (bq d s t i) x)) ++ [(cast2 (suc2 d q0.p x), true)]), oI z4 111 [(.int .i64 ((q0.p.1 : Nat) : Int)), (.int .i64 ((q0.p.2 : Nat) : Int)), (.slice q0.b q0.xs.length q0.c)], oI z1 25 [(.int .i64 d.vars), (.int .i64 d.start), (.slice nb d.next.length nc), (.slice fb d.final.length fc)]] ++ qitms 5 (q0 :: rest)); rw [hRR]; exact Sub.cnt [rowI (some ⟨zB, 0, none⟩) 1 111 3 [.int .i64 ((toN d q0.p.1 x : Nat) : Int), .int .i64 ((toN d q0.p.2 x : Nat) : Int), (.slice wb2 (q0.xs.length + 1) wc2)], rowI (some ⟨zA, 0, none⟩) 1 5 1 [.int .u8 (x : Int)]] (by intro a; simp only [itms, qitms, oI, List.set_cons_zero, List.set_cons_succ, putL, List.cons_append, List.nil_append, List.append_nil, List.append_assoc, List.map_append, List.map_cons, List.map_nil, cnt_append, cnt_cons, cnt_nil] <;> omega))
      rintro ρ O ⟨qb2, qc2, wb2, wc2, rfl, hH⟩
      obtain ⟨ρ0, rfl⟩ := hH.elim
      clear hH
      refine T.region ?_
      refine TO.quiet (q_inc rfl rfl (by omega)) (TO.quiet (q_move rfl) ?_)
      refine TO.sub (O' := ([rowI qb2 qc2 111 3 ((qcells (q0 :: rest)) ++ [(.int .i64 ((toN d q0.p.1 x : Nat) : Int)), (.int .i64 ((toN d q0.p.2 x : Nat) : Int)), (.slice wb2 (q0.xs.length + 1) wc2)]), mapI pairV Value.bool mp2 ((seenL (pushN d q0.stp (bq d s t i) x)) ++ [(cast2 (suc2 d q0.p x), true)]), oI z4 111 [(.int .i64 ((q0.p.1 : Nat) : Int)), (.int .i64 ((q0.p.2 : Nat) : Int)), (.slice q0.b q0.xs.length q0.c)], oI z1 25 [(.int .i64 d.vars), (.int .i64 d.start), (.slice nb d.next.length nc), (.slice fb d.final.length fc)]] ++ (qitms 5 (q0 :: (rest ++ [⟨suc2 d q0.p x, wb2, wc2, q0.xs ++ [x]⟩]))))) (Sub.pickR [0, 1, 1, 1] [rowI qb2 qc2 111 3 ((qcells (q0 :: rest)) ++ [(.int .i64 ((toN d q0.p.1 x : Nat) : Int)), (.int .i64 ((toN d q0.p.2 x : Nat) : Int)), (.slice wb2 (q0.xs.length + 1) wc2)]), oI z5 108 [.int .i64 ((toN d q0.p.1 x : Nat) : Int), .int .i64 ((toN d q0.p.2 x : Nat) : Int)], mapI pairV Value.bool mp2 ((seenL (pushN d q0.stp (bq d s t i) x)) ++ [(cast2 (suc2 d q0.p x), true)]), oI z4 111 [(.int .i64 ((q0.p.1 : Nat) : Int)), (.int .i64 ((q0.p.2 : Nat) : Int)), (.slice q0.b q0.xs.length q0.c)], oI z1 25 [(.int .i64 d.vars), (.int .i64 d.start), (.slice nb d.next.length nc), (.slice fb d.final.length fc)]] (qitms 5 (q0 :: (rest ++ [⟨suc2 d q0.p x, wb2, wc2, q0.xs ++ [x]⟩]))) rfl rfl) ?_
      refine TO.nil ?_
      have hA : pushN d q0.stp (bq d s t i) (x + 1) = (pushN d q0.stp (bq d s t i) x) ++ [(suc2 d q0.p x, q0.xs ++ [x])] := by
        show pushS d q0.stp _ x = _
        unfold pushS
        exact if_neg hin
      refine ⟨x + 1, by omega, qb2, qc2, m + 1, rest ++ [⟨suc2 d q0.p x, wb2, wc2, q0.xs ++ [x]⟩], ?_, by omega, by simp [hm], ?_, ⟨rfl, rfl, rfl, rfl, rfl, rfl, rfl, rfl, rfl, rfl, trivial⟩⟩
      · rw [hA, show seenL ((pushN d q0.stp (bq d s t i) x) ++ [(suc2 d q0.p x, q0.xs ++ [x])]) = seenL (pushN d q0.stp (bq d s t i) x) ++ [(cast2 (suc2 d q0.p x), true)] from List.map_append, show qcells (q0 :: (rest ++ [⟨suc2 d q0.p x, wb2, wc2, q0.xs ++ [x]⟩])) = qcells (q0 :: rest) ++ [(.int .i64 ((toN d q0.p.1 x : Nat) : Int)), (.int .i64 ((toN d q0.p.2 x : Nat) : Int)), (.slice wb2 (q0.xs.length + 1) wc2)] by simp [QRec.cells, suc2]]
      · rw [hA, List.drop_append_of_le_length (by omega), ← hrs2]; simp [QRec.stp]
    have hge72 : ¬ x < 2 ^ d.vars.toNat := by omega
    have hgx : ¬ x < letN d := hge72
    refine T.exit ?_
    refine T.region ?_
    refine TO.quiet (q_move rfl) ?_
    refine TO.loud rfl (l_tail 0 Tryd.underlying112 inf111 (by decide) rfl rfl rfl (by rw [qcells_len, hm]; rfl) (by omega) (fun z6 => ?_))
    refine TO.quiet (q_assign rfl) ?_
    refine TO.sub (O' := [rowI z6 (qc - 1) 111 3 (qcells rest), mapI pairV Value.bool mp2 (seenL (pushN d q0.stp (bq d s t i) x)), oI z1 25 [(.int .i64 d.vars), (.int .i64 d.start), (.slice nb d.next.length nc), (.slice fb d.final.length fc)]] ++ qitms 5 rest) (by show Sub _ ([rowI z6 (qc - 1) 111 3 (qcells rest), mapI pairV Value.bool mp2 (seenL (pushN d q0.stp (bq d s t i) x)), oI z4 111 [(.int .i64 ((q0.p.1 : Nat) : Int)), (.int .i64 ((q0.p.2 : Nat) : Int)), (.slice q0.b q0.xs.length q0.c)], oI z1 25 [(.int .i64 d.vars), (.int .i64 d.start), (.slice nb d.next.length nc), (.slice fb d.final.length fc)]] ++ qitms 5 (q0 :: rest)); exact Sub.cnt [oI z4 111 [(.int .i64 ((q0.p.1 : Nat) : Int)), (.int .i64 ((q0.p.2 : Nat) : Int)), (.slice q0.b q0.xs.length q0.c)], QRec.itm 5 q0] (by intro a; simp only [itms, qitms, oI, List.set_cons_zero, List.set_cons_succ, putL, List.cons_append, List.nil_append, List.append_nil, List.append_assoc, List.map_append, List.map_cons, List.map_nil, cnt_append, cnt_cons, cnt_nil] <;> omega)) ?_
    refine TO.nil ?_
    have hxe : x = letN d := by omega
    have hbq : pushN d q0.stp (bq d s t i) x = bq d s t (i + 1) := by rw [bq_succ hq0, hxe]
    refine ⟨i + 1, by omega, z6, qc - 1, m, rest, by rw [hbq], hm, ?_, ?_, ⟨rfl, rfl, rfl, rfl, rfl, rfl, rfl, trivial⟩⟩
    · rw [← hbq]; have := congrArg List.tail hrs2; simpa [List.tail_drop] using this
    · intro j hj9
      by_cases e : j = i
      · subst e; exact ⟨q0.stp, hq0, heq⟩
      · exact hj j (by omega)
  have hge45 : ¬ m > 0 := by omega
  refine T.exit ?_
  refine T.seq (T.region ?_)
  refine TO.quiet (q_assign rfl) (TO.quiet (q_assign rfl) (TO.quiet (q_assign rfl) ?_))
  refine TO.nil (T.ret (Res.drop ?_))
  refine Res.three (.slice none 0 0) (.bool false) (.int .i64 0) Tryd.results61 rfl rfl rfl ?_
  have hend : (bq d s t i).length ≤ i := by
    have := congrArg List.length hrs
    simp at this
    omega
  exact ⟨[], Sub.of (List.nil_sublist _), none, BfsR.tell hv (res := none) ⟨i, hj, hend⟩, rfl, rfl⟩
end Go.Proofs.YtdaapdamcekkgaaDoor


namespace Go.Proofs.YtdaapdamcekkgaaDoor
open Go.Lx Go.RowKit
set_option linter.unusedVariables false
set_option linter.unusedSimpArgs false
end Go.Proofs.YtdaapdamcekkgaaDoor


namespace Go.Proofs.YtdaapdamcekkgaaDoor
open Go.Lx Go.RowKit
set_option linter.unusedVariables false
set_option linter.unusedSimpArgs false
end Go.Proofs.YtdaapdamcekkgaaDoor


namespace Go.Proofs.YtdaapdamcekkgaaDoor
open Go.Lx Go.RowKit
set_option linter.unusedVariables false
set_option linter.unusedSimpArgs false
end Go.Proofs.YtdaapdamcekkgaaDoor


namespace Go.Proofs.YtdaapdamcekkgaaDoor
open Go.Lx Go.RowKit
set_option linter.unusedVariables false
set_option linter.unusedSimpArgs false
end Go.Proofs.YtdaapdamcekkgaaDoor


namespace Go.Proofs.YtdaapdamcekkgaaDoor
open Go.Lx Go.RowKit
set_option linter.unusedVariables false
set_option linter.unusedSimpArgs false
end Go.Proofs.YtdaapdamcekkgaaDoor


namespace Go.Proofs.YtdaapdamcekkgaaDoor
open Go.Lx Go.RowKit
set_option linter.unusedVariables false
set_option linter.unusedSimpArgs false
theorem minA (w : World) (d : DFA) (nb fb : Option Addr) (nc fc : Nat) (vs : List Value) (h : DfaAt w d nb vs fb) (hb : d.next.length < 9223372036854775807) (hbr : ∀ r ∈ d.next, r.length < 9223372036854775807) (hbf : d.final.length < 9223372036854775807) (hn : Valid d → d.next.length < 100) :
    PureT Tryd.prog 21 [.agg (dfaCells d nb nc fb fc).toArray] w fun v N => ∃ nb' nc' fb' fc' qs, v = .tuple #[.agg (dfaCells (minV d) nb' nc' fb' fc').toArray, .int .i64 (checkD d : Int)] ∧ N = [rowI nb' nc' 52 1 (vals qs), rowI fb' fc' 4 1 (bools (minV d).final)] ++ itms 3 qs ∧ nums qs = (minV d).next := by
  unfold minV
  by_cases he : checkD d = 0
  · have hv := checkD_zero.1 he
    obtain ⟨q1, q2⟩ := quo_itF hv d.next.length
    rw [he, if_pos rfl]
    exact minOk w d nb fb nc fc vs h hv (hn hv) q1 (by have := hn hv; omega)
  · rw [if_neg he]
    refine (CallT.addNil 52 1 (CallT.addNil 4 1 (minBad w d nb fb nc fc vs h hb hbr hbf he))).mono ?_
    rintro v N ⟨O2, rfl, O3, rfl, rfl, rfl⟩
    exact ⟨none, 0, none, 0, [], rfl, rfl, rfl⟩
theorem distA (w : World) (d : DFA) (nb fb : Option Addr) (nc fc : Nat) (vs : List Value) (h : DfaAt w d nb vs fb) (hb : d.next.length < 9223372036854775807) (hbr : ∀ r ∈ d.next, r.length < 9223372036854775807) (hbf : d.final.length < 9223372036854775807) (hn : Valid d → d.next.length < 100) (s t : Int) :
    PureT Tryd.prog 61 [.agg (dfaCells d nb nc fb fc).toArray, .int .i64 s, .int .i64 t] w fun v N => DistV 5 d s t v N := by
  by_cases he : checkD d = 0
  · have hv := checkD_zero.1 he
    by_cases hst : s < 0 ∨ t < 0 ∨ (d.next.length : Int) ≤ s ∨ (d.next.length : Int) ≤ t
    · have e8 : eD d s t = 8 := by unfold eD; rw [if_neg (by simp [he]), if_pos hst]
      refine (CallT.addNil 5 1 (distOut w d nb fb nc fc vs h hv s t hst)).mono ?_
      rintro v N ⟨O2, rfl, rfl, rfl⟩
      exact ⟨none, none, 0, by unfold TellA; rw [if_neg (by rw [e8]; decide)], by rw [e8]; rfl, rfl⟩
    · have e0 : eD d s t = 0 := by unfold eD; rw [if_neg (by simp [he]), if_neg hst]
      have hs : s = ((s.toNat : Nat) : Int) := by omega
      have ht : t = ((t.toNat : Nat) : Int) := by omega
      have h1 := distOk w d nb fb nc fc vs h hv (hn hv) s.toNat t.toNat (by omega) (by omega)
      rw [← hs, ← ht] at h1
      refine (CallT.nilOr 5 1 h1).mono ?_
      rintro v N ⟨O2, hN, res, hT, hV⟩
      have hTA : TellA d s t res := by unfold TellA; rw [if_pos e0]; exact hT
      cases res with
      | none =>
        obtain ⟨rfl, rfl⟩ := hV
        exact ⟨none, none, 0, hTA, by rw [e0]; rfl, hN.2 rfl⟩
      | some u =>
        obtain ⟨b, c, rfl, rfl⟩ := hV
        exact ⟨some u, b, c, hTA, by rw [e0]; rfl, hN.1 (by simp)⟩
  · have e1 : eD d s t = checkD d := by unfold eD; rw [if_pos he]
    refine (CallT.addNil 5 1 (distBad w d nb fb nc fc vs h hb hbr hbf he s t)).mono ?_
    rintro v N ⟨O2, rfl, rfl, rfl⟩
    exact ⟨none, none, 0, by unfold TellA; rw [if_neg (by rw [e1]; exact he)], by rw [e1]; rfl, rfl⟩
end Go.Proofs.YtdaapdamcekkgaaDoor


namespace Go.Lx
open Go.RowKit
set_option linter.unusedVariables false
structure DRec where
  d : DFA
  nb : Option Addr
  fb : Option Addr
  nc : Nat
  fc : Nat
  vs : List Value
def DRec.cells (r : DRec) : List Value := dfaCells r.d r.nb r.nc r.fb r.fc
abbrev dcells (L : List DRec) : List Value := L.flatMap DRec.cells
theorem dcells_len : ∀ L : List DRec, (dcells L).length = L.length * 4
  | [] => rfl
  | q :: rs => by
    have := dcells_len rs
    simp only [dcells] at this
    simp only [dcells, List.flatMap_cons, List.length_append, this, List.length_cons, DRec.cells, List.length_nil]
    omega
theorem dcells_get : ∀ {L : List DRec} {i : Nat} (h : i < L.length) {j : Nat}, j < 4 → (dcells L)[i * 4 + j]? = (L[i].cells)[j]?
  | q :: rs, 0, h, j, hj => by
    simp only [dcells, List.flatMap_cons]
    rw [List.getElem?_append_left (by simp [DRec.cells]; omega)]
    simp
  | q :: rs, i + 1, h, j, hj => by
    have ih := dcells_get (L := rs) (i := i) (by simpa using h) hj
    simp only [dcells, List.flatMap_cons]
    rw [List.getElem?_append_right (by simp [DRec.cells]; omega)]
    simp only [dcells] at ih
    rw [show (i + 1) * 4 + j - q.cells.length = i * 4 + j by simp [DRec.cells]; omega, ih]
    simp
theorem any_take {α : Type} {L : List α} {f : α → Bool} {i : Nat} (hi : i < L.length) (h : (L.take i).any f = false) (h2 : f L[i] = false) : (L.take (i + 1)).any f = false := by
  rw [List.take_succ_eq_append_getElem hi, List.any_append, h]; simp [h2]
theorem any_at {α : Type} {L : List α} {f : α → Bool} {i : Nat} (hi : i < L.length) (h : f L[i] = true) : L.any f = true :=
  List.any_eq_true.2 ⟨_, List.getElem_mem hi, h⟩
end Go.Lx
namespace Go.Lx
end Go.Lx
namespace Go.Lx
theorem Tell.len {d : DFA} (hv : Valid d) {s t : Nat} (hs : s < d.next.length) (ht : t < d.next.length) {u : List Nat} (h : Tell d s t (some u)) : u.length ≤ d.next.length := by
  have h : IsLeast d s t u := h
  by_cases hd : ∀ j, j ≤ d.next.length → dif d j s t = false
  · exact absurd h.dst (tell_none hv hs ht hd u h.wd)
  · obtain ⟨j, hj⟩ := Classical.not_forall.1 hd
    simp only [Classical.not_imp, Bool.not_eq_false] at hj
    obtain ⟨w, h1, h2, h3⟩ := (dif_iff d j s t).1 hj.2
    have := code_len u w (hv.wd64 h.wd) (hv.wd64 h1) (h.le w h1 h3)
    omega
theorem TellA.len {d : DFA} (hN : Valid d → d.next.length < 100) {s t : Int} {res : Option (List Nat)} (h : TellA d s t res) : (res.getD []).length < 9223372036854775807 := by
  unfold TellA at h
  by_cases h0 : eD d s t = 0
  · rw [if_pos h0] at h
    obtain ⟨hv, h1, h2, h3, h4⟩ := eD_zero.1 h0
    cases res with
    | none => exact (by decide : 0 < 9223372036854775807)
    | some u =>
      have := Tell.len hv (by omega) (by omega) h
      have := hN hv
      show u.length < _
      omega
  · rw [if_neg h0] at h
    subst h
    exact (by decide : 0 < 9223372036854775807)
end Go.Lx


namespace Go.Lx
set_option linter.unusedVariables false
def clsOf (d : DFA) (s : Nat) : Nat := (itF d d.next.length).getD s 0
theorem clsOf_iff {d : DFA} (hv : Valid d) {s t : Nat} (hs : s < d.next.length) (ht : t < d.next.length) : clsOf d s = clsOf d t ↔ ∀ u, Wd d u → ¬ dst d s t u := cls_iff hv hs ht
theorem clsOf_fin {d : DFA} (hv : Valid d) {s t : Nat} (hs : s < d.next.length) (ht : t < d.next.length) (h : clsOf d s = clsOf d t) : finN d s = finN d t := by
  have := (clsOf_iff hv hs ht).1 h [] (fun x hx => by cases hx)
  exact Classical.not_not.1 this
theorem clsOf_next {d : DFA} (hv : Valid d) {s t x : Nat} (hs : s < d.next.length) (ht : t < d.next.length) (hx : x < letN d) (h : clsOf d s = clsOf d t) : clsOf d (toN d s x) = clsOf d (toN d t x) := by
  rw [clsOf_iff hv (toN_get hv hs hx) (toN_get hv ht hx)]
  intro u hu hd
  exact (clsOf_iff hv hs ht).1 h (x :: u) (fun y hy => by rcases List.mem_cons.1 hy with rfl | hy; exact hx; exact hu y hy) hd
theorem quoN_at {d : DFA} {cs : List Nat} (hl : cs.length = d.next.length) (hc : nrm cs = cs) : ∀ k, k ≤ d.next.length → ∀ c, c < (quoN d cs k).1.length → ∃ s, s < k ∧ cs.getD s 0 = c ∧ (quoN d cs k).1[c]? = some ((rowK cs (d.next.getD s [])).map fun c : Nat => (c : Int)) ∧ (quoN d cs k).2[c]? = some (finN d s)
  | 0, _, c, h => by simp [quoN] at h
  | k + 1, hk, c, h => by
    have ih := quoN_at hl hc k (by omega)
    have hlen := quoN_len d cs k
    by_cases hn : cs.getD k 0 < (quoN d cs k).1.length
    · rw [quoN, if_pos hn] at h ⊢
      obtain ⟨s, h1, h2⟩ := ih c h
      exact ⟨s, by omega, h2⟩
    · rw [quoN, if_neg hn] at h ⊢
      by_cases hcl : c < (quoN d cs k).1.length
      · obtain ⟨s, h1, h2, h3, h4⟩ := ih c hcl
        exact ⟨s, by omega, h2, by rw [List.getElem?_append_left hcl]; exact h3, by rw [List.getElem?_append_left (by omega)]; exact h4⟩
      · have hce : c = (quoN d cs k).1.length := by simp at h; omega
        refine ⟨k, by omega, ?_, ?_, ?_⟩
        · have h1 := quoN_cls (l := cs) hl hc.symm k (by omega)
          have h2 := quoN_cls (l := cs) hl hc.symm (k + 1) hk
          have hkl : k < cs.length := by omega
          have hg := List.getElem?_eq_getElem hkl
          have hck : cs.getD k 0 = ix cs[k] (dd cs) := by
            have := nrm_get hg
            rw [hc] at this
            rw [List.getD_eq_getElem?_getD, this]; rfl
          have hp2 : dd (cs.take (k + 1)) <+: dd cs := by
            conv => rhs; rw [← List.take_append_drop (k + 1) cs]
            rw [dd_append]; exact foldl_prefix _ _
          have hm : cs[k] ∈ dd (cs.take (k + 1)) := mem_dd.2 (by rw [List.take_succ_eq_append_getElem hkl]; exact List.mem_append_right _ (List.mem_singleton.2 rfl))
          have hlt := ix_lt hm
          rw [hck, ix_prefix hp2 hm]
          rw [hck, ix_prefix hp2 hm] at hn
          rw [quoN, if_neg (by rw [hck, ix_prefix hp2 hm]; exact hn)] at h2
          simp at h2
          omega
        · rw [hce, List.getElem?_append_right (Nat.le_refl _)]; simp
        · rw [hce, hlen.1, List.getElem?_append_right (Nat.le_refl _)]; simp [finN]
def quoD (d : DFA) : DFA := quo d (itF d d.next.length)
theorem quoD_valid {d : DFA} (hv : Valid d) : Valid (quoD d) := (quo_itF hv d.next.length).1
theorem cls_lt {d : DFA} (hv : Valid d) {s : Nat} (hs : s < d.next.length) : clsOf d s < (quoD d).next.length := by
  rw [quoD, quo_len (itF_length d _) (itF_can d _)]
  exact can_lt (itF_can d _) (itF_get hs)
theorem quoD_at {d : DFA} (hv : Valid d) {c : Nat} (hc : c < (quoD d).next.length) : ∃ s, s < d.next.length ∧ clsOf d s = c ∧ finN (quoD d) c = finN d s ∧ ∀ x, x < letN d → toN (quoD d) c x = clsOf d (toN d s x) := by
  obtain ⟨s, h1, h2, h3, h4⟩ := quoN_at (itF_length d d.next.length) (itF_can d _) d.next.length (Nat.le_refl _) c hc
  refine ⟨s, h1, h2, ?_, ?_⟩
  · show (quoN d (itF d d.next.length) d.next.length).2.getD c false = _
    rw [List.getD_eq_getElem?_getD, h4]; rfl
  · intro x hx
    have hrow : (quoD d).next.getD c [] = (rowK (itF d d.next.length) (d.next.getD s [])).map fun c : Nat => (c : Int) := by
      show (quoN d (itF d d.next.length) d.next.length).1.getD c [] = _
      rw [List.getD_eq_getElem?_getD, h3]; rfl
    have hls : (d.next.getD s []).length = letN d := by simp [h1]; exact hv.len _ (List.getElem_mem h1)
    have hx' : x < (d.next.getD s []).length := by omega
    have e1 : (d.next.getD s []).getD x 0 = (d.next.getD s [])[x] := by rw [List.getD_eq_getElem?_getD, List.getElem?_eq_getElem hx']; rfl
    rw [toN, hrow, List.getD_eq_getElem?_getD, List.getElem?_map, rowK, List.getElem?_map, List.getElem?_eq_getElem hx']
    show (((itF d d.next.length).getD (d.next.getD s [])[x].toNat 0 : Nat) : Int).toNat = clsOf d (toN d s x)
    rw [Int.toNat_natCast, clsOf, toN, e1]
theorem quoD_step {d : DFA} (hv : Valid d) {s x : Nat} (hs : s < d.next.length) (hx : x < letN d) : toN (quoD d) (clsOf d s) x = clsOf d (toN d s x) := by
  obtain ⟨s', h1, h2, _, h4⟩ := quoD_at hv (cls_lt hv hs)
  rw [h4 x hx]
  exact clsOf_next hv h1 hs hx h2
theorem quoD_fin {d : DFA} (hv : Valid d) {s : Nat} (hs : s < d.next.length) : finN (quoD d) (clsOf d s) = finN d s := by
  obtain ⟨s', h1, h2, h3, _⟩ := quoD_at hv (cls_lt hv hs)
  rw [h3]; exact clsOf_fin hv h1 hs h2
theorem quoD_run {d : DFA} (hv : Valid d) {s : Nat} (hs : s < d.next.length) : ∀ w, Wd d w → runN (quoD d) (clsOf d s) w = clsOf d (runN d s w) := by
  refine snocInd (fun _ => rfl) ?_
  intro w x ih hw
  have hw' : Wd d w := fun y hy => hw y (by simp [hy])
  rw [runN_snoc, runN_snoc, ih hw', quoD_step hv (runN_lt hv hs w hw') (hw x (by simp))]
theorem quoD_start (d : DFA) : (quoD d).start.toNat = clsOf d d.start.toNat := by
  show (((itF d d.next.length).getD d.start.toNat 0 : Nat) : Int).toNat = _
  rw [Int.toNat_natCast]; rfl
theorem order_start {d : DFA} (hv : Valid d) : ∃ r, order d = d.start.toNat :: r := by
  have hp := bfsN_prefix d 0 d.next.length (Nat.zero_le _)
  obtain ⟨r, hr⟩ := hp
  exact ⟨r, hr.symm⟩
theorem renum_valid {d : DFA} (hv : Valid d) : Valid (renum d) := by
  obtain ⟨r, hr⟩ := order_start hv
  have hl := order_len hv
  have hpos : 0 < (order d).length := by rw [hr]; simp
  refine ⟨hv.v0, hv.v6, ?_, ?_, ?_, Int.le_refl _, ?_, ?_, ?_⟩
  · simpa [renum] using hpos
  · have := hv.n4; simp only [renum, List.length_map]; omega
  · simp [renum]
  · show (0 : Int) < ((renum d).next.length : Nat)
    simp only [renum, List.length_map]; omega
  · intro r hr
    obtain ⟨o, ho, rfl⟩ := List.mem_map.1 hr
    rw [List.length_map, sucs_length]; rfl
  · intro r hr x hx
    obtain ⟨o, ho, rfl⟩ := List.mem_map.1 hr
    obtain ⟨t, ht, rfl⟩ := List.mem_map.1 hx
    refine ⟨Int.natCast_nonneg _, ?_⟩
    have := ix_lt (order_closed hv o ho t ht)
    simp only [renum, List.length_map]; omega
theorem renum_step {d : DFA} (hv : Valid d) {s x : Nat} (hs : s ∈ order d) (hx : x < letN d) : toN (renum d) (ix s (order d)) x = ix (toN d s x) (order d) := by
  have hg := ix_get hs
  have hrow : (renum d).next.getD (ix s (order d)) [] = (sucs d s).map fun t => ((ix t (order d) : Nat) : Int) := by
    show ((order d).map fun o => (sucs d o).map fun t => ((ix t (order d) : Nat) : Int)).getD _ [] = _
    rw [List.getD_eq_getElem?_getD, List.getElem?_map, hg]; rfl
  rw [toN, hrow, List.getD_eq_getElem?_getD, List.getElem?_map, sucs_get hx]
  show ((ix (toN d s x) (order d) : Nat) : Int).toNat = _
  rw [Int.toNat_natCast]
theorem renum_fin {d : DFA} {s : Nat} (hs : s ∈ order d) : finN (renum d) (ix s (order d)) = finN d s := by
  show ((order d).map fun o => d.final.getD o false).getD _ false = _
  rw [List.getD_eq_getElem?_getD, List.getElem?_map, ix_get hs]; rfl
theorem order_run {d : DFA} (hv : Valid d) {s : Nat} (hs : s ∈ order d) : ∀ w, Wd d w → runN d s w ∈ order d := by
  refine snocInd (fun _ => hs) ?_
  intro w x ih hw
  rw [runN_snoc]
  exact order_closed hv _ (ih fun y hy => hw y (by simp [hy])) _ (List.mem_of_getElem? (sucs_get (hw x (by simp))))
theorem renum_run {d : DFA} (hv : Valid d) {s : Nat} (hs : s ∈ order d) : ∀ w, Wd d w → runN (renum d) (ix s (order d)) w = ix (runN d s w) (order d) := by
  refine snocInd (fun _ => rfl) ?_
  intro w x ih hw
  have hw' : Wd d w := fun y hy => hw y (by simp [hy])
  rw [runN_snoc, runN_snoc, ih hw', renum_step hv (order_run hv hs w hw') (hw x (by simp))]
theorem start_mem {d : DFA} (hv : Valid d) : d.start.toNat ∈ order d := by
  obtain ⟨r, hr⟩ := order_start hv
  rw [hr]; simp
theorem start_ix {d : DFA} (hv : Valid d) : ix d.start.toNat (order d) = 0 := by
  obtain ⟨r, hr⟩ := order_start hv
  rw [hr]; simp [ix]
def acc (d : DFA) (w : List Nat) : Bool := finN d (runN d d.start.toNat w)
theorem start_lt {d : DFA} (hv : Valid d) : d.start.toNat < d.next.length := by have := hv.s0; have := hv.s1; omega
theorem renum_acc {d : DFA} (hv : Valid d) {w : List Nat} (hw : Wd d w) : acc (renum d) w = acc d w := by
  have h := renum_run hv (start_mem hv) w hw
  rw [start_ix hv] at h
  show finN (renum d) (runN (renum d) 0 w) = _
  rw [h, renum_fin (order_run hv (start_mem hv) w hw)]; rfl
theorem quoD_acc {d : DFA} (hv : Valid d) {w : List Nat} (hw : Wd d w) : acc (quoD d) w = acc d w := by
  unfold acc
  rw [quoD_start, quoD_run hv (start_lt hv) w hw, quoD_fin hv (runN_lt hv (start_lt hv) w hw)]
theorem minD_valid {d : DFA} (hv : Valid d) : Valid (minD d) := renum_valid (quoD_valid hv)
theorem minD_acc {d : DFA} (hv : Valid d) {w : List Nat} (hw : Wd d w) : acc (minD d) w = acc d w :=
  (renum_acc (quoD_valid hv) hw).trans (quoD_acc hv hw)
inductive All2 (ρ : Nat → Nat → Prop) : List Nat → List Nat → Prop
  | nil : All2 ρ [] []
  | cons {a b l m} : ρ a b → All2 ρ l m → All2 ρ (a :: l) (b :: m)
theorem All2.append {ρ : Nat → Nat → Prop} {l m l' m' : List Nat} (h : All2 ρ l m) (h' : All2 ρ l' m') : All2 ρ (l ++ l') (m ++ m') := by
  induction h with
  | nil => exact h'
  | cons h1 _ ih => exact .cons h1 ih
theorem All2.len {ρ : Nat → Nat → Prop} {l m : List Nat} (h : All2 ρ l m) : l.length = m.length := by
  induction h with
  | nil => rfl
  | cons _ _ ih => simp [ih]
theorem All2.get {ρ : Nat → Nat → Prop} {l m : List Nat} (h : All2 ρ l m) : ∀ {i a b : Nat}, l[i]? = some a → m[i]? = some b → ρ a b := by
  induction h with
  | nil => intro i a b h; simp at h
  | cons h1 _ ih =>
    intro i a b ha hb
    cases i with
    | zero => simp at ha hb; subst ha; subst hb; exact h1
    | succ i => exact ih (by simpa using ha) (by simpa using hb)
section
variable {ρ : Nat → Nat → Prop}
def OneOne (ρ : Nat → Nat → Prop) : Prop := ∀ a b a' b', ρ a b → ρ a' b' → (a = a' ↔ b = b')
theorem All2.mem (ho : OneOne ρ) {l m : List Nat} (h : All2 ρ l m) {a b : Nat} (hab : ρ a b) : a ∈ l ↔ b ∈ m := by
  induction h with
  | nil => simp
  | cons h1 _ ih => rw [List.mem_cons, List.mem_cons, ih, ho _ _ _ _ hab h1]
theorem All2.ix (ho : OneOne ρ) {l m : List Nat} (h : All2 ρ l m) {a b : Nat} (hab : ρ a b) : Lx.ix a l = Lx.ix b m := by
  induction h with
  | nil => rfl
  | @cons x y l m h1 _ ih =>
    simp only [Lx.ix, ih]
    by_cases e : a = x
    · rw [if_pos e, if_pos ((ho _ _ _ _ hab h1).1 e)]
    · rw [if_neg e, if_neg (fun h => e ((ho _ _ _ _ hab h1).2 h))]
theorem All2.add (ho : OneOne ρ) {l m : List Nat} (h : All2 ρ l m) {a b : Nat} (hab : ρ a b) : All2 ρ (Lx.add l a) (Lx.add m b) := by
  unfold Lx.add
  by_cases e : a ∈ l
  · rw [if_pos e, if_pos ((h.mem ho hab).1 e)]; exact h
  · rw [if_neg e, if_neg (fun h9 => e ((h.mem ho hab).2 h9))]; exact h.append (.cons hab .nil)
theorem All2.foldl (ho : OneOne ρ) {xs ys : List Nat} (hx : All2 ρ xs ys) : ∀ {l m : List Nat}, All2 ρ l m → All2 ρ (xs.foldl Lx.add l) (ys.foldl Lx.add m) := by
  induction hx with
  | nil => intro l m h; exact h
  | cons h1 _ ih => intro l m h; exact ih (h.add ho h1)
theorem All2.map {f g : Nat → Nat} : ∀ (l : List Nat), (∀ x ∈ l, ρ (f x) (g x)) → All2 ρ (l.map f) (l.map g)
  | [], _ => .nil
  | x :: l, h => .cons (h x (by simp)) (All2.map l fun y hy => h y (by simp [hy]))
structure Bisim (ρ : Nat → Nat → Prop) (p q : DFA) : Prop where
  vars : p.vars = q.vars
  one : OneOne ρ
  start : ρ p.start.toNat q.start.toNat
  step : ∀ a b x, ρ a b → x < letN p → ρ (toN p a x) (toN q b x)
  fin : ∀ a b, ρ a b → finN p a = finN q b
theorem Bisim.sucs {p q : DFA} (h : Bisim ρ p q) {a b : Nat} (hab : ρ a b) : All2 ρ (sucs p a) (sucs q b) := by
  unfold Lx.sucs
  rw [← h.vars]
  exact All2.map _ fun x hx => h.step a b x hab (List.mem_range.1 hx)
theorem Bisim.bfs {p q : DFA} (h : Bisim ρ p q) : ∀ i, All2 ρ (bfsN p i) (bfsN q i)
  | 0 => .cons h.start .nil
  | i + 1 => by
    have ih := h.bfs i
    have hl := ih.len
    rw [bfsN, bfsN, ← hl]
    by_cases hi : i < (bfsN p i).length
    · rw [if_pos hi, if_pos hi]
      have hi2 : i < (bfsN q i).length := by omega
      have g1 := List.getElem?_eq_getElem hi
      have g2 := List.getElem?_eq_getElem hi2
      have e1 : (bfsN p i).getD i 0 = (bfsN p i)[i] := by rw [List.getD_eq_getElem?_getD, g1]; rfl
      have e2 : (bfsN q i).getD i 0 = (bfsN q i)[i] := by rw [List.getD_eq_getElem?_getD, g2]; rfl
      rw [e1, e2]
      exact (h.sucs (ih.get g1 g2)).foldl h.one ih
    · rw [if_neg hi, if_neg hi]; exact ih
theorem Bisim.order {p q : DFA} (h : Bisim ρ p q) (hp : Valid p) (hq : Valid q) : All2 ρ (order p) (order q) := by
  obtain ⟨N, h1, h2, _⟩ := order_stop hp
  have e1 := order_eq h2 h1
  have hb := h.bfs N
  have h2q : (bfsN q N).length = N := by rw [← hb.len]; exact h2
  have hNq : N ≤ q.next.length := by rw [← h2q]; exact bfsN_len hq N
  rw [e1, order_eq h2q hNq]
  exact hb
theorem Bisim.renum {p q : DFA} (h : Bisim ρ p q) (hp : Valid p) (hq : Valid q) : renum p = renum q := by
  have ho := h.order hp hq
  have rows : ∀ {l m : List Nat}, All2 ρ l m → (l.map fun o => (Lx.sucs p o).map fun t => ((Lx.ix t (Lx.order p) : Nat) : Int)) = m.map fun o => (Lx.sucs q o).map fun t => ((Lx.ix t (Lx.order q) : Nat) : Int) := by
    intro l m hlm
    induction hlm with
    | nil => rfl
    | cons h1 _ ih =>
      rw [List.map_cons, List.map_cons, ih]
      congr 1
      have hs := h.sucs h1
      have each : ∀ {x y : List Nat}, All2 ρ x y → (x.map fun t => ((Lx.ix t (Lx.order p) : Nat) : Int)) = y.map fun t => ((Lx.ix t (Lx.order q) : Nat) : Int) := by
        intro x y hxy
        induction hxy with
        | nil => rfl
        | cons h2 _ ih2 => rw [List.map_cons, List.map_cons, ih2, ho.ix h.one h2]
      exact each hs
  have fins : ∀ {l m : List Nat}, All2 ρ l m → (l.map fun o => p.final.getD o false) = m.map fun o => q.final.getD o false := by
    intro l m hlm
    induction hlm with
    | nil => rfl
    | cons h1 _ ih => rw [List.map_cons, List.map_cons, ih]; congr 1; exact h.fin _ _ h1
  unfold Lx.renum
  rw [rows ho, fins ho, h.vars]
end
theorem minD_unique {a b : DFA} (ha : Valid a) (hb : Valid b) (hvars : a.vars = b.vars) (h : ∀ w, Wd a w → acc a w = acc b w) : minD a = minD b := by
  have hwd : ∀ w, Wd a w ↔ Wd b w := fun w => by unfold Wd letN; rw [hvars]
  refine Bisim.renum (ρ := fun c1 c2 => ∃ s t, s < a.next.length ∧ t < b.next.length ∧ clsOf a s = c1 ∧ clsOf b t = c2 ∧ ∀ w, Wd a w → finN a (runN a s w) = finN b (runN b t w)) ⟨hvars, ?_, ?_, ?_, ?_⟩ (quoD_valid ha) (quoD_valid hb)
  · rintro c1 c2 c1' c2' ⟨s, t, hs, ht, rfl, rfl, hw⟩ ⟨s', t', hs', ht', rfl, rfl, hw'⟩
    rw [clsOf_iff ha hs hs', clsOf_iff hb ht ht']
    constructor
    · intro h1 u hu hd
      have hu' := (hwd u).2 hu
      refine h1 u hu' ?_
      unfold dst at *
      rw [hw u hu', hw' u hu']; exact hd
    · intro h1 u hu hd
      refine h1 u ((hwd u).1 hu) ?_
      unfold dst at *
      rw [← hw u hu, ← hw' u hu]; exact hd
  · exact ⟨a.start.toNat, b.start.toNat, start_lt ha, start_lt hb, (quoD_start a).symm, (quoD_start b).symm, h⟩
  · rintro c1 c2 x ⟨s, t, hs, ht, rfl, rfl, hw⟩ hx
    have hxa : x < letN a := hx
    have hxb : x < letN b := by unfold letN at *; rw [← hvars]; exact hxa
    refine ⟨toN a s x, toN b t x, toN_get ha hs hxa, toN_get hb ht hxb, (quoD_step ha hs hxa).symm, (quoD_step hb ht hxb).symm, fun w hww => ?_⟩
    exact hw (x :: w) (fun y hy => by rcases List.mem_cons.1 hy with rfl | hy; exact hxa; exact hww y hy)
  · rintro c1 c2 ⟨s, t, hs, ht, rfl, rfl, hw⟩
    show finN (quoD a) _ = finN (quoD b) _
    rw [quoD_fin ha hs, quoD_fin hb ht]
    exact hw [] (fun x hx => by cases hx)
end Go.Lx


namespace Go.Lx
set_option linter.unusedVariables false
end Go.Lx


namespace Go.Lx
set_option linter.unusedVariables false
def runE (d : DFA) (w : List Nat) : Nat := if checkD d ≠ 0 then checkD d else if 64 < w.length then 4 else if w.any (fun x => decide (2 ^ d.vars.toNat ≤ x)) = true then 1 else 0
def runV (d : DFA) (w : List Nat) : Nat := if runE d w = 0 then runN d d.start.toNat w else 0
def accV (d : DFA) (w : List Nat) : Bool := if runE d w = 0 then finN d (runN d d.start.toNat w) else false
theorem runE_zero {d : DFA} {w : List Nat} : runE d w = 0 ↔ Valid d ∧ w.length ≤ 64 ∧ Wd d w := by
  unfold runE
  by_cases h : checkD d = 0
  · rw [if_neg (by simp [h])]
    by_cases h2 : 64 < w.length
    · rw [if_pos h2]; exact ⟨fun h => absurd h (by decide), fun h => by omega⟩
    · rw [if_neg h2]
      by_cases h3 : w.any (fun x => decide (2 ^ d.vars.toNat ≤ x)) = true
      · rw [if_pos h3]
        refine ⟨fun h => absurd h (by decide), fun h => ?_⟩
        obtain ⟨x, hx, hx2⟩ := List.any_eq_true.1 h3
        have := h.2.2 x hx
        simp at hx2
        unfold letN at this
        omega
      · rw [if_neg h3]
        refine ⟨fun _ => ⟨checkD_zero.1 h, by omega, fun x hx => ?_⟩, fun _ => rfl⟩
        rcases Nat.lt_or_ge x (letN d) with h4 | h4
        · exact h4
        · exact absurd (List.any_eq_true.2 ⟨x, hx, decide_eq_true h4⟩) h3
  · rw [if_pos h]; exact ⟨fun e => absurd e h, fun hh => absurd (checkD_zero.2 hh.1) h⟩
theorem runN_take {d : DFA} {s : Nat} {w : List Nat} {k : Nat} (hk : k < w.length) : runN d s (w.take (k + 1)) = toN d (runN d s (w.take k)) w[k] := by
  rw [List.take_succ_eq_append_getElem hk, runN_snoc]
end Go.Lx


namespace Go.Lx
set_option linter.unusedVariables false
theorem bfsN_reach {d : DFA} (hv : Valid d) : ∀ i, ∀ o ∈ bfsN d i, ∃ w, Wd d w ∧ runN d d.start.toNat w = o
  | 0, o, h => by
    simp only [bfsN, List.mem_singleton] at h
    subst h
    exact ⟨[], fun x hx => (List.not_mem_nil hx).elim, rfl⟩
  | i + 1, o, h => by
    rw [bfsN] at h
    split at h
    · rename_i hi
      rcases (mem_foldl_add _ _).1 h with h | h
      · exact bfsN_reach hv i o h
      · obtain ⟨x, hx, rfl⟩ := List.mem_map.1 h
        have hm : (bfsN d i).getD i 0 ∈ bfsN d i := by
          rw [List.getD_eq_getElem?_getD, List.getElem?_eq_getElem hi]; exact List.getElem_mem hi
        obtain ⟨w, hw, he⟩ := bfsN_reach hv i _ hm
        refine ⟨w ++ [x], fun y hy => ?_, by rw [runN_snoc, he]⟩
        rcases List.mem_append.1 hy with hy | hy
        · exact hw y hy
        · rw [List.mem_singleton.1 hy]; exact List.mem_range.1 hx
    · exact bfsN_reach hv i o h
theorem map_nodup {f : Nat → Nat} : ∀ {l : List Nat}, l.Nodup → (∀ a ∈ l, ∀ b ∈ l, f a = f b → a = b) → (l.map f).Nodup
  | [], _, _ => List.nodup_nil
  | a :: l, hn, hi => by
    obtain ⟨h1, h2⟩ := List.nodup_cons.1 hn
    rw [List.map_cons, List.nodup_cons]
    refine ⟨fun hm => ?_, map_nodup h2 fun x hx y hy => hi x (by simp [hx]) y (by simp [hy])⟩
    obtain ⟨y, hy, e⟩ := List.mem_map.1 hm
    have := hi a (by simp) y (by simp [hy]) e.symm
    exact h1 (this ▸ hy)
theorem minD_renum {d : DFA} (hv : Valid d) : minD (renum d) = minD d := minD_unique (renum_valid hv) hv rfl fun w hw => renum_acc hv hw
theorem minD_min {d : DFA} (hv : Valid d) : minD (minD d) = minD d := minD_unique (minD_valid hv) hv rfl fun w hw => minD_acc hv hw
theorem minV_valid {d : DFA} (hv : Valid d) : minV d = minD d := by unfold minV; rw [if_pos (checkD_zero.2 hv)]
end Go.Lx


namespace Go.Lx
open Go.RowKit
set_option linter.unusedVariables false
def prRow (a b : DFA) (s t : Nat) : List Int := (List.range (letN a)).map fun x => ((toN a s x * b.next.length + toN b t x : Nat) : Int)
def prNext (a b : DFA) : List (List Int) := (List.range (a.next.length * b.next.length)).map fun c => prRow a b (c / b.next.length) (c % b.next.length)
def prFin (f : Bool → Bool → Bool) (a b : DFA) : List Bool := (List.range (a.next.length * b.next.length)).map fun c => f (finN a (c / b.next.length)) (finN b (c % b.next.length))
def prodD (f : Bool → Bool → Bool) (a b : DFA) : DFA := ⟨a.vars, ((a.start.toNat * b.next.length + b.start.toNat : Nat) : Int), prNext a b, prFin f a b⟩
theorem pr_div {n s t : Nat} (ht : t < n) : (s * n + t) / n = s ∧ (s * n + t) % n = t := by
  rw [Nat.mul_comm]
  exact ⟨by rw [Nat.mul_add_div (by omega), Nat.div_eq_of_lt ht, Nat.add_zero], by rw [Nat.mul_add_mod, Nat.mod_eq_of_lt ht]⟩
theorem pr_lt {n k s t : Nat} (hs : s < k) (ht : t < n) : s * n + t < k * n := by
  have := Nat.mul_le_mul_right n (show s + 1 ≤ k by omega); rw [Nat.succ_mul] at this; omega
theorem pr_split {n k c : Nat} (h : c < k * n) : c / n < k ∧ c % n < n := by
  have hn : 0 < n := by
    rcases Nat.eq_zero_or_pos n with h0 | h0
    · rw [h0, Nat.mul_zero] at h; exact absurd h (Nat.not_lt_zero _)
    · exact h0
  exact ⟨(Nat.div_lt_iff_lt_mul hn).2 h, Nat.mod_lt _ hn⟩
theorem prod_len (f : Bool → Bool → Bool) (a b : DFA) : (prodD f a b).next.length = a.next.length * b.next.length := by
  show (prNext a b).length = _; unfold prNext; simp
theorem prod_valid {f : Bool → Bool → Bool} {a b : DFA} (ha : Valid a) (hb : Valid b) (hv : a.vars = b.vars) (hn : a.next.length * b.next.length ≤ 4096) : Valid (prodD f a b) := by
  have a0 := start_lt ha; have b0 := start_lt hb
  have hlt := pr_lt a0 b0
  refine { v0 := ha.v0, v6 := ha.v6, n0 := ?_, n4 := ?_, fin := ?_, s0 := ?_, s1 := ?_, len := ?_, ok := ?_ }
  · rw [prod_len]; omega
  · rw [prod_len]; exact hn
  · rw [prod_len]; show (prFin f a b).length = _; unfold prFin; simp
  · show (0 : Int) ≤ ((_ : Nat) : Int); omega
  · rw [prod_len]; show ((_ : Nat) : Int) < ((_ : Nat) : Int); omega
  · intro r hr
    obtain ⟨c, _, rfl⟩ := List.mem_map.1 (show r ∈ prNext a b from hr)
    unfold prRow; simp; rfl
  · intro r hr x hx
    obtain ⟨c, hc, rfl⟩ := List.mem_map.1 (show r ∈ prNext a b from hr)
    obtain ⟨y, hy, rfl⟩ := List.mem_map.1 (show x ∈ prRow a b _ _ from hx)
    rw [List.mem_range] at hc hy
    obtain ⟨h1, h2⟩ := pr_split hc
    have h3 := (ha.toN_lt h1 hy).1
    have h4 := (hb.toN_lt h2 (by rw [← hv]; exact hy)).1
    have := pr_lt h3 h4
    rw [prod_len]; omega
theorem prod_fin {f : Bool → Bool → Bool} {a b : DFA} {s t : Nat} (hs : s < a.next.length) (ht : t < b.next.length) : finN (prodD f a b) (s * b.next.length + t) = f (finN a s) (finN b t) := by
  have hd := pr_div (s := s) ht
  have hc := pr_lt hs ht
  show (prFin f a b).getD _ false = _
  unfold prFin
  rw [List.getD_eq_getElem?_getD, List.getElem?_map, List.getElem?_range hc]
  simp only [Option.map_some, Option.getD_some, hd.1, hd.2]
theorem prod_step {f : Bool → Bool → Bool} {a b : DFA} {s t x : Nat} (hs : s < a.next.length) (ht : t < b.next.length) (hx : x < letN a) : toN (prodD f a b) (s * b.next.length + t) x = toN a s x * b.next.length + toN b t x := by
  have hd := pr_div (s := s) ht
  have hc := pr_lt hs ht
  show (((prNext a b).getD _ []).getD x 0).toNat = _
  unfold prNext
  rw [List.getD_eq_getElem?_getD (l := List.map _ _), List.getElem?_map, List.getElem?_range hc]
  simp only [Option.map_some, Option.getD_some, hd.1, hd.2]
  unfold prRow
  rw [List.getD_eq_getElem?_getD, List.getElem?_map, List.getElem?_range hx]
  exact Int.toNat_natCast _
theorem prod_run {f : Bool → Bool → Bool} {a b : DFA} (ha : Valid a) (hb : Valid b) (hv : a.vars = b.vars) {s t : Nat} (hs : s < a.next.length) (ht : t < b.next.length) : ∀ w, Wd a w → runN (prodD f a b) (s * b.next.length + t) w = runN a s w * b.next.length + runN b t w := by
  refine snocInd (fun _ => rfl) ?_
  intro w x ih hw
  have hw1 : Wd a w := fun y hy => hw y (by simp [hy])
  have hw2 : Wd b w := fun y hy => by have := hw1 y hy; unfold letN at this ⊢; rw [← hv]; exact this
  rw [runN_snoc, runN_snoc, runN_snoc, ih hw1, prod_step (runN_lt ha hs w hw1) (runN_lt hb ht w hw2) (hw x (by simp))]
theorem prod_acc {f : Bool → Bool → Bool} {a b : DFA} (ha : Valid a) (hb : Valid b) (hv : a.vars = b.vars) {w : List Nat} (hw : Wd a w) : acc (prodD f a b) w = f (acc a w) (acc b w) := by
  have a0 := start_lt ha; have b0 := start_lt hb
  have hw2 : Wd b w := fun y hy => by have := hw y hy; unfold letN at this ⊢; rw [← hv]; exact this
  unfold acc
  rw [show (prodD f a b).start.toNat = a.start.toNat * b.next.length + b.start.toNat from Int.toNat_natCast _, prod_run ha hb hv a0 b0 w hw, prod_fin (runN_lt ha a0 w hw) (runN_lt hb b0 w hw2)]
def opD (f : Bool → Bool → Bool) (a b : DFA) : DFA := minD (prodD f a b)
theorem opD_valid {f : Bool → Bool → Bool} {a b : DFA} (ha : Valid a) (hb : Valid b) (hv : a.vars = b.vars) (hn : a.next.length * b.next.length ≤ 4096) : Valid (opD f a b) := minD_valid (prod_valid ha hb hv hn)
theorem opD_acc {f : Bool → Bool → Bool} {a b : DFA} (ha : Valid a) (hb : Valid b) (hv : a.vars = b.vars) (hn : a.next.length * b.next.length ≤ 4096) {w : List Nat} (hw : Wd a w) : acc (opD f a b) w = f (acc a w) (acc b w) := by
  unfold opD; rw [minD_acc (prod_valid ha hb hv hn) hw, prod_acc ha hb hv hw]
theorem opD_min {f : Bool → Bool → Bool} {a b : DFA} (ha : Valid a) (hb : Valid b) (hv : a.vars = b.vars) (hn : a.next.length * b.next.length ≤ 4096) : minD (opD f a b) = opD f a b := minD_min (prod_valid ha hb hv hn)
theorem opD_of {f : Bool → Bool → Bool} {a b d : DFA} (ha : Valid a) (hb : Valid b) (hv : a.vars = b.vars) (hn : a.next.length * b.next.length ≤ 4096) (hd : Valid d) (hdv : d.vars = a.vars) (h : ∀ w, Wd a w → acc d w = f (acc a w) (acc b w)) : minD d = opD f a b :=
  minD_unique hd (prod_valid ha hb hv hn) hdv fun w hw => by
    have hw' : Wd a w := fun y hy => by have := hw y hy; unfold letN at this ⊢; rw [← hdv]; exact this
    rw [h w hw', prod_acc ha hb hv hw']
theorem minD_len {d : DFA} (hv : Valid d) : (minD d).next.length ≤ d.next.length := by
  have h1 : (minD d).next.length ≤ (quoD d).next.length := by
    show (renum (quoD d)).next.length ≤ _
    unfold renum
    rw [List.length_map]; exact order_len (quoD_valid hv)
  have h2 := (quoN_len d (itF d d.next.length) d.next.length).2
  exact Nat.le_trans h1 h2
theorem opD_len {f : Bool → Bool → Bool} {a b : DFA} (ha : Valid a) (hb : Valid b) (hv : a.vars = b.vars) (hn : a.next.length * b.next.length ≤ 4096) : (opD f a b).next.length ≤ a.next.length * b.next.length := by
  rw [← prod_len f a b]; exact minD_len (prod_valid ha hb hv hn)
theorem min_ext {a b : DFA} (ha : Valid a) (hb : Valid b) (hma : minD a = a) (hmb : minD b = b) (hv : a.vars = b.vars) (h : ∀ w, Wd a w → acc a w = acc b w) : a = b := by
  rw [← hma, ← hmb]; exact minD_unique ha hb hv h
def flipD (d : DFA) : DFA := ⟨d.vars, d.start, d.next, d.final.map (!·)⟩
theorem flip_valid {d : DFA} (hv : Valid d) : Valid (flipD d) :=
  { v0 := hv.v0, v6 := hv.v6, n0 := hv.n0, n4 := hv.n4, fin := by show (d.final.map _).length = _; rw [List.length_map]; exact hv.fin, s0 := hv.s0, s1 := hv.s1, len := hv.len, ok := hv.ok }
theorem flip_fin {d : DFA} (hv : Valid d) {s : Nat} (hs : s < d.next.length) : finN (flipD d) s = !finN d s := by
  have hl : s < d.final.length := by rw [hv.fin]; exact hs
  show (d.final.map _).getD s false = _
  unfold finN
  rw [List.getD_eq_getElem?_getD, List.getD_eq_getElem?_getD, List.getElem?_map, List.getElem?_eq_getElem hl]
  rfl
theorem flip_acc {d : DFA} (hv : Valid d) {w : List Nat} (hw : Wd d w) : acc (flipD d) w = !acc d w := by
  unfold acc
  have hr : ∀ u s, runN (flipD d) s u = runN d s u := fun u s => rfl
  rw [hr]
  exact flip_fin hv (runN_lt hv (start_lt hv) w hw)
end Go.Lx


namespace Go.Lx
set_option linter.unusedVariables false
theorem dif_short {d : DFA} (hv : Valid d) {s t : Nat} (hs : s < d.next.length) (ht : t < d.next.length) (m : Nat) (h : dif d m s t = true) : dif d (d.next.length - 1) s t = true := by
  have hn := hv.n0
  have key : itF d (d.next.length - 1) = itF d d.next.length := by
    rcases itF_grow hv (d.next.length - 1) with ⟨j, hj, h⟩ | h
    · have hst : refineF d (itF d j) = itF d j := by rw [← itF]; exact h
      rw [itF_stable hst _ (show j ≤ d.next.length - 1 by omega), itF_stable hst _ (show j ≤ d.next.length by omega)]
    · obtain ⟨h1, h2⟩ := clsN_step hv (d.next.length - 1)
      have h3 := clsN_le d (d.next.length - 1 + 1)
      have h4 := h2 (by omega)
      rw [show d.next.length - 1 + 1 = d.next.length by omega] at h4
      exact h4.symm
  rcases Bool.eq_false_or_eq_true (dif d (d.next.length - 1) s t) with hh | hh
  · exact hh
  · rw [← itF_iff hv _ s t hs ht, key] at hh
    have h5 : dif d (max m d.next.length) s t = true := dif_mono (by omega) h
    have h6 := (itF_iff hv (max m d.next.length) s t hs ht).1 (by rw [itF_stab hv _ (by omega)]; exact hh)
    rw [h6] at h5; cases h5
theorem Tell.lt {d : DFA} (hv : Valid d) {s t : Nat} (hs : s < d.next.length) (ht : t < d.next.length) {u : List Nat} (h : Tell d s t (some u)) : u.length < d.next.length := by
  have h : IsLeast d s t u := h
  have hd := dif_short hv hs ht u.length ((dif_iff d _ s t).2 ⟨u, h.wd, Nat.le_refl _, h.dst⟩)
  obtain ⟨w, h1, h2, h3⟩ := (dif_iff d _ s t).1 hd
  have := code_len u w (hv.wd64 h.wd) (hv.wd64 h1) (h.le w h1 h3)
  have := hv.n0
  omega
end Go.Lx


namespace Go.Lx
set_option linter.unusedVariables false
def both (a b : DFA) : DFA := ⟨a.vars, a.start, a.next ++ b.next.map fun r => r.map fun x => (a.next.length : Int) + x, a.final ++ b.final⟩
theorem both_len (a b : DFA) : (both a b).next.length = a.next.length + b.next.length := by simp [both]
theorem both_valid {a b : DFA} (ha : Valid a) (hb : Valid b) (hv : a.vars = b.vars) (hn : a.next.length + b.next.length ≤ 4096) : Valid (both a b) := by
  refine ⟨ha.v0, ha.v6, ?_, ?_, ?_, ha.s0, ?_, ?_, ?_⟩
  · rw [both_len]; have := ha.n0; omega
  · rw [both_len]; exact hn
  · rw [both_len]; show (a.final ++ b.final).length = _; rw [List.length_append, ha.fin, hb.fin]
  · rw [both_len]; show a.start < _; have := ha.s1; omega
  · intro r hr
    rcases List.mem_append.1 hr with hr | hr
    · exact ha.len r hr
    · obtain ⟨r', hr', rfl⟩ := List.mem_map.1 hr
      rw [List.length_map, hb.len r' hr']
      show 2 ^ b.vars.toNat = 2 ^ a.vars.toNat
      rw [hv]
  · intro r hr x hx
    rw [both_len]
    rcases List.mem_append.1 hr with hr | hr
    · have := ha.ok r hr x hx; omega
    · obtain ⟨r', hr', rfl⟩ := List.mem_map.1 hr
      obtain ⟨y, hy, rfl⟩ := List.mem_map.1 hx
      have := hb.ok r' hr' y hy
      omega
theorem both_left {a b : DFA} (ha : Valid a) {s : Nat} (hs : s < a.next.length) : finN (both a b) s = finN a s ∧ ∀ x, x < letN a → toN (both a b) s x = toN a s x := by
  have hf : s < a.final.length := by rw [ha.fin]; exact hs
  refine ⟨?_, fun x hx => ?_⟩
  · show (a.final ++ b.final).getD s false = _
    rw [List.getD_eq_getElem?_getD, List.getElem?_append_left hf, finN, List.getD_eq_getElem?_getD]
  · have e : (both a b).next.getD s [] = a.next.getD s [] := by
      show (a.next ++ _).getD s [] = _
      simp [List.getD_eq_getElem?_getD, List.getElem?_append_left hs]
    unfold toN
    rw [e]
theorem both_right {a b : DFA} (ha : Valid a) (hb : Valid b) (hv : a.vars = b.vars) {t : Nat} (ht : t < b.next.length) : finN (both a b) (a.next.length + t) = finN b t ∧ ∀ x, x < letN a → toN (both a b) (a.next.length + t) x = a.next.length + toN b t x := by
  refine ⟨?_, fun x hx => ?_⟩
  · show (a.final ++ b.final).getD _ false = _
    rw [List.getD_eq_getElem?_getD, List.getElem?_append_right (by rw [ha.fin]; omega), ha.fin, finN, List.getD_eq_getElem?_getD, Nat.add_sub_cancel_left]
  · have hxb : x < letN b := by unfold letN at *; rw [← hv]; exact hx
    have hl : b.next[t].length = letN b := hb.len _ (List.getElem_mem ht)
    have hx' : x < b.next[t].length := by omega
    have hok := hb.ok _ (List.getElem_mem ht) _ (List.getElem_mem hx')
    have e : (both a b).next.getD (a.next.length + t) [] = b.next[t].map fun x => (a.next.length : Int) + x := by
      show (a.next ++ _).getD _ [] = _
      rw [List.getD_eq_getElem?_getD, List.getElem?_append_right (by omega), Nat.add_sub_cancel_left]
      simp [ht]
    unfold toN
    rw [e]
    simp [ht, hx', List.getD_eq_getElem?_getD]
    omega
theorem both_runL {a b : DFA} (ha : Valid a) {s : Nat} (hs : s < a.next.length) : ∀ w, Wd a w → runN (both a b) s w = runN a s w := by
  refine snocInd (fun _ => rfl) ?_
  intro w x ih hw
  have hw' : Wd a w := fun y hy => hw y (by simp [hy])
  rw [runN_snoc, runN_snoc, ih hw', (both_left ha (runN_lt ha hs w hw')).2 x (hw x (by simp))]
theorem both_runR {a b : DFA} (ha : Valid a) (hb : Valid b) (hv : a.vars = b.vars) {t : Nat} (ht : t < b.next.length) : ∀ w, Wd a w → runN (both a b) (a.next.length + t) w = a.next.length + runN b t w := by
  refine snocInd (fun _ => rfl) ?_
  intro w x ih hw
  have hw' : Wd a w := fun y hy => hw y (by simp [hy])
  have hwb : Wd b w := fun y hy => by have := hw' y hy; unfold letN at *; rw [← hv]; exact this
  rw [runN_snoc, runN_snoc, ih hw', (both_right ha hb hv (runN_lt hb ht w hwb)).2 x (hw x (by simp))]
theorem both_dst {a b : DFA} (ha : Valid a) (hb : Valid b) (hv : a.vars = b.vars) {w : List Nat} (hw : Wd a w) : dst (both a b) a.start.toNat (a.next.length + b.start.toNat) w ↔ acc a w ≠ acc b w := by
  have hwb : Wd b w := fun y hy => by have := hw y hy; unfold letN at *; rw [← hv]; exact this
  unfold dst acc
  rw [both_runL ha (start_lt ha) w hw, both_runR ha hb hv (start_lt hb) w hw, (both_left ha (runN_lt ha (start_lt ha) w hw)).1, (both_right ha hb hv (runN_lt hb (start_lt hb) w hwb)).1]
theorem accV_zero {d : DFA} {w : List Nat} (h : runE d w = 0) : accV d w = acc d w := by unfold accV acc; rw [if_pos h]
end Go.Lx


namespace Go.Lx
open Go.RowKit
set_option linter.unusedVariables false
def stayD (v : Int) (f : Bool) : DFA := ⟨v, 0, [List.replicate (2 ^ v.toNat) 0], [f]⟩
theorem stay_valid {v : Int} (h0 : 0 ≤ v) (h6 : v ≤ 6) (f : Bool) : Valid (stayD v f) := by
  refine { v0 := h0, v6 := h6, n0 := ?_, n4 := ?_, fin := rfl, s0 := Int.le_refl _, s1 := ?_, len := ?_, ok := ?_ }
  · show 0 < [_].length; simp
  · show [_].length ≤ 4096; simp
  · show (0 : Int) < (([_].length : Nat) : Int); simp
  · intro r hr
    rw [List.mem_singleton.1 (show r ∈ [List.replicate (2 ^ v.toNat) (0 : Int)] from hr), List.length_replicate]; rfl
  · intro r hr x hx
    rw [List.mem_singleton.1 (show r ∈ [List.replicate (2 ^ v.toNat) (0 : Int)] from hr)] at hx
    rw [List.eq_of_mem_replicate hx]
    exact ⟨Int.le_refl _, by show (0 : Int) < (([_].length : Nat) : Int); simp⟩
theorem stay_acc {v : Int} (h0 : 0 ≤ v) (h6 : v ≤ 6) (f : Bool) {w : List Nat} (hw : Wd (stayD v f) w) : acc (stayD v f) w = f := by
  have hv := stay_valid h0 h6 f
  have h1 := runN_lt hv (start_lt hv) w hw
  have h2 : runN (stayD v f) (stayD v f).start.toNat w = 0 := Nat.lt_one_iff.1 h1
  unfold acc; rw [h2]; rfl
def LeastA (d : DFA) : Option (List Nat) → Prop
  | some w => Wd d w ∧ acc d w = true ∧ ∀ u, Wd d u → acc d u = true → code w ≤ code u
  | none => ∀ u, Wd d u → acc d u = false
theorem LeastA.unique {d : DFA} (hv : Valid d) {a b : Option (List Nat)} (ha : LeastA d a) (hb : LeastA d b) : a = b := by
  cases a with
  | none =>
    cases b with
    | none => rfl
    | some w => have := ha w hb.1; rw [hb.2.1] at this; cases this
  | some w =>
    cases b with
    | none => have := hb w ha.1; rw [ha.2.1] at this; cases this
    | some u =>
      have h1 := ha.2.2 u hb.1 hb.2.1
      have h2 := hb.2.2 w ha.1 ha.2.1
      rw [code_inj w u (hv.wd64 ha.1) (hv.wd64 hb.1) (Nat.le_antisymm h1 h2)]
theorem LeastA.congr {d e : DFA} (hv : d.vars = e.vars) (h : ∀ w, Wd d w → acc d w = acc e w) {r : Option (List Nat)} (hr : LeastA d r) : LeastA e r := by
  have hwd : ∀ w, Wd e w → Wd d w := fun w hw y hy => by have := hw y hy; unfold letN at *; rw [hv]; exact this
  have hwe : ∀ w, Wd d w → Wd e w := fun w hw y hy => by have := hw y hy; unfold letN at *; rw [← hv]; exact this
  cases r with
  | none => exact fun u hu => by rw [← h u (hwd u hu)]; exact hr u (hwd u hu)
  | some w => exact ⟨hwe w hr.1, by rw [← h w hr.1]; exact hr.2.1, fun u hu hau => hr.2.2 u (hwd u hu) (by rw [h u (hwd u hu)]; exact hau)⟩
theorem tell_least {m : DFA} (hm : Valid m) (hn : m.next.length + 1 ≤ 4096) {r : Option (List Nat)} (h : Tell (both m (stayD m.vars false)) m.start.toNat m.next.length r) : LeastA m r := by
  have hs := stay_valid hm.v0 hm.v6 false
  have hd : ∀ w, Wd m w → (dst (both m (stayD m.vars false)) m.start.toNat m.next.length w ↔ acc m w = true) := fun w hw => by
    have h1 := both_dst (a := m) (b := stayD m.vars false) hm hs rfl hw
    rw [show m.next.length + (stayD m.vars false).start.toNat = m.next.length from rfl] at h1
    rw [h1, stay_acc hm.v0 hm.v6 false (show Wd (stayD m.vars false) w from hw)]
    cases acc m w <;> simp
  cases r with
  | none =>
    have h : ∀ u, Wd m u → ¬ dst (both m (stayD m.vars false)) m.start.toNat m.next.length u := h
    exact fun u hu => by
      have := mt (hd u hu).2 (h u hu)
      simpa using this
  | some w =>
    have h : IsLeast (both m (stayD m.vars false)) m.start.toNat m.next.length w := h
    have hw : Wd m w := h.wd
    exact ⟨hw, (hd w hw).1 h.dst, fun u hu ha => h.le u hu ((hd u hu).2 ha)⟩
end Go.Lx


namespace Go.Lx
open Go.RowKit
set_option linter.unusedVariables false
def WdV (v : Int) (w : List Nat) : Prop := ∀ x ∈ w, x < 2 ^ v.toNat
structure HasL (v : Int) (n : Nat) (d : DFA) (p : List Nat → Bool) : Prop where
  valid : Valid d
  len : d.next.length ≤ n
  vars : d.vars = v
  acc : ∀ w, WdV v w → acc d w = p w
theorem HasL.of {d : DFA} {n : Nat} (h : Valid d) (hl : d.next.length ≤ n) : HasL d.vars n d (Lx.acc d) := ⟨h, hl, rfl, fun _ _ => rfl⟩
theorem HasL.wd {v : Int} {n : Nat} {d : DFA} {p : List Nat → Bool} (h : HasL v n d p) {w : List Nat} : Wd d w ↔ WdV v w := by unfold Wd WdV letN; rw [h.vars]
structure MinL (v : Int) (n : Nat) (d : DFA) (p : List Nat → Bool) : Prop extends HasL v n d p where
  min : minD d = d
theorem HasL.op {f : Bool → Bool → Bool} {v : Int} {n m : Nat} {a b : DFA} {p q : List Nat → Bool} (ha : HasL v n a p) (hb : HasL v m b q) (h : n * m ≤ 4096) : MinL v (n * m) (opD f a b) (fun w => f (p w) (q w)) := by
  have hl : a.next.length * b.next.length ≤ n * m := Nat.mul_le_mul ha.len hb.len
  have hv : a.vars = b.vars := by rw [ha.vars, hb.vars]
  refine ⟨⟨opD_valid ha.valid hb.valid hv (by omega), Nat.le_trans (opD_len ha.valid hb.valid hv (by omega)) hl, ha.vars, fun w hw => ?_⟩, opD_min ha.valid hb.valid hv (by omega)⟩
  rw [opD_acc ha.valid hb.valid hv (by omega) (ha.wd.2 hw), ha.acc w hw, hb.acc w hw]
theorem HasL.minim {v : Int} {n : Nat} {d : DFA} {p : List Nat → Bool} (h : HasL v n d p) : MinL v n (minD d) p :=
  ⟨⟨minD_valid h.valid, Nat.le_trans (minD_len h.valid) h.len, h.vars, fun w hw => by rw [minD_acc h.valid (h.wd.2 hw)]; exact h.acc w hw⟩, minD_min h.valid⟩
theorem MinL.ext {v : Int} {n m : Nat} {a b : DFA} {p q : List Nat → Bool} (ha : MinL v n a p) (hb : MinL v m b q) (h : ∀ w, WdV v w → p w = q w) : a = b :=
  min_ext ha.valid hb.valid ha.min hb.min (by rw [ha.vars, hb.vars]) fun w hw => by rw [ha.acc w (ha.wd.1 hw), hb.acc w (ha.wd.1 hw), h w (ha.wd.1 hw)]
def andB (x y : Bool) : Bool := x && y
def orB (x y : Bool) : Bool := x || y
def xorB (x y : Bool) : Bool := x != y
def minusB (x y : Bool) : Bool := x && !y
def notB (x _y : Bool) : Bool := !x
def notD (d : DFA) : DFA := opD notB d d
theorem HasL.not {v : Int} {n : Nat} {d : DFA} {p : List Nat → Bool} (h : HasL v n d p) (hn : n * n ≤ 4096) : MinL v (n * n) (notD d) (fun w => !p w) := h.op h hn
theorem notD_flip {d : DFA} (h : Valid d) (hn : d.next.length * d.next.length ≤ 4096) : minD (flipD d) = notD d :=
  opD_of h h rfl hn (flip_valid h) rfl fun w hw => flip_acc h hw
theorem notD_len {d : DFA} (h : Valid d) (hn : d.next.length * d.next.length ≤ 4096) : (notD d).next.length ≤ d.next.length := by
  rw [← notD_flip h hn]; exact minD_len (flip_valid h)
end Go.Lx


namespace Go.Lx
open Go.RowKit
set_option linter.unusedVariables false
theorem stay_min {v : Int} (h0 : 0 ≤ v) (h6 : v ≤ 6) (f : Bool) : MinL v 1 (minD (stayD v f)) (fun _ => f) :=
  (show HasL v 1 (stayD v f) (fun _ => f) from ⟨stay_valid h0 h6 f, by show [_].length ≤ 1; simp, rfl, fun w hw => stay_acc h0 h6 f hw⟩).minim
theorem run_one {d : DFA} (hv : Valid d) (h1 : d.next.length = 1) {w : List Nat} (hw : Wd d w) : runN d d.start.toNat w = 0 := by
  have := runN_lt hv (start_lt hv) w hw; omega
theorem MinL.empty {v : Int} {n : Nat} {d : DFA} {p : List Nat → Bool} (h : MinL v n d p) : (d.next.length = 1 ∧ finN d 0 = false) ↔ ∀ w, WdV v w → p w = false := by
  constructor
  · rintro ⟨h1, h2⟩ w hw
    rw [← h.acc w hw]
    unfold acc; rw [run_one h.valid h1 (h.wd.2 hw), h2]
  · intro hp
    have h0 : 0 ≤ v := by rw [← h.vars]; exact h.valid.v0
    have h6 : v ≤ 6 := by rw [← h.vars]; exact h.valid.v6
    have he := MinL.ext h (stay_min h0 h6 false) fun w hw => hp w hw
    have hl : d.next.length = 1 := by
      have a1 := (stay_min h0 h6 false).len; rw [← he] at a1
      have a2 := h.valid.n0; omega
    refine ⟨hl, ?_⟩
    have h2 := h.acc [] (fun x hx => by cases hx)
    rw [hp [] (fun x hx => by cases hx)] at h2
    unfold acc at h2; rw [run_one h.valid hl (fun x hx => by cases hx)] at h2; exact h2
theorem same_iff {v : Int} {n m : Nat} {a b : DFA} {p q : List Nat → Bool} (ha : HasL v n a p) (hb : HasL v m b q) (hn : n * m ≤ 4096) :
    ((opD xorB a b).next.length = 1 ∧ finN (opD xorB a b) 0 = false) ↔ ∀ w, WdV v w → p w = q w := by
  rw [(ha.op (f := xorB) hb hn).empty]
  constructor
  · intro h w hw
    have := h w hw; unfold xorB at this
    cases hp : p w <;> cases hq : q w <;> simp_all
  · intro h w hw
    unfold xorB; rw [h w hw]; cases q w <;> rfl
end Go.Lx


namespace Go.Lx
open Go.RowKit
set_option linter.unusedVariables false
theorem pr_toN_lt {f : Bool → Bool → Bool} {a b : DFA} (ha : Valid a) (hb : Valid b) (hv : a.vars = b.vars) {o x : Nat} (ho : o < a.next.length * b.next.length) (hx : x < letN a) :
    toN (prodD f a b) o x = toN a (o / b.next.length) x * b.next.length + toN b (o % b.next.length) x ∧ toN (prodD f a b) o x < a.next.length * b.next.length := by
  obtain ⟨h1, h2⟩ := pr_split ho
  have h3 := prod_step (f := f) (a := a) (b := b) h1 h2 hx
  rw [Nat.div_add_mod'] at h3
  refine ⟨h3, ?_⟩
  rw [h3]
  exact pr_lt (ha.toN_lt h1 hx).1 (hb.toN_lt h2 (by rw [← hv]; exact hx)).1
theorem pr_bfs_ok {f : Bool → Bool → Bool} {a b : DFA} (ha : Valid a) (hb : Valid b) (hv : a.vars = b.vars) : ∀ i, (bfsN (prodD f a b) i).Nodup ∧ ∀ o ∈ bfsN (prodD f a b) i, o < a.next.length * b.next.length
  | 0 => by
    refine ⟨by simp [bfsN], fun o ho => ?_⟩
    simp only [bfsN, List.mem_singleton] at ho
    rw [ho, show (prodD f a b).start.toNat = a.start.toNat * b.next.length + b.start.toNat from Int.toNat_natCast _]
    exact pr_lt (start_lt ha) (start_lt hb)
  | i + 1 => by
    obtain ⟨h1, h2⟩ := pr_bfs_ok ha hb hv i
    rw [bfsN]
    split
    · rename_i hi
      refine foldl_add_ok _ _ h1 h2 (fun t ht => ?_)
      obtain ⟨x, hx, rfl⟩ := List.mem_map.1 ht
      refine (pr_toN_lt ha hb hv (h2 _ ?_) (List.mem_range.1 hx)).2
      rw [List.getD_eq_getElem?_getD, List.getElem?_eq_getElem hi]
      exact List.getElem_mem hi
    · exact ⟨h1, h2⟩
theorem pr_bfs_len {f : Bool → Bool → Bool} {a b : DFA} (ha : Valid a) (hb : Valid b) (hv : a.vars = b.vars) (i : Nat) : (bfsN (prodD f a b) i).length ≤ a.next.length * b.next.length := nodup_bound (pr_bfs_ok ha hb hv i).1 (pr_bfs_ok ha hb hv i).2
theorem pr_bfsM_ok {f : Bool → Bool → Bool} {a b : DFA} (ha : Valid a) (hb : Valid b) (hv : a.vars = b.vars) {i o x : Nat} (ho : o < a.next.length * b.next.length) (hx : x ≤ letN a) :
    (bfsM (prodD f a b) i o x).Nodup ∧ ∀ t ∈ bfsM (prodD f a b) i o x, t < a.next.length * b.next.length := by
  obtain ⟨h1, h2⟩ := pr_bfs_ok (f := f) ha hb hv i
  exact foldl_add_ok _ _ h1 h2 (fun t ht => by
    obtain ⟨y, hy, rfl⟩ := List.mem_map.1 ht
    exact (pr_toN_lt ha hb hv ho (by have := List.mem_range.1 hy; omega)).2)
theorem pr_bfsM_len {f : Bool → Bool → Bool} {a b : DFA} (ha : Valid a) (hb : Valid b) (hv : a.vars = b.vars) {i o x : Nat} (ho : o < a.next.length * b.next.length) (hx : x ≤ letN a) :
    (bfsM (prodD f a b) i o x).length ≤ a.next.length * b.next.length := nodup_bound (pr_bfsM_ok ha hb hv ho hx).1 (pr_bfsM_ok ha hb hv ho hx).2
theorem bfsM_full {d : DFA} {i o : Nat} (h : (bfsN d i)[i]? = some o) : bfsM d i o (2 ^ d.vars.toNat) = bfsN d (i + 1) := by rw [bfsN_succ h]; rfl
theorem bfsM_prefix {d : DFA} {i o x : Nat} (h : (bfsN d i)[i]? = some o) (hx : x ≤ 2 ^ d.vars.toNat) : bfsM d i o x <+: bfsN d (i + 1) := by
  rw [← bfsM_full h]
  unfold bfsM
  have h1 : List.range (2 ^ d.vars.toNat) = List.range x ++ (List.range (2 ^ d.vars.toNat)).drop x := by
    have h2 := List.take_append_drop x (List.range (2 ^ d.vars.toNat))
    rw [List.take_range, Nat.min_eq_left hx] at h2
    exact h2.symm
  rw [h1, List.map_append, List.foldl_append]
  exact foldl_prefix _ _
theorem ord_prefix {d : DFA} {i o x : Nat} (h : (bfsN d i)[i]? = some o) (hx : x ≤ 2 ^ d.vars.toNat) (hi : i + 1 ≤ d.next.length) : bfsM d i o x <+: order d :=
  (bfsM_prefix h hx).trans (bfsN_prefix d _ _ hi)
theorem visit_old {d : DFA} {i o x : Nat} (h : (bfsN d i)[i]? = some o) (hx : x ≤ 2 ^ d.vars.toNat) (hi : i + 1 ≤ d.next.length) {t : Nat} (ht : t ∈ bfsM d i o x) : ix t (bfsM d i o x) = ix t (order d) :=
  (ix_prefix (ord_prefix h hx hi) ht).symm
end Go.Lx


namespace Go.Lx
open Go.RowKit
set_option linter.unusedVariables false
def Det (z a : DFA) : Prop := ∀ u u', WdV z.vars u → WdV z.vars u' → runN z z.start.toNat u = runN z z.start.toNat u' → runN a a.start.toNat u = runN a a.start.toNat u'
def Fac (z : DFA) (p : List Nat → Bool) : Prop := ∀ u u' w, WdV z.vars u → WdV z.vars u' → WdV z.vars w → runN z z.start.toNat u = runN z z.start.toNat u' → p (u ++ w) = p (u' ++ w)
theorem runN_append (d : DFA) (s : Nat) (u w : List Nat) : runN d s (u ++ w) = runN d (runN d s u) w := by simp [runN]
theorem WdV.append {v : Int} {u w : List Nat} (hu : WdV v u) (hw : WdV v w) : WdV v (u ++ w) := fun x hx => (List.mem_append.1 hx).elim (hu x) (hw x)
theorem wd_wdV {d : DFA} {w : List Nat} : Wd d w ↔ WdV d.vars w := Iff.rfl
theorem Det.refl (z : DFA) : Det z z := fun _ _ _ _ h => h
theorem Fac.op {z : DFA} {p q : List Nat → Bool} (f : Bool → Bool → Bool) (hp : Fac z p) (hq : Fac z q) : Fac z (fun w => f (p w) (q w)) := fun u u' w hu hu' hw e => by
  show f _ _ = f _ _
  rw [hp u u' w hu hu' hw e, hq u u' w hu hu' hw e]
theorem Det.trans {z y a : DFA} (hv : z.vars = y.vars) (h : Det z y) (h2 : Det y a) : Det z a := fun u u' hu hu' e => h2 u u' (hv ▸ hu) (hv ▸ hu') (h u u' hu hu' e)
theorem order_fact {d z : DFA} (hd : Valid d) (hz : Valid z) (hv : z.vars = d.vars) (h : Det z d) : (order d).length ≤ z.next.length := by
  classical
  have hr : ∀ o ∈ order d, ∃ w, Wd d w ∧ runN d d.start.toNat w = o := fun o ho => bfsN_reach hd _ o ho
  let g : Nat → Nat := fun o => if hx : ∃ w, Wd d w ∧ runN d d.start.toNat w = o then runN z z.start.toNat (Classical.choose hx) else 0
  have hg : ∀ o ∈ order d, ∃ w, Wd d w ∧ runN d d.start.toNat w = o ∧ g o = runN z z.start.toNat w := fun o ho => by
    have hx := hr o ho
    refine ⟨Classical.choose hx, (Classical.choose_spec hx).1, (Classical.choose_spec hx).2, ?_⟩
    show (if hx : _ then _ else _) = _
    rw [dif_pos hx]
  have wz : ∀ w, Wd d w → WdV z.vars w := fun w hw => by rw [hv]; exact hw
  have hn : ((order d).map g).Nodup := map_nodup (bfsN_ok hd _).1 fun a ha b hb e => by
    obtain ⟨u, hu, rfl, e1⟩ := hg a ha
    obtain ⟨u', hu', rfl, e2⟩ := hg b hb
    exact h u u' (wz u hu) (wz u' hu') (by rw [← e1, ← e2, e])
  have := nodup_bound (n := z.next.length) hn fun x hx => by
    obtain ⟨o, ho, rfl⟩ := List.mem_map.1 hx
    obtain ⟨u, hu, _, e1⟩ := hg o ho
    rw [e1]
    exact runN_lt hz (start_lt hz) u (wz u hu)
  simpa using this
theorem pr_order_fact {f : Bool → Bool → Bool} {a b z : DFA} (ha : Valid a) (hb : Valid b) (hv : a.vars = b.vars) (hn : a.next.length * b.next.length ≤ 4096) (hz : Valid z) (hzv : z.vars = a.vars) (h1 : Det z a) (h2 : Det z b) : (order (prodD f a b)).length ≤ z.next.length := by
  refine order_fact (prod_valid ha hb hv hn) hz hzv fun u u' hu hu' e => ?_
  rw [show (prodD f a b).start.toNat = a.start.toNat * b.next.length + b.start.toNat from Int.toNat_natCast _,
    prod_run ha hb hv (start_lt ha) (start_lt hb) u (by rw [wd_wdV, ← hzv]; exact hu), prod_run ha hb hv (start_lt ha) (start_lt hb) u' (by rw [wd_wdV, ← hzv]; exact hu'), h1 u u' hu hu' e, h2 u u' hu hu' e]
theorem pr_order_le {f : Bool → Bool → Bool} {a b : DFA} (ha : Valid a) (hb : Valid b) (hv : a.vars = b.vars) : (order (prodD f a b)).length ≤ a.next.length * b.next.length := pr_bfs_len ha hb hv _
end Go.Lx


namespace Go.Lx
open Go.RowKit
set_option linter.unusedVariables false
def packI (φ : Prop) (L : List Item) : Item where
  blocks := L.flatMap Item.blocks
  P w := φ ∧ ∀ it ∈ L, it.P w
  loc w w' h := fun hp => ⟨hp.1, fun it hi => it.loc w w' (fun b hb => h b (List.mem_flatMap.2 ⟨it, hi, hb⟩)) (hp.2 it hi)⟩
theorem Inv.pack {base w : World} {φ : Prop} {L M : List Item} (hφ : φ) (h : Inv base (L ++ M) w) : Inv base (packI φ L :: M) w :=
  ⟨h.below, fun it hi => (List.mem_cons.1 hi).elim (fun e => e ▸ ⟨hφ, fun x hx => h.holds x (List.mem_append_left _ hx)⟩) fun hm => h.holds it (List.mem_append_right _ hm),
   fun it hi b hb => (List.mem_cons.1 hi).elim (fun e => by
      subst e
      obtain ⟨x, hx, hbx⟩ := List.mem_flatMap.1 hb
      exact h.fresh x (List.mem_append_left _ hx) b hbx) fun hm => h.fresh it (List.mem_append_right _ hm) b hb,
   by have := h.nodup; rwa [List.flatMap_append] at this⟩
theorem Inv.unpack {base w : World} {φ : Prop} {L M : List Item} (h : Inv base (packI φ L :: M) w) : φ ∧ Inv base (L ++ M) w := by
  have h0 := h.holds (packI φ L) List.mem_cons_self
  refine ⟨h0.1, h.below, fun it hi => (List.mem_append.1 hi).elim (h0.2 it) fun hm => h.holds it (List.mem_cons_of_mem _ hm), fun it hi b hb => (List.mem_append.1 hi).elim (fun hm => h.fresh (packI φ L) List.mem_cons_self b (List.mem_flatMap.2 ⟨it, hm, hb⟩)) fun hm => h.fresh it (List.mem_cons_of_mem _ hm) b hb, ?_⟩
  have := h.nodup
  rwa [List.flatMap_append]
section
variable {P : Program} {r : Option Nat} {base : World} {n : Nat} {c : Code} {Q : Post} {ρ : Env} {φ : Prop} {L M : List Item} {f : FuncId} {args : List Value}
theorem T.pack (hφ : φ) (h : T P r base n c Q ρ (packI φ L :: M)) : T P r base n c Q ρ (L ++ M) := fun a w N D hM ha hi =>
  h a w N D hM ha (by rw [List.append_assoc] at hi; exact Inv.pack hφ hi)
theorem T.unpack (h : φ → T P r base n c Q ρ (L ++ M)) : T P r base n c Q ρ (packI φ L :: M) := fun a w N D hM ha hi => by
  have hu := Inv.unpack (M := M ++ (mI D ++ N)) hi
  exact h hu.1 a w N D hM ha (by rw [List.append_assoc]; exact hu.2)
theorem CallT.packR {O : List Item} {R R' : Value → List Item → Prop} (h : CallT P base f args O R) (hr : ∀ v O', R v O' → ∃ φ L M, φ ∧ O' = L ++ M ∧ R' v (packI φ L :: M)) : CallT P base f args O R' := fun w N hI =>
  (h w N hI).mono fun _ _ ⟨v, O', h1, h2, h3⟩ => by
    obtain ⟨φ, L, M, hφ, rfl, hR⟩ := hr v O' h3
    exact ⟨v, packI φ L :: M, h1, Inv.pack (M := M ++ N) hφ (by rw [← List.append_assoc]; exact h2), hR⟩
end
structure DK where
  nb : Option Addr
  nc : Nat
  fb : Option Addr
  fc : Nat
  qs : List Rec
abbrev dC (d : DFA) (k : DK) : List Value := dfaCells d k.nb k.nc k.fb k.fc
abbrev dV (d : DFA) (k : DK) : Value := .agg (dC d k).toArray
abbrev At (w : World) (d : DFA) (k : DK) : Prop := DfaAt w d k.nb (vals k.qs) k.fb
def dI (II Bo I : TypeId) (d : DFA) (k : DK) : Item := packI (nums k.qs = d.next) ([rowI k.nb k.nc II 1 (vals k.qs), rowI k.fb k.fc Bo 1 (bools d.final)] ++ itms I k.qs)
theorem Inv.at {base w : World} {O : List Item} {II Bo I : TypeId} {d : DFA} {k : DK} (hI : Inv base O w) (h : dI II Bo I d k ∈ O) : At w d k := by
  have h0 := hI.holds _ h
  have g : ∀ it ∈ [rowI k.nb k.nc II 1 (vals k.qs), rowI k.fb k.fc Bo 1 (bools d.final)] ++ itms I k.qs, it.P w := h0.2
  refine ⟨rowP.sl (g (rowI k.nb k.nc II 1 (vals k.qs)) (by simp)), ?_, rowP.sl (g (rowI k.fb k.fc Bo 1 (bools d.final)) (by simp))⟩
  rw [← h0.1]
  refine ⟨by simp, fun i x hx => ?_⟩
  rw [List.getElem?_map] at hx
  obtain ⟨q, hq, rfl⟩ := Option.map_eq_some_iff.1 hx
  refine ⟨q.b, q.c, by rw [List.getElem?_map, hq]; rfl, ?_⟩
  have : (Rec.itm I q).P w := g _ (List.mem_append_right _ (List.mem_map_of_mem (List.mem_of_getElem? hq)))
  exact rowP.sl this
theorem rows_rec {w : World} : ∀ {vs : List Value} {rs : List (List Int)}, RowsR w vs rs → ∃ qs : List Rec, vals qs = vs ∧ nums qs = rs
  | [], [], _ => ⟨[], rfl, rfl⟩
  | [], _ :: _, h => absurd h.1 (by simp)
  | _ :: _, [], h => absurd h.1 (by simp)
  | v :: vs, x :: rs, h => by
    obtain ⟨b, c, h1, h2⟩ := h.get (i := 0) (by simp)
    obtain ⟨qs, e1, e2⟩ := rows_rec (vs := vs) (rs := rs) ⟨by simpa using h.1, fun i y hy => by simpa using h.2 (i + 1) y (by simpa using hy)⟩
    refine ⟨⟨b, c, x⟩ :: qs, ?_, by simp [e2]⟩
    simp only [List.map_cons, e1, Rec.val]
    simp at h1
    rw [h1]
theorem DfaAt.dk {w : World} {d : DFA} {nb : Option Addr} {vs : List Value} {fb : Option Addr} (nc fc : Nat) (h : DfaAt w d nb vs fb) : ∃ k : DK, At w d k ∧ dfaCells d nb nc fb fc = dC d k := by
  obtain ⟨qs, rfl, e⟩ := rows_rec h.rows
  exact ⟨⟨nb, nc, fb, fc, qs⟩, h, rfl⟩
theorem CallT.dk {P : Program} {base : World} {f : FuncId} {args : List Value} {O : List Item} {II Bo I : TypeId} {D : DFA} {g : Value → Value} (h : CallT P base f args O fun v N => ∃ nb' nc' fb' fc' qs, v = g (.agg (dfaCells D nb' nc' fb' fc').toArray) ∧ N = [rowI nb' nc' II 1 (vals qs), rowI fb' fc' Bo 1 (bools D.final)] ++ itms I qs ∧ nums qs = D.next) :
    CallT P base f args O fun v N => ∃ k : DK, v = g (dV D k) ∧ N = [dI II Bo I D k] :=
  h.packR fun v O' hR => by
    obtain ⟨nb, nc, fb, fc, qs, rfl, rfl, hq⟩ := hR
    exact ⟨nums qs = D.next, _, [], hq, (List.append_nil _).symm, ⟨nb, nc, fb, fc, qs⟩, rfl, rfl⟩
theorem Inv.atB {base w : World} {O : List Item} {d : DFA} {k : DK} (hI : Inv base O w) (h : At base d k) : At w d k := hI.dfa h
end Go.Lx


namespace Go.Lx
open Go.RowKit
set_option linter.unusedVariables false
def noD : DFA := ⟨0, 0, [], []⟩
def wrongD (a b : DFA) : Nat := if checkD a ≠ 0 then checkD a else if checkD b ≠ 0 then checkD b else if a.vars ≠ b.vars then 7 else 0
def opV (f : Bool → Bool → Bool) (a b : DFA) : DFA := if wrongD a b = 0 then opD f a b else noD
theorem wrongD_zero {a b : DFA} : wrongD a b = 0 ↔ Valid a ∧ Valid b ∧ a.vars = b.vars := by
  unfold wrongD
  rw [← checkD_zero, ← checkD_zero]
  split
  · rename_i h; constructor
    · intro e; exact absurd e h
    · intro e; exact absurd e.1 h
  · rename_i h1; split
    · rename_i h; constructor
      · intro e; exact absurd e h
      · intro e; exact absurd e.2.1 h
    · rename_i h2; split
      · rename_i h; constructor
        · intro e; exact absurd e (by decide)
        · intro e; exact absurd e.2.2 h
      · rename_i h; constructor
        · intro _; exact ⟨by omega, by omega, Classical.not_not.1 h⟩
        · intro _; rfl
theorem wrong_first {a b : DFA} (h : checkD a ≠ 0) : wrongD a b = checkD a := by unfold wrongD; rw [if_pos h]
theorem wrong_second {a b : DFA} (h : checkD a = 0) (h2 : checkD b ≠ 0) : wrongD a b = checkD b := by unfold wrongD; rw [if_neg (by omega), if_pos h2]
theorem wrong_vars {a b : DFA} (h : checkD a = 0) (h2 : checkD b = 0) (h3 : a.vars ≠ b.vars) : wrongD a b = 7 := by unfold wrongD; rw [if_neg (by omega), if_neg (by omega), if_pos h3]
theorem opV_ok {f : Bool → Bool → Bool} {a b : DFA} (h : wrongD a b = 0) : opV f a b = opD f a b := by unfold opV; rw [if_pos h]
theorem opV_bad {f : Bool → Bool → Bool} {a b : DFA} (h : wrongD a b ≠ 0) : opV f a b = noD := by unfold opV; rw [if_neg h]
def un (n c : Nat) : Int × Int := (((c / n : Nat) : Int), ((c % n : Nat) : Int))
theorem un_inj {n c e : Nat} (h : un n c = un n e) : c = e := by
  unfold un at h
  simp only [Prod.mk.injEq] at h
  have h1 : c / n = e / n := by omega
  have h2 : c % n = e % n := by omega
  rw [← Nat.div_add_mod c n, ← Nat.div_add_mod e n, h1, h2]
abbrev unC (n c : Nat) : List Value := [.int .i64 ((c / n : Nat) : Int), .int .i64 ((c % n : Nat) : Int)]
def prs (n : Nat) (ks : List Nat) : List Value := ks.flatMap (unC n)
theorem prs_snoc (n : Nat) (ks : List Nat) (c : Nat) : prs n (ks ++ [c]) = prs n ks ++ unC n c := by simp [prs]
theorem prs_len (n : Nat) : ∀ ks : List Nat, (prs n ks).length = ks.length * 2
  | [] => rfl
  | c :: ks => by
    have := prs_len n ks
    simp only [prs, List.flatMap_cons, List.length_append, List.length_cons, List.length_nil] at this ⊢
    omega
theorem prs_get {n : Nat} : ∀ {ks : List Nat} {i c : Nat}, ks[i]? = some c → ∀ j (h : j < (unC n c).length), (prs n ks)[i * 2 + j]? = some (unC n c)[j]
  | [], i, c, h, _, _ => by simp at h
  | e :: ks, 0, c, h, j, hj => by
    simp only [List.getElem?_cons_zero, Option.some.injEq] at h
    subst h
    rw [Nat.zero_mul, Nat.zero_add, show prs n (e :: ks) = unC n e ++ prs n ks from rfl, List.getElem?_append_left hj]
    exact List.getElem?_eq_getElem hj
  | e :: ks, i + 1, c, h, j, hj => by
    rw [show prs n (e :: ks) = unC n e ++ prs n ks from rfl, List.getElem?_append_right (by show 2 ≤ _; omega), show (i + 1) * 2 + j - (unC n e).length = i * 2 + j by show (i + 1) * 2 + j - 2 = _; omega]
    exact prs_get (by simpa using h) j hj
abbrev pmap (n : Nat) (ks : List Nat) : List ((Int × Int) × Nat) := (ks.map (un n)).zipIdx
theorem un_mem {n c : Nat} {ks : List Nat} : un n c ∈ ks.map (un n) ↔ c ∈ ks := by
  constructor
  · intro h
    obtain ⟨e, he, h2⟩ := List.mem_map.1 h
    rw [← un_inj h2]; exact he
  · exact fun h => List.mem_map_of_mem h
theorem un_ix (n c : Nat) : ∀ ks : List Nat, ix (un n c) (ks.map (un n)) = ix c ks
  | [] => rfl
  | e :: ks => by
    simp only [List.map_cons, ix, un_ix n c ks]
    by_cases h : c = e
    · rw [h]; simp
    · rw [if_neg (fun h2 => h (un_inj h2)), if_neg h]
theorem pmap_snoc (n : Nat) (ks : List Nat) (c : Nat) : pmap n (ks ++ [c]) = pmap n ks ++ [(un n c, ks.length)] := by
  show ((ks ++ [c]).map (un n)).zipIdx = _
  rw [List.map_append, List.zipIdx_append]; simp
theorem pmap_fst (n : Nat) (ks : List Nat) : (pmap n ks).map Prod.fst = ks.map (un n) := zipIdx_fst _ 0
def rnR (d : DFA) (o : Nat) : List Int := (renRow d o).map fun x : Nat => (x : Int)
theorem renum_rows (d : DFA) : (renum d).next = (order d).map (rnR d) := renum_next d
theorem renum_fins (d : DFA) : (renum d).final = (order d).map (finN d) := rfl
theorem bfs_at {d : DFA} {i o : Nat} (h : (bfsN d i)[i]? = some o) (hi : i ≤ d.next.length) : (order d)[i]? = some o := by
  obtain ⟨hl, e⟩ := List.getElem?_eq_some_iff.1 h
  obtain ⟨r, hr⟩ := bfsN_prefix d i d.next.length hi
  show (bfsN d d.next.length)[i]? = _
  rw [← hr, List.getElem?_append_left hl]; exact h
theorem take_at {α : Type} {l : List α} {i : Nat} {o : α} (h : l[i]? = some o) : l.take (i + 1) = l.take i ++ [o] := by
  obtain ⟨hl, e⟩ := List.getElem?_eq_some_iff.1 h
  rw [List.take_succ_eq_append_getElem hl, e]
theorem pr_fin_at {f : Bool → Bool → Bool} {a b : DFA} {o : Nat} (ho : o < a.next.length * b.next.length) : finN (prodD f a b) o = f (finN a (o / b.next.length)) (finN b (o % b.next.length)) := by
  obtain ⟨h1, h2⟩ := pr_split ho
  have := prod_fin (f := f) h1 h2
  rwa [Nat.div_add_mod'] at this
theorem pr_stop {f : Bool → Bool → Bool} {a b : DFA} {N : Nat} (va : Valid a) (vb : Valid b) (hv : a.vars = b.vars) (h : (bfsN (prodD f a b) N).length = N) : order (prodD f a b) = bfsN (prodD f a b) N :=
  order_eq h (by have := pr_bfs_len (f := f) va vb hv N; rw [prod_len]; omega)
theorem itms_snoc (E : TypeId) (qs : List Rec) (r : Rec) : itms E (qs ++ [r]) = itms E qs ++ [r.itm E] := List.map_append
theorem Sub.fold (A : List Item) (x : Item) (B S S' : List Item) (h : S' = S ++ [x]) : Sub ((A ++ S') ++ B) ((A ++ (x :: B)) ++ S) := by
  subst h
  refine ⟨_, ?_, List.Sublist.refl _⟩
  have h1 : (A ++ (S ++ [x])) ++ B = A ++ (S ++ (x :: B)) := by simp
  have h2 : (A ++ (x :: B)) ++ S = A ++ ((x :: B) ++ S) := by simp
  rw [h1, h2]
  exact List.Perm.append_left A List.perm_append_comm
end Go.Lx


namespace Go.Lx
open Go.RowKit
theorem Res.cell2a {P : Program} {base : World} {ρ : Env} {O : List Item} {fn : Func} {R : Value → List Item → Prop} {a i c j : Nat} {T U E E' : TypeId} {d d' : TypeDesc} {z u : Value} {s by_ b b' : Nat} {cs cs' : List Value} {fr fr' : Nat × Nat} (hr : fn.results = #[.cell a T, .cell c U]) (hu : P.underlying T = some d) (ha : aggB d = true) (hi : Inf P T z s by_) (hu' : P.underlying U = some d') (ha' : aggB d' = false)
    (hp : ρ a = .pointer (some ⟨b, 0, none⟩)) (hp' : ρ c = .pointer (some ⟨b', 0, none⟩)) (hO : O[i]? = some (objI b (.cells cs.toArray E fr))) (hO' : O[j]? = some (objI b' (.cells (u :: cs').toArray E' fr'))) (hl : cs.length = s)
    (h : R (.tuple #[.agg cs.toArray, u]) O) : Res P base fn ρ O R :=
  ⟨⟨_, O, Sub.of (List.Sublist.refl _), h, fun w tmps hI ht => by
    have h1 := run_loadBox (P := P) hu ha hi hl (hI.objAt hO)
    have h2 := run_loadBox1 (P := P) hu' ha' (hI.objAt hO')
    have ht1 := ht a
    have ht2 := ht c
    simp only [Array.getD_eq_getD_getElem?] at ht1 ht2
    simp [results, hr, ht1, ht2, hp, hp', asAddr, h1, h2]⟩⟩
theorem q_nilCheck {P : Program} {base : World} {ρ : Env} {O : List Item} {dst : Option Nat} {t : TypeId} {p : String} {af : Array Edge} {g : Option (Nat × Bool)} {x : Operand} {a : Addr} (h : ev ρ x = .pointer (some a)) : QT P base ⟨dst, .nilCheck x, t, p, af, g⟩ ρ O (.pointer (some a)) := fun w _ => by simp [execOp, h]
end Go.Lx


namespace Go.Proofs.YtdaapdamcekkgaaDoor
open Go.Lx Go.RowKit
set_option linter.unusedVariables false
set_option linter.unusedSimpArgs false
theorem pairT : Pair2 Tryd.prog 86 { name := "s", type := 3, offset := 0, embedded := false, tag := "", pkgPath := "sentinel/boolean", byteOffset := 0 } { name := "t", type := 3, offset := 1, embedded := false, tag := "", pkgPath := "sentinel/boolean", byteOffset := 8 } := ⟨Tryd.underlying86, Tryd.underlying3, Tryd.underlying3, rfl, rfl, by decide, by decide, by kernel_rfl⟩
set_option maxHeartbeats 1000000 in
set_option maxRecDepth 20000 in
theorem beginBad (w : World) (a b : DFA) (j k : DK) (ha : At w a j) (hb : At w b k) (haa : a.next.length < 9223372036854775807) (haar : ∀ r ∈ a.next, r.length < 9223372036854775807) (haaf : a.final.length < 9223372036854775807) (hbb : b.next.length < 9223372036854775807) (hbbr : ∀ r ∈ b.next, r.length < 9223372036854775807) (hbbf : b.final.length < 9223372036854775807) (he : wrongD a b ≠ 0) :
    PureT Tryd.prog 69 [dV a j, dV b k] w fun v N => v = .tuple #[.pointer none, .int .i64 (wrongD a b : Int)] ∧ N = [] := by
  refine CallT.enter Tryd.func69 rfl Tryd.ntmps69 rfl ?_
  refine T.seq (T.region ?_)
  refine TO.loud rfl (l_box (v := (dV a j)) (cs := (dC a j)) rfl rfl (fun bx1 => ?_))
  refine TO.loud rfl (l_box (v := (dV b k)) (cs := (dC b k)) rfl rfl (fun bx2 => ?_))
  refine TO.quiet (q_assign rfl) (TO.quiet (q_assign rfl) ?_)
  refine TO.nil (T.seq (T.seq (T.region ?_)))
  refine TO.quiet (q_load_boxAgg 1 Tryd.underlying25 rfl inf25 rfl rfl rfl) ?_
  have hk10 := fun (w1 : World) (hI : Inv w [oI bx2 25 (dC b k), oI bx1 25 (dC a j)] w1) => subsetCheck w1 a j.nb j.fb j.nc j.fc (vals j.qs) (hI.dfa ha) haa haar haaf
  refine TO.loud rfl (l_call ent20 (CallT.of_pure hk10) rfl ?_)
  clear hk10
  rintro vr O' ⟨N, rfl, rfl, rfl⟩
  refine TO.quiet (q_assign rfl) ?_
  refine TO.nil (T.seq (T.region ?_))
  refine TO.quiet (q_move rfl) (TO.quiet (q_neq rfl rfl) ?_)
  refine TO.nil ?_
  refine T.condP rfl (fun hc => ?_) (fun hc => ?_)
  · have hlt12 : checkD a ≠ 0 := by omega
    refine T.seq (T.region ?_)
    refine TO.quiet (q_move rfl) (TO.quiet (q_assign rfl) (TO.quiet (q_assign rfl) ?_))
    refine TO.nil (T.ret (Res.drop ?_))
    refine Res.two (.pointer none) (.int .i64 (checkD a : Int)) Tryd.results69 rfl rfl ?_
    exact ⟨[], Sub.z, by rw [wrong_first (by omega)], rfl⟩
  have hge12 : ¬ checkD a ≠ 0 := by omega
  refine T.skip (T.seq (T.seq (T.region ?_)))
  refine TO.quiet (q_load_boxAgg 0 Tryd.underlying25 rfl inf25 rfl rfl rfl) ?_
  have hk15 := fun (w1 : World) (hI : Inv w [oI bx2 25 (dC b k), oI bx1 25 (dC a j)] w1) => subsetCheck w1 b k.nb k.fb k.nc k.fc (vals k.qs) (hI.dfa hb) hbb hbbr hbbf
  refine TO.loud rfl (l_call ent20 (CallT.of_pure hk15) rfl ?_)
  clear hk15
  rintro vr O' ⟨N, rfl, rfl, rfl⟩
  refine TO.quiet (q_assign rfl) ?_
  refine TO.nil (T.seq (T.region ?_))
  refine TO.quiet (q_move rfl) (TO.quiet (q_neq rfl rfl) ?_)
  refine TO.nil ?_
  refine T.condP rfl (fun hc => ?_) (fun hc => ?_)
  · have hlt17 : checkD b ≠ 0 := by omega
    refine T.seq (T.region ?_)
    refine TO.quiet (q_move rfl) (TO.quiet (q_assign rfl) (TO.quiet (q_assign rfl) ?_))
    refine TO.nil (T.ret (Res.drop ?_))
    refine Res.two (.pointer none) (.int .i64 (checkD b : Int)) Tryd.results69 rfl rfl ?_
    exact ⟨[], Sub.z, by rw [wrong_second (by omega) (by omega)], rfl⟩
  have hge17 : ¬ checkD b ≠ 0 := by omega
  refine T.skip (T.seq (T.seq (T.region ?_)))
  refine TO.quiet (q_fieldAddr Tryd.underlying25 rfl inf3 rfl rfl) (TO.quiet (q_load_box 1 Tryd.underlying3 rfl rfl rfl rfl) (TO.quiet (q_fieldAddr Tryd.underlying25 rfl inf3 rfl rfl) (TO.quiet (q_load_box 0 Tryd.underlying3 rfl rfl rfl rfl) ?_)))
  refine TO.quiet (q_neq rfl rfl) ?_
  refine TO.nil ?_
  refine T.condP (p := ¬ a.vars = b.vars) (congrArg Value.bool (decide_eq_decide.2 (by omega))) (fun hc => ?_) (fun hc => ?_)
  · refine T.seq ?_
    refine T.region ?_
    refine TO.quiet (q_assign rfl) (TO.quiet (q_assign rfl) ?_)
    refine TO.nil (T.ret (Res.drop ?_))
    refine Res.two (.pointer none) (.int .i64 7) Tryd.results69 rfl rfl ?_
    exact ⟨[], Sub.z, by rw [wrong_vars (by omega) (by omega) hc]; rfl, rfl⟩
  refine absurd (wrongD_zero.2 ⟨checkD_zero.1 (by omega), checkD_zero.1 (by omega), Classical.not_not.1 hc⟩) he
set_option maxHeartbeats 1000000 in
set_option maxRecDepth 20000 in
theorem beginOk (w : World) (a b : DFA) (j k : DK) (ha : At w a j) (hb : At w b k) (va : Valid a) (vb : Valid b) (hv : a.vars = b.vars) :
    PureT Tryd.prog 69 [dV a j, dV b k] w fun v N => ∃ (bp qb m : Nat), v = .tuple #[.pointer (some ⟨bp, 0, none⟩), .int .i64 0] ∧ N = [oI bp 90 [(.int .i64 a.vars), (.int .i64 a.start), (.slice j.nb a.next.length j.nc), (.slice j.fb a.final.length j.fc), (.int .i64 b.vars), (.int .i64 b.start), (.slice k.nb b.next.length k.nc), (.slice k.fb b.final.length k.fc), (.slice (some ⟨qb, 0, none⟩) ([a.start.toNat * b.next.length + b.start.toNat].length) 1), (.map (some m))], rowI (some ⟨qb, 0, none⟩) 1 86 2 (prs b.next.length [a.start.toNat * b.next.length + b.start.toNat]), mapI pairV (fun n : Nat => Value.int .i64 (n : Int)) m (pmap b.next.length [a.start.toNat * b.next.length + b.start.toNat])] := by
  refine CallT.enter Tryd.func69 rfl Tryd.ntmps69 rfl ?_
  have wa : checkD a = 0 := checkD_zero.2 va
  have wb : checkD b = 0 := checkD_zero.2 vb
  have hs1 : a.start = ((a.start.toNat : Nat) : Int) := by have := va.s0; omega
  have hs2 : b.start = ((b.start.toNat : Nat) : Int) := by have := vb.s0; omega
  have hpd := pr_div (s := a.start.toNat) (start_lt vb)
  refine T.seq (T.region ?_)
  refine TO.loud rfl (l_box (v := (dV a j)) (cs := (dC a j)) rfl rfl (fun bx1 => ?_))
  refine TO.loud rfl (l_box (v := (dV b k)) (cs := (dC b k)) rfl rfl (fun bx2 => ?_))
  refine TO.quiet (q_assign rfl) (TO.quiet (q_assign rfl) ?_)
  refine TO.nil (T.seq (T.seq (T.region ?_)))
  refine TO.quiet (q_load_boxAgg 1 Tryd.underlying25 rfl inf25 rfl rfl rfl) ?_
  have hk10 := fun (w1 : World) (hI : Inv w [oI bx2 25 (dC b k), oI bx1 25 (dC a j)] w1) => subsetCheck w1 a j.nb j.fb j.nc j.fc (vals j.qs) (hI.dfa ha) (by have := va.n4; omega) va.bound (by have := va.fin; have := va.n4; omega)
  refine TO.loud rfl (l_call ent20 (CallT.of_pure hk10) rfl ?_)
  clear hk10
  rintro vr O' ⟨N, rfl, rfl, rfl⟩
  rw [wa]
  refine TO.quiet (q_assign rfl) ?_
  refine TO.nil (T.seq (T.region ?_))
  refine TO.quiet (q_move rfl) (TO.quiet (q_neq rfl rfl) ?_)
  refine TO.nil ?_
  refine T.cond0 rfl ?_
  refine T.skip (T.seq (T.seq (T.region ?_)))
  refine TO.quiet (q_load_boxAgg 0 Tryd.underlying25 rfl inf25 rfl rfl rfl) ?_
  have hk15 := fun (w1 : World) (hI : Inv w [oI bx2 25 (dC b k), oI bx1 25 (dC a j)] w1) => subsetCheck w1 b k.nb k.fb k.nc k.fc (vals k.qs) (hI.dfa hb) (by have := vb.n4; omega) vb.bound (by have := vb.fin; have := vb.n4; omega)
  refine TO.loud rfl (l_call ent20 (CallT.of_pure hk15) rfl ?_)
  clear hk15
  rintro vr O' ⟨N, rfl, rfl, rfl⟩
  rw [wb]
  refine TO.quiet (q_assign rfl) ?_
  refine TO.nil (T.seq (T.region ?_))
  refine TO.quiet (q_move rfl) (TO.quiet (q_neq rfl rfl) ?_)
  refine TO.nil ?_
  refine T.cond0 rfl ?_
  refine T.skip (T.seq (T.seq (T.region ?_)))
  refine TO.quiet (q_fieldAddr Tryd.underlying25 rfl inf3 rfl rfl) (TO.quiet (q_load_box 1 Tryd.underlying3 rfl rfl rfl rfl) (TO.quiet (q_fieldAddr Tryd.underlying25 rfl inf3 rfl rfl) (TO.quiet (q_load_box 0 Tryd.underlying3 rfl rfl rfl rfl) ?_)))
  refine TO.quiet (q_neq rfl rfl) ?_
  refine TO.nil ?_
  refine T.cond0 (congrArg Value.bool (decide_eq_false (fun h => h hv))) ?_
  refine T.skip (T.seq (T.region ?_))
  refine TO.quiet (q_fieldAddr Tryd.underlying25 rfl inf3 rfl rfl) (TO.quiet (q_load_box 1 Tryd.underlying3 rfl rfl rfl rfl) (TO.quiet (q_fieldAddr Tryd.underlying25 rfl inf3 rfl rfl) (TO.quiet (q_load_box 0 Tryd.underlying3 rfl rfl rfl rfl) ?_)))
  refine TO.quiet (q_build (cs := [(.int .i64 a.start), (.int .i64 b.start)]) plan86 inf86 (by kernel_rfl)) ?_
  refine TO.loud rfl (l_alloc inf86 rfl (fun bx3 => ?_))
  refine TO.loud rfl (l_store_box (v := (.agg #[(.int .i64 a.start), (.int .i64 b.start)])) (vs := [(.int .i64 a.start), (.int .i64 b.start)]) 0 inf86 rfl rfl rfl rfl rfl rfl (by simp [putL]) ?_)
  refine TO.nil ?_
  refine T.cut (fun ρ O => ∃ (bp qb m : Nat), O = [oI bp 90 [(.int .i64 a.vars), (.int .i64 a.start), (.slice j.nb a.next.length j.nc), (.slice j.fb a.final.length j.fc), (.int .i64 b.vars), (.int .i64 b.start), (.slice k.nb b.next.length k.nc), (.slice k.fb b.final.length k.fc), (.slice (some ⟨qb, 0, none⟩) 1 1), (.map (some m))], rowI (some ⟨qb, 0, none⟩) 1 86 2 [(.int .i64 a.start), (.int .i64 b.start)], mapI pairV (fun n : Nat => Value.int .i64 (n : Int)) m [((a.start, b.start), (0 : Nat))]] ∧ Heads [(0, (dV a j)), (1, (dV b k)), (2, (.pointer (some ⟨bx1, 0, none⟩))), (3, (.pointer (some ⟨bx2, 0, none⟩))), (4, (.pointer (some ⟨bp, 0, none⟩))), (5, .int .i64 0), (6, .int .i64 ((0 : Nat) : Int)), (7, .int .i64 ((0 : Nat) : Int)), (8, (.pointer (some ⟨bx3, 0, none⟩)))] ρ) ?_ ?_
  · refine T.tree [oI bx3 86 [(.int .i64 a.start), (.int .i64 b.start)], oI bx2 25 (dC b k), oI bx1 25 (dC a j)] 12 mixed rfl (by exact Sub.rf) (fun _ _ _ h => h) ?_
    refine RO.quietT 0 rfl (by kernel_rfl) (q_load_boxAgg 2 Tryd.underlying25 rfl inf25 rfl rfl rfl) ?_
    refine RO.quietT 1 rfl (by kernel_rfl) (q_load_boxAgg 1 Tryd.underlying25 rfl inf25 rfl rfl rfl) ?_
    refine RO.quietT 2 rfl (by kernel_rfl) (q_load_boxAgg 0 Tryd.underlying86 rfl inf86 rfl rfl rfl) ?_
    refine RO.quietT 5 rfl (by kernel_rfl) (q_load_boxAgg 0 Tryd.underlying86 rfl inf86 rfl rfl rfl) ?_
    refine RO.fork [3, 4] (by kernel_rfl) rfl ⟨⟨_, rfl, rfl, l_buildSlice (m := 1) (parts := [(0, _)]) (cs := [(.int .i64 a.start), (.int .i64 b.start)]) Tryd.underlying87 inf86 (by decide) (by kernel_rfl) rfl (fun qb => ⟨by exact Sub.d (.k (.k (.k .z))), ?_⟩)⟩, ⟨_, rfl, rfl, l_makeMap pairV (fun n : Nat => Value.int .i64 (n : Int)) (fun m => ⟨by exact Sub.d (.k (.k (.k .z))), ?_⟩)⟩, trivial⟩
    · refine RO.fork [4] (by kernel_rfl) rfl ⟨⟨_, rfl, rfl, l_makeMap pairV (fun n : Nat => Value.int .i64 (n : Int)) (fun m => ⟨by exact Sub.d (.d (.k (.k (.k .z)))), ?_⟩)⟩, trivial⟩
      refine RO.fork [6] (by kernel_rfl) rfl ⟨⟨_, rfl, rfl, l_mapInsert (a := (a.start, b.start)) (v := (0 : Nat)) 0 Tryd.underlying88 (KeyOk.pair pairT) rfl rfl rfl rfl (by simp) ⟨by exact Sub.d (.d (.k (.k (.k .z)))), ?_⟩⟩, trivial⟩
      refine RO.quietT 7 rfl (by kernel_rfl) (q_move rfl) ?_
      refine RO.quietT 8 rfl (by kernel_rfl) (q_build (cs := [(.int .i64 a.vars), (.int .i64 a.start), (.slice j.nb a.next.length j.nc), (.slice j.fb a.final.length j.fc), (.int .i64 b.vars), (.int .i64 b.start), (.slice k.nb b.next.length k.nc), (.slice k.fb b.final.length k.fc), (.slice (some ⟨qb, 0, none⟩) 1 1), (.map (some m))]) plan90 inf90 (by kernel_rfl)) ?_
      refine RO.fork [9] (by kernel_rfl) rfl ⟨⟨_, rfl, rfl, l_box (v := (.agg #[(.int .i64 a.vars), (.int .i64 a.start), (.slice j.nb a.next.length j.nc), (.slice j.fb a.final.length j.fc), (.int .i64 b.vars), (.int .i64 b.start), (.slice k.nb b.next.length k.nc), (.slice k.fb b.final.length k.fc), (.slice (some ⟨qb, 0, none⟩) 1 1), (.map (some m))])) (cs := [(.int .i64 a.vars), (.int .i64 a.start), (.slice j.nb a.next.length j.nc), (.slice j.fb a.final.length j.fc), (.int .i64 b.vars), (.int .i64 b.start), (.slice k.nb b.next.length k.nc), (.slice k.fb b.final.length k.fc), (.slice (some ⟨qb, 0, none⟩) 1 1), (.map (some m))]) rfl rfl (fun bp => ⟨by exact Sub.d (.d (.d (.k (.k (.k .z))))), ?_⟩)⟩, trivial⟩
      refine RO.quietT 10 rfl (by kernel_rfl) (q_assign rfl) ?_
      refine RO.quietT 11 rfl (by kernel_rfl) (q_assign rfl) ?_
      exact RO.fin (by kernel_rfl) ⟨bp, qb, m, rfl, ⟨rfl, rfl, rfl, rfl, rfl, rfl, rfl, rfl, rfl, trivial⟩⟩ (by exact Sub.k (.pull [mapI pairV (fun n : Nat => Value.int .i64 (n : Int)) m [((a.start, b.start), (0 : Nat))]] _ (.k .z)))
    refine RO.fork [3, 6] (by kernel_rfl) rfl ⟨⟨_, rfl, rfl, l_buildSlice (m := 1) (parts := [(0, _)]) (cs := [(.int .i64 a.start), (.int .i64 b.start)]) Tryd.underlying87 inf86 (by decide) (by kernel_rfl) rfl (fun qb => ⟨by exact Sub.d (.d (.k (.k (.k .z)))), ?_⟩)⟩, ⟨_, rfl, rfl, l_mapInsert (a := (a.start, b.start)) (v := (0 : Nat)) 0 Tryd.underlying88 (KeyOk.pair pairT) rfl rfl rfl rfl (by simp) ⟨by exact Sub.d (.k (.k (.k .z))), ?_⟩⟩, trivial⟩
    · refine RO.fork [6] (by kernel_rfl) rfl ⟨⟨_, rfl, rfl, l_mapInsert (a := (a.start, b.start)) (v := (0 : Nat)) 1 Tryd.underlying88 (KeyOk.pair pairT) rfl rfl rfl rfl (by simp) ⟨by exact Sub.d (.d (.k (.k (.k .z)))), ?_⟩⟩, trivial⟩
      refine RO.quietT 7 rfl (by kernel_rfl) (q_move rfl) ?_
      refine RO.quietT 8 rfl (by kernel_rfl) (q_build (cs := [(.int .i64 a.vars), (.int .i64 a.start), (.slice j.nb a.next.length j.nc), (.slice j.fb a.final.length j.fc), (.int .i64 b.vars), (.int .i64 b.start), (.slice k.nb b.next.length k.nc), (.slice k.fb b.final.length k.fc), (.slice (some ⟨qb, 0, none⟩) 1 1), (.map (some m))]) plan90 inf90 (by kernel_rfl)) ?_
      refine RO.fork [9] (by kernel_rfl) rfl ⟨⟨_, rfl, rfl, l_box (v := (.agg #[(.int .i64 a.vars), (.int .i64 a.start), (.slice j.nb a.next.length j.nc), (.slice j.fb a.final.length j.fc), (.int .i64 b.vars), (.int .i64 b.start), (.slice k.nb b.next.length k.nc), (.slice k.fb b.final.length k.fc), (.slice (some ⟨qb, 0, none⟩) 1 1), (.map (some m))])) (cs := [(.int .i64 a.vars), (.int .i64 a.start), (.slice j.nb a.next.length j.nc), (.slice j.fb a.final.length j.fc), (.int .i64 b.vars), (.int .i64 b.start), (.slice k.nb b.next.length k.nc), (.slice k.fb b.final.length k.fc), (.slice (some ⟨qb, 0, none⟩) 1 1), (.map (some m))]) rfl rfl (fun bp => ⟨by exact Sub.d (.d (.d (.k (.k (.k .z))))), ?_⟩)⟩, trivial⟩
      refine RO.quietT 10 rfl (by kernel_rfl) (q_assign rfl) ?_
      refine RO.quietT 11 rfl (by kernel_rfl) (q_assign rfl) ?_
      exact RO.fin (by kernel_rfl) ⟨bp, qb, m, rfl, ⟨rfl, rfl, rfl, rfl, rfl, rfl, rfl, rfl, rfl, trivial⟩⟩ (by exact Sub.k (.k (.k .z)))
    refine RO.quietT 7 rfl (by kernel_rfl) (q_move rfl) ?_
    refine RO.fork [3] (by kernel_rfl) rfl ⟨⟨_, rfl, rfl, l_buildSlice (m := 1) (parts := [(0, _)]) (cs := [(.int .i64 a.start), (.int .i64 b.start)]) Tryd.underlying87 inf86 (by decide) (by kernel_rfl) rfl (fun qb => ⟨by exact Sub.d (.d (.k (.k (.k .z)))), ?_⟩)⟩, trivial⟩
    refine RO.quietT 8 rfl (by kernel_rfl) (q_build (cs := [(.int .i64 a.vars), (.int .i64 a.start), (.slice j.nb a.next.length j.nc), (.slice j.fb a.final.length j.fc), (.int .i64 b.vars), (.int .i64 b.start), (.slice k.nb b.next.length k.nc), (.slice k.fb b.final.length k.fc), (.slice (some ⟨qb, 0, none⟩) 1 1), (.map (some m))]) plan90 inf90 (by kernel_rfl)) ?_
    refine RO.fork [9] (by kernel_rfl) rfl ⟨⟨_, rfl, rfl, l_box (v := (.agg #[(.int .i64 a.vars), (.int .i64 a.start), (.slice j.nb a.next.length j.nc), (.slice j.fb a.final.length j.fc), (.int .i64 b.vars), (.int .i64 b.start), (.slice k.nb b.next.length k.nc), (.slice k.fb b.final.length k.fc), (.slice (some ⟨qb, 0, none⟩) 1 1), (.map (some m))])) (cs := [(.int .i64 a.vars), (.int .i64 a.start), (.slice j.nb a.next.length j.nc), (.slice j.fb a.final.length j.fc), (.int .i64 b.vars), (.int .i64 b.start), (.slice k.nb b.next.length k.nc), (.slice k.fb b.final.length k.fc), (.slice (some ⟨qb, 0, none⟩) 1 1), (.map (some m))]) rfl rfl (fun bp => ⟨by exact Sub.d (.d (.d (.k (.k (.k .z))))), ?_⟩)⟩, trivial⟩
    refine RO.quietT 10 rfl (by kernel_rfl) (q_assign rfl) ?_
    refine RO.quietT 11 rfl (by kernel_rfl) (q_assign rfl) ?_
    exact RO.fin (by kernel_rfl) ⟨bp, qb, m, rfl, ⟨rfl, rfl, rfl, rfl, rfl, rfl, rfl, rfl, rfl, trivial⟩⟩ (by exact Sub.k (.k (.k .z)))
  rintro ρ O ⟨bp, qb, m, rfl, hH⟩
  obtain ⟨ρ0, rfl⟩ := hH.elim
  clear hH
  refine T.ret (Res.drop ?_)
  refine Res.two (.pointer (some ⟨bp, 0, none⟩)) (.int .i64 0) Tryd.results69 rfl rfl ?_
  have e1 : prs b.next.length [a.start.toNat * b.next.length + b.start.toNat] = [.int .i64 a.start, .int .i64 b.start] := by
    simp only [prs, List.flatMap_cons, List.flatMap_nil, List.append_nil, unC, hpd.1, hpd.2, ← hs1, ← hs2]
  have e2 : pmap b.next.length [a.start.toNat * b.next.length + b.start.toNat] = [((a.start, b.start), 0)] := by
    show [(un _ _, 0)] = _
    simp only [un, hpd.1, hpd.2, ← hs1, ← hs2]
  exact ⟨[oI bp 90 [(.int .i64 a.vars), (.int .i64 a.start), (.slice j.nb a.next.length j.nc), (.slice j.fb a.final.length j.fc), (.int .i64 b.vars), (.int .i64 b.start), (.slice k.nb b.next.length k.nc), (.slice k.fb b.final.length k.fc), (.slice (some ⟨qb, 0, none⟩) 1 1), (.map (some m))], rowI (some ⟨qb, 0, none⟩) 1 86 2 [(.int .i64 a.start), (.int .i64 b.start)], mapI pairV (fun n : Nat => Value.int .i64 (n : Int)) m [((a.start, b.start), (0 : Nat))]], (by exact Sub.rf), bp, qb, m, rfl, by rw [e1, e2]; rfl⟩
set_option maxHeartbeats 1000000 in
set_option maxRecDepth 20000 in
theorem pairsF (w : World) (bp : Nat) : PureT Tryd.prog 70 [.pointer (some ⟨bp, 0, none⟩)] w fun v N => ∃ b, v = .func (.func 87) #[] #[.pointer (some ⟨b, 0, none⟩)] ∧ N = [oI b 79 [(.pointer (some ⟨bp, 0, none⟩))]] := by
  refine CallT.enter Tryd.func70 rfl Tryd.ntmps70 rfl ?_
  refine T.seq (T.region ?_)
  refine TO.loud rfl (l_box (v := (.pointer (some ⟨bp, 0, none⟩))) (cs := [(.pointer (some ⟨bp, 0, none⟩))]) rfl rfl (fun bx1 => ?_))
  refine TO.quiet (q_assign rfl) ?_
  refine TO.nil (T.seq (T.region ?_))
  refine TO.quiet (q_makeFunc) (TO.quiet (q_assign rfl) ?_)
  refine TO.nil (T.ret ?_)
  refine Res.one (.func (.func 87) #[] #[(.pointer (some ⟨bx1, 0, none⟩))]) Tryd.results70 rfl ?_
  exact ⟨bx1, rfl, rfl⟩
set_option maxHeartbeats 1000000 in
set_option maxRecDepth 20000 in
theorem pvHit (base : World) (a b : DFA) (j k : DK) (bp m : Nat) (ks : List Nat) (c : Nat) (qb : Option Addr) (qc : Nat) (hk : c ∈ ks) (hl : ks.length ≤ 17000000) :
    CallT Tryd.prog base 88 [.pointer (some ⟨bp, 0, none⟩), (.agg #[.int .i64 ((c / b.next.length : Nat) : Int), .int .i64 ((c % b.next.length : Nat) : Int)])] [oI bp 90 [(.int .i64 a.vars), (.int .i64 a.start), (.slice j.nb a.next.length j.nc), (.slice j.fb a.final.length j.fc), (.int .i64 b.vars), (.int .i64 b.start), (.slice k.nb b.next.length k.nc), (.slice k.fb b.final.length k.fc), (.slice qb ks.length qc), (.map (some m))], rowI qb qc 86 2 (prs b.next.length ks), mapI pairV (fun n : Nat => Value.int .i64 (n : Int)) m (pmap b.next.length ks)] (fun v O' => v = .int .i64 ((ix c (add ks c) : Nat) : Int) ∧ ∃ qb' qc', O' = [oI bp 90 [(.int .i64 a.vars), (.int .i64 a.start), (.slice j.nb a.next.length j.nc), (.slice j.fb a.final.length j.fc), (.int .i64 b.vars), (.int .i64 b.start), (.slice k.nb b.next.length k.nc), (.slice k.fb b.final.length k.fc), (.slice qb' ((add ks c).length) qc'), (.map (some m))], rowI qb' qc' 86 2 (prs b.next.length (add ks c)), mapI pairV (fun n : Nat => Value.int .i64 (n : Int)) m (pmap b.next.length (add ks c))]) := by
  refine CallT.enter Tryd.func88 rfl Tryd.ntmps88 rfl ?_
  refine T.seq (T.region ?_)
  refine TO.loud rfl (l_box (v := (.agg #[.int .i64 ((c / b.next.length : Nat) : Int), .int .i64 ((c % b.next.length : Nat) : Int)])) (cs := [.int .i64 ((c / b.next.length : Nat) : Int), .int .i64 ((c % b.next.length : Nat) : Int)]) rfl rfl (fun bx1 => ?_))
  refine TO.quiet (q_assign rfl) ?_
  refine TO.nil (T.seq ?_)
  refine T.draws [oI bx1 86 [.int .i64 ((c / b.next.length : Nat) : Int), .int .i64 ((c % b.next.length : Nat) : Int)], oI bp 90 [(.int .i64 a.vars), (.int .i64 a.start), (.slice j.nb a.next.length j.nc), (.slice j.fb a.final.length j.fc), (.int .i64 b.vars), (.int .i64 b.start), (.slice k.nb b.next.length k.nc), (.slice k.fb b.final.length k.fc), (.slice qb ks.length qc), (.map (some m))], rowI qb qc 86 2 (prs b.next.length ks), mapI pairV (fun n : Nat => Value.int .i64 (n : Int)) m (pmap b.next.length ks)] [(0, 0), (1, 0), (2, 0), (3, 0), (4, 0), (5, 0), (6, 0), (7, 0), (8, 0), (9, 0), (10, 0)] mixed (by kernel_rfl) (by exact Sub.rf) (fun _ _ _ h => h) ?_
  refine DO.quiet rfl (q_move rfl) (DO.quiet rfl (q_nilCheck rfl) (DO.quiet rfl (q_fieldAddr Tryd.underlying90 rfl inf88 rfl rfl) (DO.quiet rfl (q_load_box 1 Tryd.underlying88 rfl rfl rfl rfl) ?_)))
  refine DO.quiet rfl (q_load_boxAgg 0 Tryd.underlying86 rfl inf86 rfl rfl rfl) (DO.quiet rfl (QT.cast (q_lookupOk (a := un b.next.length c) Tryd.underlying88 inf3 (KeyOk.pair pairT) rfl rfl (List.mem_of_getElem? (i := 3) rfl)) (v' := (.tuple #[.int .i64 ((ix c ks : Nat) : Int), .bool true])) (by rw [look_zip]; simp only [un_mem, hk, if_true, if_false, un_ix, Nat.zero_add]; rfl)) (DO.quiet rfl (q_move rfl) (DO.quiet rfl (q_extract (vs := _) rfl rfl) ?_)))
  refine DO.quiet rfl (q_extract (vs := _) rfl rfl) (DO.quiet rfl (q_assign rfl) (DO.quiet rfl (q_assign rfl) ?_))
  refine DO.done ?_
  refine T.seq (T.seq (T.region ?_))
  refine TO.quiet (q_move rfl) (TO.quiet (q_not rfl) ?_)
  refine TO.nil ?_
  refine T.cond0 rfl ?_
  refine T.skip (T.seq (T.region ?_))
  refine TO.quiet (q_move rfl) (TO.quiet (q_assign rfl) ?_)
  refine TO.nil (T.ret (Res.drop ?_))
  refine Res.one (.int .i64 ((ix c ks : Nat) : Int)) Tryd.results88 rfl ?_
  have ha : add ks c = ks := if_pos hk
  rw [ha]
  exact ⟨[oI bp 90 [(.int .i64 a.vars), (.int .i64 a.start), (.slice j.nb a.next.length j.nc), (.slice j.fb a.final.length j.fc), (.int .i64 b.vars), (.int .i64 b.start), (.slice k.nb b.next.length k.nc), (.slice k.fb b.final.length k.fc), (.slice qb ks.length qc), (.map (some m))], rowI qb qc 86 2 (prs b.next.length ks), mapI pairV (fun n : Nat => Value.int .i64 (n : Int)) m (pmap b.next.length ks)], (by exact Sub.d (.k (.k (.k .z)))), rfl, qb, qc, rfl⟩
set_option maxHeartbeats 1000000 in
set_option maxRecDepth 20000 in
theorem pvNew (base : World) (a b : DFA) (j k : DK) (bp m : Nat) (ks : List Nat) (c : Nat) (qb : Option Addr) (qc : Nat) (hk : c ∉ ks) (hl : ks.length ≤ 17000000) :
    CallT Tryd.prog base 88 [.pointer (some ⟨bp, 0, none⟩), (.agg #[.int .i64 ((c / b.next.length : Nat) : Int), .int .i64 ((c % b.next.length : Nat) : Int)])] [oI bp 90 [(.int .i64 a.vars), (.int .i64 a.start), (.slice j.nb a.next.length j.nc), (.slice j.fb a.final.length j.fc), (.int .i64 b.vars), (.int .i64 b.start), (.slice k.nb b.next.length k.nc), (.slice k.fb b.final.length k.fc), (.slice qb ks.length qc), (.map (some m))], rowI qb qc 86 2 (prs b.next.length ks), mapI pairV (fun n : Nat => Value.int .i64 (n : Int)) m (pmap b.next.length ks)] (fun v O' => v = .int .i64 ((ix c (add ks c) : Nat) : Int) ∧ ∃ qb' qc', O' = [oI bp 90 [(.int .i64 a.vars), (.int .i64 a.start), (.slice j.nb a.next.length j.nc), (.slice j.fb a.final.length j.fc), (.int .i64 b.vars), (.int .i64 b.start), (.slice k.nb b.next.length k.nc), (.slice k.fb b.final.length k.fc), (.slice qb' ((add ks c).length) qc'), (.map (some m))], rowI qb' qc' 86 2 (prs b.next.length (add ks c)), mapI pairV (fun n : Nat => Value.int .i64 (n : Int)) m (pmap b.next.length (add ks c))]) := by
  refine CallT.enter Tryd.func88 rfl Tryd.ntmps88 rfl ?_
  refine T.seq (T.region ?_)
  refine TO.loud rfl (l_box (v := (.agg #[.int .i64 ((c / b.next.length : Nat) : Int), .int .i64 ((c % b.next.length : Nat) : Int)])) (cs := [.int .i64 ((c / b.next.length : Nat) : Int), .int .i64 ((c % b.next.length : Nat) : Int)]) rfl rfl (fun bx1 => ?_))
  refine TO.quiet (q_assign rfl) ?_
  refine TO.nil (T.seq ?_)
  refine T.draws [oI bx1 86 [.int .i64 ((c / b.next.length : Nat) : Int), .int .i64 ((c % b.next.length : Nat) : Int)], oI bp 90 [(.int .i64 a.vars), (.int .i64 a.start), (.slice j.nb a.next.length j.nc), (.slice j.fb a.final.length j.fc), (.int .i64 b.vars), (.int .i64 b.start), (.slice k.nb b.next.length k.nc), (.slice k.fb b.final.length k.fc), (.slice qb ks.length qc), (.map (some m))], rowI qb qc 86 2 (prs b.next.length ks), mapI pairV (fun n : Nat => Value.int .i64 (n : Int)) m (pmap b.next.length ks)] [(0, 0), (1, 0), (2, 0), (3, 0), (4, 0), (5, 0), (6, 0), (7, 0), (8, 0), (9, 0), (10, 0)] mixed (by kernel_rfl) (by exact Sub.rf) (fun _ _ _ h => h) ?_
  refine DO.quiet rfl (q_move rfl) (DO.quiet rfl (q_nilCheck rfl) (DO.quiet rfl (q_fieldAddr Tryd.underlying90 rfl inf88 rfl rfl) (DO.quiet rfl (q_load_box 1 Tryd.underlying88 rfl rfl rfl rfl) ?_)))
  refine DO.quiet rfl (q_load_boxAgg 0 Tryd.underlying86 rfl inf86 rfl rfl rfl) (DO.quiet rfl (QT.cast (q_lookupOk (a := un b.next.length c) Tryd.underlying88 inf3 (KeyOk.pair pairT) rfl rfl (List.mem_of_getElem? (i := 3) rfl)) (v' := (.tuple #[.int .i64 0, .bool false])) (by rw [look_zip]; simp only [un_mem, hk, if_true, if_false, un_ix, Nat.zero_add]; rfl)) (DO.quiet rfl (q_move rfl) (DO.quiet rfl (q_extract (vs := _) rfl rfl) ?_)))
  refine DO.quiet rfl (q_extract (vs := _) rfl rfl) (DO.quiet rfl (q_assign rfl) (DO.quiet rfl (q_assign rfl) ?_))
  refine DO.done ?_
  refine T.seq (T.seq (T.region ?_))
  refine TO.quiet (q_move rfl) (TO.quiet (q_not rfl) ?_)
  refine TO.nil ?_
  refine T.cond1 rfl ?_
  refine T.seq (T.region ?_)
  refine TO.quiet (q_move rfl) (TO.quiet (q_nilCheck rfl) (TO.quiet (q_fieldAddr Tryd.underlying90 rfl inf87 rfl rfl) (TO.quiet (q_load_box 1 Tryd.underlying87 rfl rfl rfl rfl) ?_)))
  refine TO.quiet (q_len Tryd.underlying87 rfl) (TO.quiet (q_assign rfl) ?_)
  refine TO.nil (T.seq ?_)
  refine T.draws [oI bx1 86 [.int .i64 ((c / b.next.length : Nat) : Int), .int .i64 ((c % b.next.length : Nat) : Int)], oI bp 90 [(.int .i64 a.vars), (.int .i64 a.start), (.slice j.nb a.next.length j.nc), (.slice j.fb a.final.length j.fc), (.int .i64 b.vars), (.int .i64 b.start), (.slice k.nb b.next.length k.nc), (.slice k.fb b.final.length k.fc), (.slice qb ks.length qc), (.map (some m))], rowI qb qc 86 2 (prs b.next.length ks), mapI pairV (fun n : Nat => Value.int .i64 (n : Int)) m (pmap b.next.length ks)] [(0, 0), (1, 0), (2, 0), (3, 0), (4, 0), (5, 0), (6, 2)] mixed (by kernel_rfl) (by exact Sub.rf) (fun _ _ _ h => h) ?_
  refine DO.quiet rfl (q_move rfl) (DO.quiet rfl (q_nilCheck rfl) (DO.quiet rfl (q_fieldAddr Tryd.underlying90 rfl inf88 rfl rfl) (DO.quiet rfl (q_load_box 1 Tryd.underlying88 rfl rfl rfl rfl) ?_)))
  refine DO.quiet rfl (q_load_boxAgg 0 Tryd.underlying86 rfl inf86 rfl rfl rfl) (DO.quiet rfl (q_move rfl) ?_)
  refine DO.last rfl rfl (l_mapPut (a := un b.next.length c) (v := ks.length) 3 Tryd.underlying88 (KeyOk.pair pairT) rfl rfl rfl rfl (by rw [pmap_fst, un_mem]; exact hk) ?_)
  refine DO.done ?_
  refine T.draws [oI bx1 86 [.int .i64 ((c / b.next.length : Nat) : Int), .int .i64 ((c % b.next.length : Nat) : Int)], oI bp 90 [(.int .i64 a.vars), (.int .i64 a.start), (.slice j.nb a.next.length j.nc), (.slice j.fb a.final.length j.fc), (.int .i64 b.vars), (.int .i64 b.start), (.slice k.nb b.next.length k.nc), (.slice k.fb b.final.length k.fc), (.slice qb ks.length qc), (.map (some m))], mapI pairV (fun n : Nat => Value.int .i64 (n : Int)) m ((pmap b.next.length ks) ++ [(un b.next.length c, ks.length)])] [(0, 0), (1, 0), (2, 0), (3, 0), (4, 0), (5, 0), (6, 1), (7, 1), (8, 0), (9, 0), (10, 2)] mixed (by kernel_rfl) (by exact Sub.k (.k (.d (.k .z)))) (fun _ _ _ h => h) ?_
  refine DO.quiet rfl (q_move rfl) (DO.quiet rfl (q_move rfl) (DO.quiet rfl (q_nilCheck rfl) (DO.quiet rfl (q_fieldAddr Tryd.underlying90 rfl inf87 rfl rfl) ?_)))
  refine DO.quiet rfl (q_load_box 1 Tryd.underlying87 rfl rfl rfl rfl) (DO.quiet rfl (q_load_boxAgg 0 Tryd.underlying86 rfl inf86 rfl rfl rfl) ?_)
  refine DO.loud rfl rfl (l_buildSlice (m := 1) (parts := [(0, _)]) (cs := [.int .i64 ((c / b.next.length : Nat) : Int), .int .i64 ((c % b.next.length : Nat) : Int)]) Tryd.underlying87 inf86 (by decide) (by kernel_rfl) rfl (fun bx2 => ⟨by exact Sub.d (.k (.k (.d (.k .z)))), ?_⟩))
  refine DO.loud rfl rfl (l_append 3 Tryd.underlying87 Tryd.underlying87 inf86 rfl rfl rfl rfl (by rw [prs_len]) (by decide) (Src.row (j := 0) rfl (by simp)) (by simp [oneB]) (by omega) (by decide) (by decide) (fun bx3 c4 => ⟨by exact Sub.d (.k (.k (.d (.k .z)))), ?_⟩))
  refine DO.quiet rfl (q_nilCheck rfl) (DO.quiet rfl (q_fieldAddr Tryd.underlying90 rfl inf87 rfl rfl) ?_)
  refine DO.last rfl rfl (l_store_box (v := (.slice bx3 (ks.length + 1) c4)) (vs := [(.slice bx3 (ks.length + 1) c4)]) 2 inf87 rfl rfl rfl rfl rfl rfl (by simp [putL]) ?_)
  refine DO.done ?_
  refine T.seq (T.region ?_)
  refine TO.quiet (q_move rfl) (TO.quiet (q_assign rfl) ?_)
  refine TO.nil (T.ret (Res.drop ?_))
  refine Res.one (.int .i64 (ks.length : Int)) Tryd.results88 rfl ?_
  have ha : add ks c = ks ++ [c] := if_neg hk
  rw [ha]
  exact ⟨[oI bp 90 [(.int .i64 a.vars), (.int .i64 a.start), (.slice j.nb a.next.length j.nc), (.slice j.fb a.final.length j.fc), (.int .i64 b.vars), (.int .i64 b.start), (.slice k.nb b.next.length k.nc), (.slice k.fb b.final.length k.fc), (.slice bx3 (ks.length + 1) c4), (.map (some m))], rowI bx3 c4 86 2 ((prs b.next.length ks) ++ [.int .i64 ((c / b.next.length : Nat) : Int), .int .i64 ((c % b.next.length : Nat) : Int)]), mapI pairV (fun n : Nat => Value.int .i64 (n : Int)) m ((pmap b.next.length ks) ++ [(un b.next.length c, ks.length)])], (by exact Sub.d (.d (.k (.k (.k .z))))), by rw [ix_append_right hk]; simp [ix], _, _, by rw [prs_snoc, pmap_snoc, List.length_append]; rfl⟩
theorem pvC (base : World) (a b : DFA) (j k : DK) (bp m : Nat) (ks : List Nat) (c : Nat) (qb : Option Addr) (qc : Nat) (hl : ks.length ≤ 17000000) :
    CallT Tryd.prog base 88 [.pointer (some ⟨bp, 0, none⟩), (.agg #[.int .i64 ((c / b.next.length : Nat) : Int), .int .i64 ((c % b.next.length : Nat) : Int)])] [objI bp (.cells (List.toArray [(.int .i64 a.vars), (.int .i64 a.start), (.slice j.nb a.next.length j.nc), (.slice j.fb a.final.length j.fc), (.int .i64 b.vars), (.int .i64 b.start), (.slice k.nb b.next.length k.nc), (.slice k.fb b.final.length k.fc), (.slice qb ks.length qc), (.map (some m))]) 90 (0, 0)), rowI qb qc 86 2 (prs b.next.length ks), mapI pairV (fun n : Nat => Value.int .i64 (n : Int)) m (pmap b.next.length ks)] (fun v O' => v = .int .i64 ((ix c (add ks c) : Nat) : Int) ∧ ∃ qb' qc', O' = [objI bp (.cells (List.toArray [(.int .i64 a.vars), (.int .i64 a.start), (.slice j.nb a.next.length j.nc), (.slice j.fb a.final.length j.fc), (.int .i64 b.vars), (.int .i64 b.start), (.slice k.nb b.next.length k.nc), (.slice k.fb b.final.length k.fc), (.slice qb' ((add ks c).length) qc'), (.map (some m))]) 90 (0, 0)), rowI qb' qc' 86 2 (prs b.next.length (add ks c)), mapI pairV (fun n : Nat => Value.int .i64 (n : Int)) m (pmap b.next.length (add ks c))]) := by
  by_cases hk : c ∈ ks
  · exact pvHit base a b j k bp m ks c qb qc hk hl
  · exact pvNew base a b j k bp m ks c qb qc hk hl
end Go.Proofs.YtdaapdamcekkgaaDoor


namespace Go.Proofs.YtdaapdamcekkgaaDoor
open Go.Lx Go.RowKit
set_option linter.unusedVariables false
set_option linter.unusedSimpArgs false
theorem pvS (base : World) (f : Bool → Bool → Bool) (a b : DFA) (j k : DK) (bp m i o x : Nat) (qb : Option Addr) (qc : Nat) (va : Valid a) (vb : Valid b) (hv : a.vars = b.vars) (hq : (bfsN (prodD f a b) i)[i]? = some o) (hx : x < 2 ^ a.vars.toNat) :
    CallT Tryd.prog base 88 [.pointer (some ⟨bp, 0, none⟩), (.agg #[.int .i64 (((toN (prodD f a b) o x) / b.next.length : Nat) : Int), .int .i64 (((toN (prodD f a b) o x) % b.next.length : Nat) : Int)])] [objI bp (.cells (List.toArray [(.int .i64 a.vars), (.int .i64 a.start), (.slice j.nb a.next.length j.nc), (.slice j.fb a.final.length j.fc), (.int .i64 b.vars), (.int .i64 b.start), (.slice k.nb b.next.length k.nc), (.slice k.fb b.final.length k.fc), (.slice qb ((bfsM (prodD f a b) i o x).length) qc), (.map (some m))]) 90 (0, 0)), rowI qb qc 86 2 (prs b.next.length (bfsM (prodD f a b) i o x)), mapI pairV (fun n : Nat => Value.int .i64 (n : Int)) m (pmap b.next.length (bfsM (prodD f a b) i o x))] (fun v O' => v = .int .i64 ((ix (toN (prodD f a b) o x) (order (prodD f a b)) : Nat) : Int) ∧ ∃ qb' qc', O' = [objI bp (.cells (List.toArray [(.int .i64 a.vars), (.int .i64 a.start), (.slice j.nb a.next.length j.nc), (.slice j.fb a.final.length j.fc), (.int .i64 b.vars), (.int .i64 b.start), (.slice k.nb b.next.length k.nc), (.slice k.fb b.final.length k.fc), (.slice qb' ((bfsM (prodD f a b) i o (x + 1)).length) qc'), (.map (some m))]) 90 (0, 0)), rowI qb' qc' 86 2 (prs b.next.length (bfsM (prodD f a b) i o (x + 1))), mapI pairV (fun n : Nat => Value.int .i64 (n : Int)) m (pmap b.next.length (bfsM (prodD f a b) i o (x + 1)))]) := by
  have ho := (pr_bfs_ok (f := f) va vb hv i).2 o (List.mem_of_getElem? hq)
  have hil := (List.getElem?_eq_some_iff.1 hq).1
  have hbl := pr_bfs_len (f := f) va vb hv i
  have hml := pr_bfsM_len (f := f) va vb hv (i := i) ho (Nat.le_of_lt hx)
  have h4 : a.next.length * b.next.length ≤ 4096 * 4096 := Nat.mul_le_mul va.n4 vb.n4
  rw [bfsM_step]
  refine (pvC base a b j k bp m (bfsM (prodD f a b) i o x) (toN (prodD f a b) o x) qb qc (by omega)).mono ?_
  rintro v O' ⟨rfl, h⟩
  refine ⟨?_, h⟩
  rw [← bfsM_step, visit_old hq (x := x + 1) hx (by rw [prod_len]; omega) (by rw [bfsM_step]; exact mem_add.2 (.inr rfl))]
set_option maxHeartbeats 1000000 in
set_option maxRecDepth 20000 in
theorem pairs1 (base : World) (f : Bool → Bool → Bool) (a b : DFA) (j k : DK) (ha : At base a j) (hb : At base b k) (va : Valid a) (vb : Valid b) (hv : a.vars = b.vars) (L : Nat) (hL : 2 ^ a.vars.toNat = L) (bx bp m : Nat) (qb0 : Option Addr) (qc0 : Nat) (yv : Value) (J : Nat → List Lx.Item → Prop) (Q : List Lx.Item → Prop)
    (hy : ∀ (i o : Nat) (qb : Option Addr) (qc rb : Nat) (O : List Lx.Item), (bfsN (prodD f a b) i)[i]? = some o → J i O → CallV Tryd.prog base yv [(.agg #[.int .i64 ((o / b.next.length : Nat) : Int), .int .i64 ((o % b.next.length : Nat) : Int)]), .slice (some ⟨rb, 0, none⟩) L L] (O ++ [oI bp 90 [(.int .i64 a.vars), (.int .i64 a.start), (.slice j.nb a.next.length j.nc), (.slice j.fb a.final.length j.fc), (.int .i64 b.vars), (.int .i64 b.start), (.slice k.nb b.next.length k.nc), (.slice k.fb b.final.length k.fc), (.slice qb ((bfsN (prodD f a b) (i + 1)).length) qc), (.map (some m))], rowI qb qc 86 2 (prs b.next.length (bfsN (prodD f a b) (i + 1))), mapI pairV (fun n : Nat => Value.int .i64 (n : Int)) m (pmap b.next.length (bfsN (prodD f a b) (i + 1))), rowI (some ⟨rb, 0, none⟩) L 3 1 (ints (rnR (prodD f a b) o))])
      (fun v O' => (v = .bool true ∧ ∃ O2, O' = O2 ++ [oI bp 90 [(.int .i64 a.vars), (.int .i64 a.start), (.slice j.nb a.next.length j.nc), (.slice j.fb a.final.length j.fc), (.int .i64 b.vars), (.int .i64 b.start), (.slice k.nb b.next.length k.nc), (.slice k.fb b.final.length k.fc), (.slice qb ((bfsN (prodD f a b) (i + 1)).length) qc), (.map (some m))], rowI qb qc 86 2 (prs b.next.length (bfsN (prodD f a b) (i + 1))), mapI pairV (fun n : Nat => Value.int .i64 (n : Int)) m (pmap b.next.length (bfsN (prodD f a b) (i + 1)))] ∧ J (i + 1) O2) ∨ (v = .bool false ∧ Q O')))
    (O : List Lx.Item) (h0 : J 0 O) :
    CallT Tryd.prog base 87 [yv, .pointer (some ⟨bx, 0, none⟩)] ([oI bx 79 [(.pointer (some ⟨bp, 0, none⟩))], oI bp 90 [(.int .i64 a.vars), (.int .i64 a.start), (.slice j.nb a.next.length j.nc), (.slice j.fb a.final.length j.fc), (.int .i64 b.vars), (.int .i64 b.start), (.slice k.nb b.next.length k.nc), (.slice k.fb b.final.length k.fc), (.slice qb0 ((bfsN (prodD f a b) 0).length) qc0), (.map (some m))], rowI qb0 qc0 86 2 (prs b.next.length (bfsN (prodD f a b) 0)), mapI pairV (fun n : Nat => Value.int .i64 (n : Int)) m (pmap b.next.length (bfsN (prodD f a b) 0))] ++ O) (fun _ O' => (∃ N qb qc O2, O' = O2 ++ [oI bp 90 [(.int .i64 a.vars), (.int .i64 a.start), (.slice j.nb a.next.length j.nc), (.slice j.fb a.final.length j.fc), (.int .i64 b.vars), (.int .i64 b.start), (.slice k.nb b.next.length k.nc), (.slice k.fb b.final.length k.fc), (.slice qb ((bfsN (prodD f a b) N).length) qc), (.map (some m))], rowI qb qc 86 2 (prs b.next.length (bfsN (prodD f a b) N)), mapI pairV (fun n : Nat => Value.int .i64 (n : Int)) m (pmap b.next.length (bfsN (prodD f a b) N))] ∧ (bfsN (prodD f a b) N).length = N ∧ J N O2) ∨ Q O') := by
  refine CallT.enter Tryd.func87 rfl Tryd.ntmps87 rfl ?_
  have h4 : a.next.length * b.next.length ≤ 4096 * 4096 := Nat.mul_le_mul va.n4 vb.n4
  have hw : L ≤ 64 := by rw [← hL]; exact va.width
  have ha1 := ha.rows.1
  have hb1 := hb.rows.1
  refine T.seq (T.region ?_)
  refine TO.quiet (q_assign rfl) ?_
  refine TO.nil (T.block ?_)
  refine T.loop (fun (i : Nat) ρ O => ∃ (qb : Option Addr) (qc : Nat) (O1 : List Lx.Item), O = ([oI bx 79 [(.pointer (some ⟨bp, 0, none⟩))], oI bp 90 [(.int .i64 a.vars), (.int .i64 a.start), (.slice j.nb a.next.length j.nc), (.slice j.fb a.final.length j.fc), (.int .i64 b.vars), (.int .i64 b.start), (.slice k.nb b.next.length k.nc), (.slice k.fb b.final.length k.fc), (.slice qb ((bfsN (prodD f a b) i).length) qc), (.map (some m))], rowI qb qc 86 2 (prs b.next.length (bfsN (prodD f a b) i)), mapI pairV (fun n : Nat => Value.int .i64 (n : Int)) m (pmap b.next.length (bfsN (prodD f a b) i))] ++ O1) ∧ i ≤ (bfsN (prodD f a b) i).length ∧ J i O1 ∧ Heads [(0, yv), (1, (.pointer (some ⟨bx, 0, none⟩))), (3, .int .i64 ((i : Nat) : Int))] ρ) (fun i => a.next.length * b.next.length - i) 0 ?_ ?_
  · exact ⟨qb0, qc0, O, rfl, Nat.zero_le _, h0, ⟨rfl, rfl, rfl, trivial⟩⟩
  rintro i ρ O ⟨qb, qc, O1, rfl, hle, hJ, hH⟩
  obtain ⟨ρ0, rfl⟩ := hH.elim
  clear hH
  have hbl := pr_bfs_len (f := f) va vb hv i
  refine T.seq (T.seq (T.region ?_))
  refine TO.quiet (q_move rfl) (TO.quiet (q_load_box 0 Tryd.underlying79 rfl rfl rfl rfl) (TO.quiet (q_nilCheck rfl) (TO.quiet (q_fieldAddr Tryd.underlying90 rfl inf87 rfl rfl) ?_)))
  refine TO.quiet (q_load_box 1 Tryd.underlying87 rfl rfl rfl rfl) (TO.quiet (q_len Tryd.underlying87 rfl) (TO.quiet (q_lss rfl rfl) ?_))
  refine TO.nil ?_
  refine T.condP rfl (fun hc => ?_) (fun hc => ?_)
  · have hlt13 : i < (bfsN (prodD f a b) i).length := by omega
    obtain ⟨o, hq⟩ : ∃ o, (bfsN (prodD f a b) i)[i]? = some o := ⟨_, List.getElem?_eq_getElem hlt13⟩
    have ho := (pr_bfs_ok (f := f) va vb hv i).2 o (List.mem_of_getElem? hq)
    obtain ⟨hs, ht⟩ := pr_split ho
    obtain ⟨v1, c1, g1, s1⟩ := ha.rows.get hs
    obtain ⟨v2, c2, g2, s2⟩ := hb.rows.get ht
    refine T.skip (T.seq (T.block (T.seq (T.region ?_))))
    refine TO.quiet (q_load_box 0 Tryd.underlying79 rfl rfl rfl rfl) (TO.quiet (q_nilCheck rfl) (TO.quiet (q_fieldAddr Tryd.underlying90 rfl inf87 rfl rfl) (TO.quiet (q_load_box 1 Tryd.underlying87 rfl rfl rfl rfl) ?_)))
    refine TO.quiet (q_move rfl) (TO.quiet (q_ixK (i := i) Tryd.underlying87 inf86 rfl rfl (rowO (List.mem_of_getElem? (i := 2) rfl)) hlt13 (by rw [prs_len]; omega)) (TO.quiet (q_ldK (vs := [.int .i64 ((o / b.next.length : Nat) : Int), .int .i64 ((o % b.next.length : Nat) : Int)]) Tryd.underlying86 rfl inf86 rfl rfl (Nat.succ_pos _) (rowO (List.mem_of_getElem? (i := 2) rfl)) (prs_get hq)) ?_))
    refine TO.loud rfl (l_alloc inf86 rfl (fun z1 => ?_))
    refine TO.loud rfl (l_store_box (v := (.agg #[.int .i64 ((o / b.next.length : Nat) : Int), .int .i64 ((o % b.next.length : Nat) : Int)])) (vs := [.int .i64 ((o / b.next.length : Nat) : Int), .int .i64 ((o % b.next.length : Nat) : Int)]) 0 inf86 rfl rfl rfl rfl rfl rfl (by simp [putL]) ?_)
    refine TO.nil (T.seq (T.region ?_))
    refine TO.quiet (q_load_box 1 Tryd.underlying79 rfl rfl rfl rfl) (TO.quiet (q_nilCheck rfl) (TO.quiet (q_fieldAddr Tryd.underlying90 rfl inf25 rfl rfl) (TO.quiet (q_fieldAddr Tryd.underlying25 rfl inf3 rfl rfl) ?_)))
    refine TO.quiet (q_load_box 2 Tryd.underlying3 rfl rfl rfl rfl) (TO.quiet (QT.cast (q_shl1 (v := a.vars.toNat) rfl (by show Value.int _ a.vars = _; rw [Int.toNat_of_nonneg va.v0]) (by have := va.v6; omega)) (v' := .int .i64 ((L : Nat) : Int)) (by rw [hL])) ?_)
    refine TO.loud rfl (l_makeSlice (m := L) Tryd.underlying52 inf3 rfl rfl (by omega) (by omega) (fun z2 => ?_))
    refine TO.quiet (q_assign rfl) ?_
    refine TO.nil (T.seq (T.seq (T.region ?_)))
    refine TO.quiet (q_move rfl) (TO.quiet (q_len Tryd.underlying52 rfl) (TO.quiet (q_move rfl) ?_))
    refine TO.nil (T.block ?_)
    refine T.sub (O' := ([oI bp 90 [(.int .i64 a.vars), (.int .i64 a.start), (.slice j.nb a.next.length j.nc), (.slice j.fb a.final.length j.fc), (.int .i64 b.vars), (.int .i64 b.start), (.slice k.nb b.next.length k.nc), (.slice k.fb b.final.length k.fc), (.slice qb ((bfsN (prodD f a b) i).length) qc), (.map (some m))], rowI qb qc 86 2 (prs b.next.length (bfsN (prodD f a b) i)), mapI pairV (fun n : Nat => Value.int .i64 (n : Int)) m (pmap b.next.length (bfsN (prodD f a b) i)), rowI (some ⟨z2, 0, none⟩) L 3 1 (List.replicate L (.int .i64 0)), oI z1 86 [.int .i64 ((o / b.next.length : Nat) : Int), .int .i64 ((o % b.next.length : Nat) : Int)], oI bx 79 [(.pointer (some ⟨bp, 0, none⟩))]] ++ O1)) (by exact Sub.pull [rowI (some ⟨z2, 0, none⟩) L 3 1 (List.replicate L (.int .i64 0)), oI z1 86 [.int .i64 ((o / b.next.length : Nat) : Int), .int .i64 ((o % b.next.length : Nat) : Int)], oI bx 79 [(.pointer (some ⟨bp, 0, none⟩))]] _ (.pull [rowI (some ⟨z2, 0, none⟩) L 3 1 (List.replicate L (.int .i64 0)), oI z1 86 [.int .i64 ((o / b.next.length : Nat) : Int), .int .i64 ((o % b.next.length : Nat) : Int)], oI bx 79 [(.pointer (some ⟨bp, 0, none⟩))]] _ (.pull [rowI (some ⟨z2, 0, none⟩) L 3 1 (List.replicate L (.int .i64 0)), oI z1 86 [.int .i64 ((o / b.next.length : Nat) : Int), .int .i64 ((o % b.next.length : Nat) : Int)], oI bx 79 [(.pointer (some ⟨bp, 0, none⟩))]] _ (.k (.k (.k .rf)))))) ?_
    refine T.loop (fun (x : Nat) ρ O => ∃ (qbm : Option Addr) (qcm : Nat) (ys : List Nat), O = ([oI bp 90 [(.int .i64 a.vars), (.int .i64 a.start), (.slice j.nb a.next.length j.nc), (.slice j.fb a.final.length j.fc), (.int .i64 b.vars), (.int .i64 b.start), (.slice k.nb b.next.length k.nc), (.slice k.fb b.final.length k.fc), (.slice qbm ((bfsM (prodD f a b) i o x).length) qcm), (.map (some m))], rowI qbm qcm 86 2 (prs b.next.length (bfsM (prodD f a b) i o x)), mapI pairV (fun n : Nat => Value.int .i64 (n : Int)) m (pmap b.next.length (bfsM (prodD f a b) i o x)), rowI (some ⟨z2, 0, none⟩) L 3 1 (nats ys), oI z1 86 [.int .i64 ((o / b.next.length : Nat) : Int), .int .i64 ((o % b.next.length : Nat) : Int)], oI bx 79 [(.pointer (some ⟨bp, 0, none⟩))]] ++ O1) ∧ x ≤ L ∧ ys.length = L ∧ (∀ y, y < x → ys[y]? = some (ix (toN (prodD f a b) o y) (order (prodD f a b)))) ∧ Heads [(0, yv), (1, (.pointer (some ⟨bx, 0, none⟩))), (3, .int .i64 ((i : Nat) : Int)), (4, (.pointer (some ⟨z1, 0, none⟩))), (5, (.slice (some ⟨z2, 0, none⟩) L L)), (31, .int .i64 (L : Int)), (32, .int .i64 ((x : Nat) : Int))] ρ) (fun x => L - x) 0 ?_ ?_
    · refine ⟨qb, qc, List.replicate L 0, ?_, Nat.zero_le _, by simp, fun y hy9 => absurd hy9 (by omega), ⟨rfl, rfl, rfl, rfl, rfl, rfl, rfl, trivial⟩⟩
      rw [show List.replicate L (Value.int .i64 0) = nats (List.replicate L 0) by simp]; rfl
    rintro x ρ O ⟨qbm, qcm, ys, rfl, hx, hyl, hys, hH⟩
    obtain ⟨ρ0, rfl⟩ := hH.elim
    clear hH
    refine T.seq (T.region ?_)
    refine TO.quiet (q_lss rfl rfl) ?_
    refine TO.nil (T.seq ?_)
    refine T.condP rfl (fun hc => ?_) (fun hc => ?_)
    · have hlt33 : x < L := by omega
      have hxa : x < 2 ^ a.vars.toNat := by omega
      have hxb : x < 2 ^ b.vars.toNat := by rw [← hv]; exact hxa
      obtain ⟨t1, _, x1, d1⟩ := va.toN_lt hs hxa
      obtain ⟨t2, _, x2, d2⟩ := vb.toN_lt ht hxb
      have hst := (pr_toN_lt (f := f) va vb hv ho hxa).1
      have hdm := pr_div (n := b.next.length) (s := toN a (o / b.next.length) x) t2
      rw [← hst] at hdm
      have hx1 : (ints a.next[o / b.next.length])[x]? = some (.int .i64 ((toN (prodD f a b) o x / b.next.length : Nat) : Int)) := by rw [ints_get x1, d1, hdm.1]
      have hx2 : (ints b.next[o % b.next.length])[x]? = some (.int .i64 ((toN (prodD f a b) o x % b.next.length : Nat) : Int)) := by rw [ints_get x2, d2, hdm.2]
      refine T.skip (T.seq (T.block (T.seq (T.region ?_))))
      refine TO.quiet (q_move rfl) (TO.quiet (q_assign rfl) ?_)
      refine TO.nil ?_
      refine T.draws2 [] [oI bp 90 [(.int .i64 a.vars), (.int .i64 a.start), (.slice j.nb a.next.length j.nc), (.slice j.fb a.final.length j.fc), (.int .i64 b.vars), (.int .i64 b.start), (.slice k.nb b.next.length k.nc), (.slice k.fb b.final.length k.fc), (.slice qbm ((bfsM (prodD f a b) i o x).length) qcm), (.map (some m))], oI z1 86 [.int .i64 ((o / b.next.length : Nat) : Int), .int .i64 ((o % b.next.length : Nat) : Int)], oI bx 79 [(.pointer (some ⟨bp, 0, none⟩))]] [(0, 0), (1, 0), (2, 3), (3, 3), (4, 3), (5, 3), (6, 3), (7, 3), (8, 3), (9, 3), (10, 3), (11, 3), (12, 3), (13, 3), (14, 3), (15, 3), (16, 3), (17, 3), (18, 3), (19, 3), (20, 3), (21, 3), (22, 3), (23, 3), (24, 3), (25, 3), (26, 3), (27, 3), (28, 4), (29, 2), (30, 2)] mixed (by kernel_rfl) (Sub.of (List.nil_sublist _)) (by exact Sub.k (.d (.d (.d (.k (.k .z)))))) (fun _ _ _ h => h) ?_
      refine DO.quiet rfl (q_move rfl) (DO.quiet rfl (q_move rfl) ?_)
      refine DO.quiet2 rfl (q_load_box 2 Tryd.underlying79 rfl rfl rfl rfl) ?_
      refine DO.quiet2 rfl (q_load_box 2 Tryd.underlying79 rfl rfl rfl rfl) ?_
      refine DO.quiet2 rfl (q_nilCheck rfl) ?_
      refine DO.quiet2 rfl (q_fieldAddr Tryd.underlying90 rfl inf25 rfl rfl) ?_
      refine DO.quiet2 rfl (q_fieldAddr Tryd.underlying25 rfl inf22 rfl rfl) ?_
      refine DO.quiet2 rfl (q_load_box 0 Tryd.underlying22 rfl rfl rfl rfl) ?_
      refine DO.quiet2 rfl (q_fieldAddr Tryd.underlying86 rfl inf3 rfl rfl) ?_
      refine DO.quiet2 rfl (q_load_box 1 Tryd.underlying3 rfl rfl rfl rfl) ?_
      refine DO.quiet2 rfl (q_ix (i := (o / b.next.length)) Tryd.underlying22 inf52 rfl rfl (Sl.o ha.outer) hs (by rw [ha1]; exact hs)) ?_
      refine DO.quiet2 rfl (q_ld Tryd.underlying52 rfl rfl (Sl.o ha.outer) g1) ?_
      refine DO.quiet2 rfl (q_move rfl) ?_
      refine DO.quiet2 rfl (q_ix (i := x) Tryd.underlying52 inf3 rfl rfl (Sl.o s1) x1 (by rw [List.length_map]; exact x1)) ?_
      refine DO.quiet2 rfl (q_ld Tryd.underlying3 rfl rfl (Sl.o s1) hx1) ?_
      refine DO.quiet2 rfl (q_load_box 2 Tryd.underlying79 rfl rfl rfl rfl) ?_
      refine DO.quiet2 rfl (q_nilCheck rfl) ?_
      refine DO.quiet2 rfl (q_fieldAddr Tryd.underlying90 rfl inf25 rfl rfl) ?_
      refine DO.quiet2 rfl (q_fieldAddr Tryd.underlying25 rfl inf22 rfl rfl) ?_
      refine DO.quiet2 rfl (q_load_box 0 Tryd.underlying22 rfl rfl rfl rfl) ?_
      refine DO.quiet2 rfl (q_fieldAddr Tryd.underlying86 rfl inf3 rfl rfl) ?_
      refine DO.quiet2 rfl (q_load_box 1 Tryd.underlying3 rfl rfl rfl rfl) ?_
      refine DO.quiet2 rfl (q_ix (i := (o % b.next.length)) Tryd.underlying22 inf52 rfl rfl (Sl.o hb.outer) ht (by rw [hb1]; exact ht)) ?_
      refine DO.quiet2 rfl (q_ld Tryd.underlying52 rfl rfl (Sl.o hb.outer) g2) ?_
      refine DO.quiet2 rfl (q_move rfl) ?_
      refine DO.quiet2 rfl (q_ix (i := x) Tryd.underlying52 inf3 rfl rfl (Sl.o s2) x2 (by rw [List.length_map]; exact x2)) ?_
      refine DO.quiet2 rfl (q_ld Tryd.underlying3 rfl rfl (Sl.o s2) hx2) ?_
      refine DO.quiet2 rfl (q_build (cs := [.int .i64 (((toN (prodD f a b) o x) / b.next.length : Nat) : Int), .int .i64 (((toN (prodD f a b) o x) % b.next.length : Nat) : Int)]) plan86 inf86 (by kernel_rfl)) ?_
      have hk63 := CallT.under (B := ([rowI (some ⟨z2, 0, none⟩) L 3 1 (nats ys), oI z1 86 [.int .i64 ((o / b.next.length : Nat) : Int), .int .i64 ((o % b.next.length : Nat) : Int)], oI bx 79 [(.pointer (some ⟨bp, 0, none⟩))]] ++ O1)) (O := ([oI bp 90 [(.int .i64 a.vars), (.int .i64 a.start), (.slice j.nb a.next.length j.nc), (.slice j.fb a.final.length j.fc), (.int .i64 b.vars), (.int .i64 b.start), (.slice k.nb b.next.length k.nc), (.slice k.fb b.final.length k.fc), (.slice qbm ((bfsM (prodD f a b) i o x).length) qcm), (.map (some m))], rowI qbm qcm 86 2 (prs b.next.length (bfsM (prodD f a b) i o x)), mapI pairV (fun n : Nat => Value.int .i64 (n : Int)) m (pmap b.next.length (bfsM (prodD f a b) i o x)), rowI (some ⟨z2, 0, none⟩) L 3 1 (nats ys), oI z1 86 [.int .i64 ((o / b.next.length : Nat) : Int), .int .i64 ((o % b.next.length : Nat) : Int)], oI bx 79 [(.pointer (some ⟨bp, 0, none⟩))]] ++ O1)) (pvS base f a b j k bp m i o x qbm qcm va vb hv hq (by omega)) (by exact Sub.rf)
      refine DO.last2 rfl rfl (l_call ent88 hk63 rfl ?_)
      clear hk63
      rintro vr O' ⟨A1, rfl, rfl, qb2, qc2, rfl⟩
      refine ⟨by exact Sub.z, ?_⟩
      refine DO.last rfl rfl (LT.of_quiet rfl rfl (q_ix (i := x) Tryd.underlying52 inf3 rfl rfl (rowO (List.mem_of_getElem? (i := 3) rfl))) ?_)
      refine DO.last rfl rfl (l_st (j := x) (v := .int .i64 ((ix (toN (prodD f a b) o x) (order (prodD f a b)) : Nat) : Int)) (vs := [(.int .i64 ((ix (toN (prodD f a b) o x) (order (prodD f a b)) : Nat) : Int))]) (cs := nats ys) 3 inf3 rfl rfl rfl rfl rfl (by simp) rfl (by first | (simp; omega) | (simp_all; omega)) ?_)
      refine DO.sub (O' := ([oI bp 90 [(.int .i64 a.vars), (.int .i64 a.start), (.slice j.nb a.next.length j.nc), (.slice j.fb a.final.length j.fc), (.int .i64 b.vars), (.int .i64 b.start), (.slice k.nb b.next.length k.nc), (.slice k.fb b.final.length k.fc), (.slice qb2 ((bfsM (prodD f a b) i o (x + 1)).length) qc2), (.map (some m))], rowI qb2 qc2 86 2 (prs b.next.length (bfsM (prodD f a b) i o (x + 1))), mapI pairV (fun n : Nat => Value.int .i64 (n : Int)) m (pmap b.next.length (bfsM (prodD f a b) i o (x + 1))), rowI (some ⟨z2, 0, none⟩) L 3 1 (nats (ys.set x (ix (toN (prodD f a b) o x) (order (prodD f a b))))), oI z1 86 [.int .i64 ((o / b.next.length : Nat) : Int), .int .i64 ((o % b.next.length : Nat) : Int)], oI bx 79 [(.pointer (some ⟨bp, 0, none⟩))]] ++ O1)) (by rw [show putL (nats ys) x [(.int .i64 ((ix (toN (prodD f a b) o x) (order (prodD f a b)) : Nat) : Int))] = nats (ys.set x (ix (toN (prodD f a b) o x) (order (prodD f a b)))) from by simp [putL]]; exact Sub.of (List.Sublist.refl _)) ?_
      refine DO.done ?_
      refine T.region ?_
      refine TO.quiet (q_addN (a := x) (b := 1) rfl rfl (by omega)) (TO.quiet (q_move rfl) ?_)
      refine TO.nil ?_
      refine ⟨x + 1, by omega, qb2, qc2, ys.set x (ix (toN (prodD f a b) o x) (order (prodD f a b))), rfl, by omega, by simp [hyl], fun y hy9 => ?_, ⟨rfl, rfl, rfl, rfl, rfl, rfl, rfl, trivial⟩⟩
      by_cases e : y = x
      · subst e; rw [List.getElem?_set_self (by omega)]
      · rw [List.getElem?_set_ne (fun h => e h.symm)]; exact hys y (by omega)
    have hge33 : ¬ x < L := by omega
    refine T.exit ?_
    refine T.seq ?_
    have hxe : x = L := by omega
    have e1 : bfsN (prodD f a b) (i + 1) = bfsM (prodD f a b) i o x := by rw [hxe, ← hL]; exact (bfsM_full hq).symm
    have e3 : renRow (prodD f a b) o = ys := by
      apply List.ext_getElem?
      intro y
      by_cases hy9 : y < L
      · rw [hys y (by omega)]
        have hy8 : y < 2 ^ (prodD f a b).vars.toNat := by show y < 2 ^ a.vars.toNat; omega
        unfold renRow
        rw [List.getElem?_map, sucs_get hy8]; rfl
      · rw [List.getElem?_eq_none (by rw [renRow_length]; show 2 ^ a.vars.toNat ≤ y; omega), List.getElem?_eq_none (by omega)]
    have e2 : ints (rnR (prodD f a b) o) = nats ys := by unfold rnR; rw [e3]; simp [Function.comp_def]
    refine T.sub (O' := ([oI bp 90 [(.int .i64 a.vars), (.int .i64 a.start), (.slice j.nb a.next.length j.nc), (.slice j.fb a.final.length j.fc), (.int .i64 b.vars), (.int .i64 b.start), (.slice k.nb b.next.length k.nc), (.slice k.fb b.final.length k.fc), (.slice qbm ((bfsN (prodD f a b) (i + 1)).length) qcm), (.map (some m))], rowI qbm qcm 86 2 (prs b.next.length (bfsN (prodD f a b) (i + 1))), mapI pairV (fun n : Nat => Value.int .i64 (n : Int)) m (pmap b.next.length (bfsN (prodD f a b) (i + 1))), rowI (some ⟨z2, 0, none⟩) L 3 1 (ints (rnR (prodD f a b) o)), oI z1 86 [.int .i64 ((o / b.next.length : Nat) : Int), .int .i64 ((o % b.next.length : Nat) : Int)], oI bx 79 [(.pointer (some ⟨bp, 0, none⟩))]] ++ O1)) (by rw [e1, e2]; exact Sub.rf) ?_
    refine T.region ?_
    refine TO.quiet (q_move rfl) (TO.quiet (q_load_boxAgg 4 Tryd.underlying86 rfl inf86 rfl rfl rfl) (TO.quiet (q_move rfl) ?_))
    have hk69 := CallV.under (B := [oI z1 86 [.int .i64 ((o / b.next.length : Nat) : Int), .int .i64 ((o % b.next.length : Nat) : Int)], oI bx 79 [(.pointer (some ⟨bp, 0, none⟩))]]) (O := ([oI bp 90 [(.int .i64 a.vars), (.int .i64 a.start), (.slice j.nb a.next.length j.nc), (.slice j.fb a.final.length j.fc), (.int .i64 b.vars), (.int .i64 b.start), (.slice k.nb b.next.length k.nc), (.slice k.fb b.final.length k.fc), (.slice qbm ((bfsN (prodD f a b) (i + 1)).length) qcm), (.map (some m))], rowI qbm qcm 86 2 (prs b.next.length (bfsN (prodD f a b) (i + 1))), mapI pairV (fun n : Nat => Value.int .i64 (n : Int)) m (pmap b.next.length (bfsN (prodD f a b) (i + 1))), rowI (some ⟨z2, 0, none⟩) L 3 1 (ints (rnR (prodD f a b) o)), oI z1 86 [.int .i64 ((o / b.next.length : Nat) : Int), .int .i64 ((o % b.next.length : Nat) : Int)], oI bx 79 [(.pointer (some ⟨bp, 0, none⟩))]] ++ O1)) (hy i o qbm qcm z2 O1 hq hJ) (Sub.cnt [] (by intro a; simp only [itms, oI, List.set_cons_zero, List.set_cons_succ, putL, List.cons_append, List.nil_append, List.append_nil, List.append_assoc, List.map_append, List.map_cons, List.map_nil, cnt_append, cnt_cons, cnt_nil] <;> omega))
    refine TO.loud rfl (l_callG hk69 rfl rfl ?_)
    clear hk69
    rintro vr O' ⟨A1, rfl, ⟨rfl, O2, rfl, hJ2⟩ | ⟨rfl, hQ2⟩⟩
    · refine TO.quiet (q_not rfl) ?_
      refine TO.nil ?_
      refine T.cond0 rfl ?_
      refine T.skip ?_
      refine T.sub (O' := ([oI bx 79 [(.pointer (some ⟨bp, 0, none⟩))], oI bp 90 [(.int .i64 a.vars), (.int .i64 a.start), (.slice j.nb a.next.length j.nc), (.slice j.fb a.final.length j.fc), (.int .i64 b.vars), (.int .i64 b.start), (.slice k.nb b.next.length k.nc), (.slice k.fb b.final.length k.fc), (.slice qbm ((bfsN (prodD f a b) (i + 1)).length) qcm), (.map (some m))], rowI qbm qcm 86 2 (prs b.next.length (bfsN (prodD f a b) (i + 1))), mapI pairV (fun n : Nat => Value.int .i64 (n : Int)) m (pmap b.next.length (bfsN (prodD f a b) (i + 1)))] ++ O2)) (Sub.cnt [oI z1 86 [.int .i64 ((o / b.next.length : Nat) : Int), .int .i64 ((o % b.next.length : Nat) : Int)]] (by intro a; simp only [itms, oI, List.set_cons_zero, List.set_cons_succ, putL, List.cons_append, List.nil_append, List.append_nil, List.append_assoc, List.map_append, List.map_cons, List.map_nil, cnt_append, cnt_cons, cnt_nil] <;> omega)) ?_
      refine T.region ?_
      refine TO.quiet (q_move rfl) (TO.quiet (q_addN (a := i) (b := 1) rfl rfl (by omega)) (TO.quiet (q_assign rfl) ?_))
      refine TO.nil ?_
      have hpl := (bfsN_prefix (prodD f a b) i (i + 1) (by omega)).length_le
      exact ⟨i + 1, by omega, qbm, qcm, O2, rfl, by omega, hJ2, ⟨rfl, rfl, rfl, trivial⟩⟩
    refine TO.quiet (q_not rfl) ?_
    refine TO.nil ?_
    refine T.cond1 rfl ?_
    refine T.ret (Res.drop ?_)
    refine Res.zero Tryd.results87 ?_
    exact ⟨A1, Sub.of (List.sublist_append_left _ _), .inr hQ2⟩
  have hge13 : ¬ i < (bfsN (prodD f a b) i).length := by omega
  refine T.exit ?_
  refine Res.drop ?_
  refine Res.zero Tryd.results87 ?_
  have hN : (bfsN (prodD f a b) i).length = i := by omega
  exact ⟨O1 ++ [oI bp 90 [(.int .i64 a.vars), (.int .i64 a.start), (.slice j.nb a.next.length j.nc), (.slice j.fb a.final.length j.fc), (.int .i64 b.vars), (.int .i64 b.start), (.slice k.nb b.next.length k.nc), (.slice k.fb b.final.length k.fc), (.slice qb ((bfsN (prodD f a b) i).length) qc), (.map (some m))], rowI qb qc 86 2 (prs b.next.length (bfsN (prodD f a b) i)), mapI pairV (fun n : Nat => Value.int .i64 (n : Int)) m (pmap b.next.length (bfsN (prodD f a b) i))], Sub.cnt [oI bx 79 [(.pointer (some ⟨bp, 0, none⟩))]] (by intro a; simp only [itms, oI, List.set_cons_zero, List.set_cons_succ, putL, List.cons_append, List.nil_append, List.append_nil, List.append_assoc, List.map_append, List.map_cons, List.map_nil, cnt_append, cnt_cons, cnt_nil] <;> omega), .inl ⟨i, qb, qc, O1, rfl, hN, hJ⟩⟩
end Go.Proofs.YtdaapdamcekkgaaDoor

