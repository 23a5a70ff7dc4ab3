/- Contracts of functions of the program (BOvE): what each call answers and that it leaves memory as it was. Conditions: those each theorem names. -/
import Derived.Test.YtnamoapbienooaaTarL
import Derived.Test.YtnamoapbienooaaDeg
set_option linter.unusedSectionVars false
set_option linter.unusedSimpArgs false
set_option linter.unusedVariables false
set_option linter.unnecessarySimpa false
namespace Go.Proofs.Ytnamoapbienooaa
open Go.Lx Go.RowKit
set_option linter.unusedVariables false
set_option linter.unusedSimpArgs false
set_option maxHeartbeats 1000000 in
set_option maxRecDepth 20000 in
theorem shiftF (w : World) (b : Option Addr) (c : Nat) (xs : List Int) (d : Nat) (h : Sl w b (ints xs)) (hb : xs.length ≤ 1000000) (hx : ∀ x ∈ xs, 0 ≤ x ∧ x ≤ 1000000000000) (hd : d ≤ 1000000000000) :
    PureT Try.prog 86 [.slice b xs.length c, .int .i64 ((d : Nat) : Int)] w fun v N => ∃ b' c', v = .slice b' xs.length c' ∧ N = [rowI b' c' 3 1 (ints (xs.map fun x => x + ((d : Nat) : Int)))] := by
  refine CallT.enter Try.func86 rfl Try.ntmps86 rfl ?_
  refine T.seq (T.region ?_)
  refine TO.quiet (q_assign rfl) ?_
  refine TO.nil (T.seq (T.region ?_))
  refine TO.quiet (q_move rfl) (TO.quiet (q_len Try.underlying22 rfl) ?_)
  refine TO.loud rfl (l_makeSlice (m := xs.length) Try.underlying22 inf3 rfl rfl (by omega) (by omega) (fun bx1 => ?_))
  refine TO.quiet (q_assign rfl) ?_
  refine TO.nil (T.seq (T.seq (T.region ?_)))
  refine TO.quiet (q_move rfl) (TO.quiet (q_len Try.underlying22 rfl) (TO.quiet (q_move rfl) ?_))
  refine TO.nil (T.block ?_)
  refine T.loop (fun (k : Nat) ρ O => ∃ (ys : List Int), O = [rowI (some ⟨bx1, 0, none⟩) xs.length 3 1 (ints ys)] ∧ k ≤ xs.length ∧ ys.length = xs.length ∧ ys.take k = (xs.take k).map (fun x => x + ((d : Nat) : Int)) ∧ Heads [(0, (.slice b xs.length c)), (1, .int .i64 ((d : Nat) : Int)), (4, (.slice none 0 0)), (5, (.slice (some ⟨bx1, 0, none⟩) xs.length xs.length)), (11, (.slice b xs.length c)), (12, .int .i64 (xs.length : Int)), (13, .int .i64 (k : Int))] ρ) (fun k => xs.length - k) 0 ?_ ?_
  · exact ⟨List.replicate xs.length 0, by simp only [List.map_replicate], Nat.zero_le _, by simp, by simp, ⟨rfl, rfl, rfl, rfl, rfl, rfl, rfl, trivial⟩⟩
  rintro k ρ O ⟨ys, rfl, hk, hyl, hyt, hH⟩
  obtain ⟨ρ0, rfl⟩ := hH.elim
  clear hH
  have hlt2 : k ≤ ys.length := by omega
  refine T.seq (T.region ?_)
  refine TO.quiet (q_lss rfl rfl) ?_
  refine TO.nil (T.seq ?_)
  refine T.condP rfl (fun hc => ?_) (fun hc => ?_)
  · have hlt14 : k < xs.length := by omega
    have hxk := hx xs[k] (List.getElem_mem hlt14)
    refine T.skip (T.seq (T.block (T.seq (T.region ?_))))
    refine TO.quiet (q_move rfl) (TO.quiet (q_ix (i := k) Try.underlying22 inf3 rfl rfl (Sl.o h)) (TO.quiet (q_ld Try.underlying3 rfl rfl (Sl.o h) ints_get) (TO.quiet (q_assign rfl) ?_)))
    refine TO.quiet (q_assign rfl) ?_
    refine TO.nil (T.region ?_)
    refine TO.quiet (q_move rfl) (TO.quiet (q_move rfl) (TO.quiet (q_move rfl) (TO.quiet (q_move rfl) ?_)))
    refine TO.quiet (q_add64 rfl rfl (by omega)) (TO.quiet (q_ix (i := k) Try.underlying22 inf3 rfl rfl (rowO (List.mem_of_getElem? (i := 0) rfl))) ?_)
    refine TO.loud rfl (l_st (j := k) (v := .int .i64 (xs[k] + ((d : Nat) : Int))) (vs := [(.int .i64 (xs[k] + ((d : Nat) : Int)))]) (cs := ints ys) 0 inf3 rfl rfl rfl rfl rfl (by simp) rfl (by first | (simp; omega) | (simp_all; omega)) ?_)
    refine TO.sub (O' := [rowI (some ⟨bx1, 0, none⟩) xs.length 3 1 (ints (ys.set k (xs[k] + ((d : Nat) : Int))))]) (by rw [show putL (ints ys) k [(.int .i64 (xs[k] + ((d : Nat) : Int)))] = ints (ys.set k (xs[k] + ((d : Nat) : Int))) from (by simp [putL])]; exact Sub.of (List.Sublist.refl _)) ?_
    refine TO.nil (T.region ?_)
    refine TO.quiet (q_addN (a := k) (b := 1) rfl rfl (by omega)) (TO.quiet (q_move rfl) ?_)
    refine TO.nil ?_
    refine ⟨k + 1, by omega, ys.set k (xs[k] + ((d : Nat) : Int)), rfl, by omega, by simp [hyl], ?_, ⟨rfl, rfl, rfl, rfl, rfl, rfl, rfl, trivial⟩⟩
    rw [take_set_snoc (by omega), hyt, List.take_succ_eq_append_getElem hlt14, List.map_append]; rfl
  have hge14 : ¬ k < xs.length := by omega
  refine T.exit ?_
  refine T.seq (T.region ?_)
  refine TO.quiet (q_move rfl) (TO.quiet (q_assign rfl) ?_)
  refine TO.nil (T.ret ?_)
  refine Res.one (.slice (some ⟨bx1, 0, none⟩) xs.length xs.length) Try.results86 rfl ?_
  have hye : ys = xs.map (fun x => x + ((d : Nat) : Int)) := by rw [List.take_of_length_le (by omega), List.take_of_length_le (by omega)] at hyt; exact hyt
  subst hye
  exact ⟨_, _, rfl, rfl⟩
set_option maxHeartbeats 1000000 in
set_option maxRecDepth 20000 in
theorem cloneENil (w : World) (c : Nat) :
    PureT Try.prog 85 [.slice none 0 c] w fun v N => ∃ b' c', v = .slice b' 0 c' ∧ N = [rowI b' c' 54 4 []] := by
  refine CallT.enter Try.func85 rfl Try.ntmps85 rfl ?_
  refine T.seq (T.region ?_)
  refine TO.quiet (q_assign rfl) ?_
  refine TO.nil (T.seq (T.seq (T.region ?_)))
  refine TO.quiet (q_move rfl) (TO.quiet (q_eqlNil Try.underlying23 rfl rfl) ?_)
  refine TO.nil ?_
  refine T.cond1 rfl ?_
  refine T.seq ?_
  refine T.nilRow 54 4 ?_
  refine T.region ?_
  refine TO.quiet (q_assign rfl) ?_
  refine TO.nil (T.ret ?_)
  refine Res.one (.slice none 0 0) Try.results85 rfl ?_
  exact ⟨_, _, rfl, rfl⟩
set_option maxHeartbeats 1000000 in
set_option maxRecDepth 20000 in
theorem cloneESome (w : World) (a : Addr) (c : Nat) (xs : List Ed) (h1 : Sl w (some a) (edsC xs)) (hb : xs.length ≤ 1000000000) :
    PureT Try.prog 85 [.slice (some a) xs.length c] w fun v N => ∃ b' c', v = .slice b' xs.length c' ∧ N = [rowI b' c' 54 4 (edsC xs)] := by
  refine CallT.enter Try.func85 rfl Try.ntmps85 rfl ?_
  refine T.seq (T.region ?_)
  refine TO.quiet (q_assign rfl) ?_
  refine TO.nil (T.seq (T.seq (T.region ?_)))
  refine TO.quiet (q_move rfl) (TO.quiet (q_eqlNil Try.underlying23 rfl rfl) ?_)
  refine TO.nil ?_
  refine T.cond0 rfl ?_
  refine T.skip (T.seq (T.region ?_))
  refine TO.loud rfl (l_buildSlice (m := 0) (parts := []) (cs := []) Try.underlying23 inf54 (by decide) (by simp [Instr.fill]) rfl (fun b1 => ?_))
  refine TO.quiet (q_move rfl) ?_
  refine TO.loud rfl (l_append 0 Try.underlying23 Try.underlying23 inf54 rfl rfl rfl rfl (by simp) (by decide) (Src.sl h1 (eds_len xs)) (eds_one xs) (by omega) (by decide) (by decide) (fun bx1 c2 => ?_))
  refine TO.quiet (q_assign rfl) ?_
  refine TO.nil (T.ret ?_)
  refine Res.one (.slice bx1 (0 + xs.length) c2) Try.results85 rfl ?_
  exact ⟨_, _, by rw [Nat.zero_add], rfl⟩
theorem cloneE (w : World) (b : Option Addr) (c : Nat) (xs : List Ed) (h1 : Sl w b (edsC xs)) (hb : xs.length ≤ 1000000000) :
    PureT Try.prog 85 [.slice b xs.length c] w fun v N => ∃ b' c', v = .slice b' xs.length c' ∧ N = [rowI b' c' 54 4 (edsC xs)] := by
  cases b with
  | none =>
    have hx : xs = [] := by
      cases xs with
      | nil => rfl
      | cons x xs => obtain ⟨_, _, e⟩ := h1.addr (i := 0) (by rw [eds_len]; simp); cases e
    subst hx
    exact cloneENil w c
  | some a => exact cloneESome w a c xs h1 hb
set_option maxHeartbeats 1000000 in
set_option maxRecDepth 20000 in
theorem overEdges (base : World) (b : Option Addr) (c c' : Nat) (xs : List Ed) (hb : xs.length ≤ 1000000000) :
    CallT Try.prog base 88 [.slice b xs.length c'] [rowI b c 54 4 (edsC xs)] (fun _ O' => O' = []) := by
  refine CallT.enter Try.func88 rfl Try.ntmps88 rfl ?_
  refine T.seq (T.region ?_)
  refine TO.quiet (q_assign rfl) ?_
  refine TO.nil (T.block ?_)
  refine T.loop (fun (k : Nat) ρ O => ∃ (ys : List Ed), O = [rowI b c 54 4 (edsC ys)] ∧ k ≤ xs.length ∧ ys.length = xs.length ∧ Heads [(0, (.slice b xs.length c')), (2, .int .i64 (k : Int))] ρ) (fun k => xs.length - k) 0 ?_ ?_
  · exact ⟨xs, rfl, Nat.zero_le _, rfl, ⟨rfl, rfl, trivial⟩⟩
  rintro k ρ O ⟨ys, rfl, hk, hyl, hH⟩
  obtain ⟨ρ0, rfl⟩ := hH.elim
  clear hH
  refine T.seq (T.seq (T.region ?_))
  refine TO.quiet (q_move rfl) (TO.quiet (q_move rfl) (TO.quiet (q_len Try.underlying23 rfl) (TO.quiet (q_lss rfl rfl) ?_)))
  refine TO.nil ?_
  refine T.condP rfl (fun hc => ?_) (fun hc => ?_)
  · have hlt6 : k < xs.length := by omega
    have hlt : k < ys.length := by omega
    refine T.skip (T.seq (T.block (T.region ?_)))
    refine TO.quiet (q_move rfl) (TO.quiet (q_move rfl) (TO.quiet (q_build (cs := [.int .i64 (-7), (.int .i64 0), (.int .u8 0), (.int .u8 0)]) plan54 inf54 (by kernel_rfl)) (TO.quiet (q_ixK (i := k) Try.underlying23 inf54 rfl rfl (rowO (List.mem_of_getElem? (i := 0) rfl)) (by first | assumption | omega | (simp; omega) | simp_all) (by first | (rw [eds_len]; omega) | (simp [eds_len]; omega) | (simp_all [eds_len]; omega))) ?_)))
    refine TO.loud rfl (l_st (j := (k * 4)) (v := (.agg #[.int .i64 (-7), (.int .i64 0), (.int .u8 0), (.int .u8 0)])) (vs := [.int .i64 (-7), (.int .i64 0), (.int .u8 0), (.int .u8 0)]) (cs := edsC ys) 0 inf54 rfl rfl rfl rfl rfl (by simp) rfl (by rw [eds_len]; show _ + 4 ≤ _; omega) ?_)
    refine TO.sub (O' := [rowI b c 54 4 (edsC (ys.set k (⟨-7, 0, 0, 0⟩ : Ed)))]) (by rw [show putL (edsC ys) (k * 4) [.int .i64 (-7), (.int .i64 0), (.int .u8 0), (.int .u8 0)] = edsC (ys.set k (⟨-7, 0, 0, 0⟩ : Ed)) from putL_eds hlt (⟨-7, 0, 0, 0⟩ : Ed)]; exact Sub.of (List.Sublist.refl _)) ?_
    refine TO.nil (T.region ?_)
    refine TO.quiet (q_move rfl) (TO.quiet (q_addN (a := k) (b := 1) rfl rfl (by omega)) (TO.quiet (q_assign rfl) ?_))
    refine TO.nil ?_
    exact ⟨k + 1, by omega, ys.set k (⟨-7, 0, 0, 0⟩ : Ed), rfl, by omega, by simp [hyl], ⟨rfl, rfl, trivial⟩⟩
  have hge6 : ¬ k < xs.length := by omega
  refine T.exit ?_
  refine Res.drop ?_
  refine Res.zero Try.results88 ?_
  exact ⟨[], Sub.of (List.nil_sublist _), rfl⟩
set_option maxHeartbeats 1000000 in
set_option maxRecDepth 20000 in
theorem overBuchi (base : World) (b : Bu) (sb eb tb : Option Addr) (sc ec tc s1 e1 t1 : Nat) (qs : List Rec) (hq : nums qs = b.sets) (hB : BuB b) :
    CallT Try.prog base 39 [.agg (buCells b sb sc eb ec tb tc).toArray] ([rowI sb s1 3 1 (ints b.start), rowI eb e1 54 4 (edsC b.edges), rowI tb t1 22 1 (vals qs)] ++ itms 3 qs) (fun _ O' => O' = []) := by
  refine CallT.enter Try.func39 rfl Try.ntmps39 rfl ?_
  have hst := hB.st; have hed := hB.ed; have hse := hB.se
  have hql : qs.length = b.sets.length := by rw [← hq]; simp [nums]
  have hqr : ∀ q ∈ qs, q.xs.length < 9223372036854775807 := fun q h => by have := hB.sr q.xs (by rw [← hq]; exact List.mem_map_of_mem h); omega
  refine T.seq (T.region ?_)
  refine TO.loud rfl (l_box (v := (.agg (buCells b sb sc eb ec tb tc).toArray)) (cs := (buCells b sb sc eb ec tb tc)) rfl rfl (fun bx1 => ?_))
  refine TO.nil (T.seq (T.region ?_))
  refine TO.quiet (q_fieldAddr Try.underlying26 rfl inf22 rfl rfl) (TO.quiet (q_load_box 0 Try.underlying22 rfl rfl rfl rfl) ?_)
  have hk4 := CallT.under (A := [rowI sb s1 3 1 (ints b.start)]) (B := [oI bx1 26 (buCells b sb sc eb ec tb tc), rowI eb e1 54 4 (edsC b.edges), rowI tb t1 22 1 (vals qs)] ++ itms 3 qs) (O := ([oI bx1 26 (buCells b sb sc eb ec tb tc), rowI sb s1 3 1 (ints b.start), rowI eb e1 54 4 (edsC b.edges), rowI tb t1 22 1 (vals qs)] ++ (itms 3 qs))) (overInts base sb s1 sc b.start (by omega)) (Sub.cnt [] (by intro a; simp only [itms, oI, List.set_cons_zero, List.set_cons_succ, putL, List.cons_append, List.nil_append, List.append_nil, List.append_assoc, List.map_append, List.map_cons, List.map_nil, cnt_append, cnt_cons, cnt_nil, buCells, laCells] <;> omega))
  refine TO.loud rfl (l_call ent87 hk4 rfl ?_)
  clear hk4
  rintro vr O' ⟨A1, rfl, rfl⟩
  refine TO.nil (T.seq (T.region ?_))
  refine TO.quiet (q_fieldAddr Try.underlying26 rfl inf23 rfl rfl) (TO.quiet (q_load_box 0 Try.underlying23 rfl rfl rfl rfl) ?_)
  have hk7 := CallT.under (A := [rowI eb e1 54 4 (edsC b.edges)]) (B := [oI bx1 26 (buCells b sb sc eb ec tb tc), rowI tb t1 22 1 (vals qs)] ++ itms 3 qs) (O := ([oI bx1 26 (buCells b sb sc eb ec tb tc), rowI eb e1 54 4 (edsC b.edges), rowI tb t1 22 1 (vals qs)] ++ (itms 3 qs))) (overEdges base eb e1 ec b.edges (by omega)) (Sub.cnt [] (by intro a; simp only [itms, oI, List.set_cons_zero, List.set_cons_succ, putL, List.cons_append, List.nil_append, List.append_nil, List.append_assoc, List.map_append, List.map_cons, List.map_nil, cnt_append, cnt_cons, cnt_nil, buCells, laCells] <;> omega))
  refine TO.loud rfl (l_call ent88 hk7 rfl ?_)
  clear hk7
  rintro vr O' ⟨A1, rfl, rfl⟩
  refine TO.nil (T.region ?_)
  refine TO.quiet (q_fieldAddr Try.underlying26 rfl inf24 rfl rfl) (TO.quiet (q_load_box 0 Try.underlying24 rfl rfl rfl rfl) ?_)
  have hk10 := CallT.under (A := [rowI tb t1 22 1 (vals qs)] ++ itms 3 qs) (B := [oI bx1 26 (buCells b sb sc eb ec tb tc)]) (O := ([oI bx1 26 (buCells b sb sc eb ec tb tc), rowI tb t1 22 1 (vals qs)] ++ (itms 3 qs))) (hql ▸ overRows base tb t1 tc qs (by omega) hqr) (Sub.cnt [] (by intro a; simp only [itms, oI, List.set_cons_zero, List.set_cons_succ, putL, List.cons_append, List.nil_append, List.append_nil, List.append_assoc, List.map_append, List.map_cons, List.map_nil, cnt_append, cnt_cons, cnt_nil, buCells, laCells] <;> omega))
  refine TO.loud rfl (l_call ent89 hk10 rfl ?_)
  clear hk10
  rintro vr O' ⟨A1, rfl, rfl⟩
  refine TO.nil (Res.drop ?_)
  refine Res.zero Try.results39 ?_
  exact ⟨[], Sub.of (List.nil_sublist _), rfl⟩
end Go.Proofs.Ytnamoapbienooaa

