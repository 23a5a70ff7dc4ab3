/- Contracts of functions of the program (BGod): what each call answers and that it leaves memory as it was. Conditions: those each theorem names. -/
import Derived.Test.YtnamoapbienooaaBRch
import Derived.Test.YtnamoapbienooaaGod
set_option linter.unusedSectionVars false
set_option linter.unusedSimpArgs false
set_option linter.unusedVariables false
set_option linter.unnecessarySimpa false
namespace Go.Proofs.Ytnamoapbienooaa
open Go.Lx Go.RowKit
set_option linter.unusedVariables false
set_option linter.unusedSimpArgs false
set_option maxHeartbeats 4000000 in
set_option maxRecDepth 20000 in
theorem goodF (w : World) (b : Bu) (sb eb tb : Option Addr) (sc ec tc : Nat) (vs : List Value) (h : BuAt w b sb eb tb vs) (hB : BuB b) (ab nb : Option Addr) (ac nc : Nat) (vx : List Value) (nx : List (List Int)) (sa : List Nat) (hS : Sl w nb vx) (hR : RowsR w vx nx) (hSA : Sl w ab (nats sa)) (hsal : sa.length = nx.length) (hn : nx.length ≤ 1000000) (hrl : ∀ r ∈ nx, r.length ≤ 1000000) (hval : okRows nx) :
    PureT Try.prog 61 [.agg #[(.int .i64 b.vars), (.int .i64 b.states), (.slice sb b.start.length sc), (.slice eb b.edges.length ec), (.slice tb b.sets.length tc), (.slice ab nx.length ac), (.slice nb nx.length nc)]] w fun v N => ∃ rb rc rs, v = .slice rb nx.length rc ∧ N = [rowI rb rc 4 1 (bools rs)] ∧ TabP nx.length nx.length (liveR b sa nx) rs := by
  refine CallT.enter Try.func61 rfl Try.ntmps61 rfl ?_
  have hse := hB.se
  refine T.seq (T.region ?_)
  refine TO.loud rfl (l_box (v := (.agg #[(.int .i64 b.vars), (.int .i64 b.states), (.slice sb b.start.length sc), (.slice eb b.edges.length ec), (.slice tb b.sets.length tc), (.slice ab nx.length ac), (.slice nb nx.length nc)])) (cs := [(.int .i64 b.vars), (.int .i64 b.states), (.slice sb b.start.length sc), (.slice eb b.edges.length ec), (.slice tb b.sets.length tc), (.slice ab nx.length ac), (.slice nb nx.length nc)]) rfl rfl (fun bx1 => ?_))
  refine TO.quiet (q_assign rfl) ?_
  refine TO.nil (T.seq (T.region ?_))
  refine TO.quiet (q_fieldAddr Try.underlying91 rfl inf22 rfl rfl) (TO.quiet (q_load_box 0 Try.underlying22 rfl rfl rfl rfl) (TO.quiet (q_len Try.underlying22 rfl) (TO.quiet (q_assign rfl) ?_)))
  refine TO.nil (T.seq (T.region ?_))
  refine TO.quiet (q_move rfl) ?_
  refine TO.loud rfl (l_makeSlice (m := nx.length) Try.underlying126 inf39 rfl rfl (by omega) (by omega) (fun bx2 => ?_))
  refine TO.quiet (q_assign rfl) ?_
  refine TO.nil (T.seq (T.seq (T.region ?_)))
  refine TO.quiet (q_assign rfl) ?_
  refine TO.nil (T.block ?_)
  refine T.sub (O' := [rowI (some ⟨bx2, 0, none⟩) nx.length 39 1 (List.replicate nx.length (.slice none 0 0)), oI bx1 91 [(.int .i64 b.vars), (.int .i64 b.states), (.slice sb b.start.length sc), (.slice eb b.edges.length ec), (.slice tb b.sets.length tc), (.slice ab nx.length ac), (.slice nb nx.length nc)]] ++ bis 4 []) (Sub.of (List.Sublist.refl _)) ?_
  refine T.loop (fun (k : Nat) ρ O => ∃ (qs : List BR), O = ([rowI (some ⟨bx2, 0, none⟩) nx.length 39 1 ((bvs qs) ++ (List.replicate (nx.length - k) (.slice none 0 0))), oI bx1 91 [(.int .i64 b.vars), (.int .i64 b.states), (.slice sb b.start.length sc), (.slice eb b.edges.length ec), (.slice tb b.sets.length tc), (.slice ab nx.length ac), (.slice nb nx.length nc)]] ++ (bis 4 qs)) ∧ k ≤ nx.length ∧ AllP nx k qs ∧ Heads [(0, (.agg #[(.int .i64 b.vars), (.int .i64 b.states), (.slice sb b.start.length sc), (.slice eb b.edges.length ec), (.slice tb b.sets.length tc), (.slice ab nx.length ac), (.slice nb nx.length nc)])), (1, (.pointer (some ⟨bx1, 0, none⟩))), (2, (.slice none 0 0)), (3, .int .i64 (nx.length : Int)), (4, (.slice (some ⟨bx2, 0, none⟩) nx.length nx.length)), (5, .int .i64 (k : Int))] ρ) (fun k => nx.length - k) 0 ?_ ?_
  · exact ⟨[], rfl, Nat.zero_le _, ⟨rfl, fun i h => absurd h (Nat.not_lt_zero _)⟩, ⟨rfl, rfl, rfl, rfl, rfl, rfl, trivial⟩⟩
  rintro k ρ O ⟨qs, rfl, hk, hA, hH⟩
  obtain ⟨ρ0, rfl⟩ := hH.elim
  clear hH
  have hql := hA.l
  refine T.seq (T.seq (T.region ?_))
  refine TO.quiet (q_move rfl) (TO.quiet (q_move rfl) (TO.quiet (q_lss rfl rfl) ?_))
  refine TO.nil ?_
  refine T.condP rfl (fun hc => ?_) (fun hc => ?_)
  · have hlt21 : k < nx.length := by omega
    refine T.skip (T.seq (T.block (T.region ?_)))
    refine TO.quiet (q_move rfl) (TO.quiet (q_move rfl) (TO.quiet (q_load_boxAgg 1 Try.underlying91 rfl inf91 rfl rfl rfl) (TO.quiet (q_move rfl) ?_)))
    have hk28 := fun (w1 : World) (hI : Inv w ([rowI (some ⟨bx2, 0, none⟩) nx.length 39 1 ((bvs qs) ++ (List.replicate (nx.length - k) (.slice none 0 0))), oI bx1 91 [(.int .i64 b.vars), (.int .i64 b.states), (.slice sb b.start.length sc), (.slice eb b.edges.length ec), (.slice tb b.sets.length tc), (.slice ab nx.length ac), (.slice nb nx.length nc)]] ++ (bis 4 qs)) w1) => reachF w1 b sb eb tb sc ec tc ab nb ac nc vx nx (hI.sl hS) (hI.rows hR) hn hrl hval k (by omega)
    refine TO.loud rfl (l_call ent83 (CallT.of_pure hk28) rfl ?_)
    clear hk28
    rintro vr O' ⟨N, rfl, rb, rc, rs, rfl, rfl, hrs, hrp⟩
    refine TO.quiet (q_ix (i := k) Try.underlying126 inf39 rfl rfl (rowO (List.mem_of_getElem? (i := 1) rfl))) ?_
    refine TO.loud rfl (l_st (j := k) (v := (.slice rb nx.length rc)) (vs := [(.slice rb nx.length rc)]) (cs := (bvs qs) ++ (List.replicate (nx.length - k) (.slice none 0 0))) 1 inf39 rfl rfl rfl rfl rfl (by simp) rfl (by first | (simp; omega) | (simp_all; omega)) ?_)
    refine TO.sub (O' := ([rowI rb rc 4 1 (bools rs), rowI (some ⟨bx2, 0, none⟩) nx.length 39 1 ((bvs (qs ++ [⟨rb, rc, rs⟩])) ++ (List.replicate (nx.length - (k + 1)) (.slice none 0 0))), oI bx1 91 [(.int .i64 b.vars), (.int .i64 b.states), (.slice sb b.start.length sc), (.slice eb b.edges.length ec), (.slice tb b.sets.length tc), (.slice ab nx.length ac), (.slice nb nx.length nc)]] ++ (bis 4 qs))) (by rw [show putL ((bvs qs) ++ (List.replicate (nx.length - k) (.slice none 0 0))) k [(.slice rb nx.length rc)] = (bvs (qs ++ [⟨rb, rc, rs⟩])) ++ (List.replicate (nx.length - (k + 1)) (.slice none 0 0)) from (by rw [← hrs]; exact bvs_fill hA.l (by omega))]; exact Sub.of (List.Sublist.refl _)) ?_
    refine TO.sub (O' := [rowI rb rc 4 1 (bools rs), rowI (some ⟨bx2, 0, none⟩) nx.length 39 1 ((bvs (qs ++ [⟨rb, rc, rs⟩])) ++ (List.replicate (nx.length - (k + 1)) (.slice none 0 0))), oI bx1 91 [(.int .i64 b.vars), (.int .i64 b.states), (.slice sb b.start.length sc), (.slice eb b.edges.length ec), (.slice tb b.sets.length tc), (.slice ab nx.length ac), (.slice nb nx.length nc)]] ++ bis 4 qs) (Sub.pickR [0, 0, 0] [rowI rb rc 4 1 (bools rs), rowI (some ⟨bx2, 0, none⟩) nx.length 39 1 ((bvs (qs ++ [⟨rb, rc, rs⟩])) ++ (List.replicate (nx.length - (k + 1)) (.slice none 0 0))), oI bx1 91 [(.int .i64 b.vars), (.int .i64 b.states), (.slice sb b.start.length sc), (.slice eb b.edges.length ec), (.slice tb b.sets.length tc), (.slice ab nx.length ac), (.slice nb nx.length nc)]] (bis 4 qs) rfl rfl) ?_
    refine TO.sub (O' := [rowI (some ⟨bx2, 0, none⟩) nx.length 39 1 ((bvs (qs ++ [⟨rb, rc, rs⟩])) ++ (List.replicate (nx.length - (k + 1)) (.slice none 0 0))), oI bx1 91 [(.int .i64 b.vars), (.int .i64 b.states), (.slice sb b.start.length sc), (.slice eb b.edges.length ec), (.slice tb b.sets.length tc), (.slice ab nx.length ac), (.slice nb nx.length nc)]] ++ bis 4 (qs ++ [⟨rb, rc, rs⟩])) (Sub.cnt [] (by intro a; simp only [bis, BR.itm, oI, List.set_cons_zero, List.set_cons_succ, putL, List.cons_append, List.nil_append, List.append_nil, List.append_assoc, List.map_append, List.map_cons, List.map_nil, cnt_append, cnt_cons, cnt_nil, buCells, laCells] <;> omega)) ?_
    refine TO.nil (T.region ?_)
    refine TO.quiet (q_move rfl) (TO.quiet (q_addN (a := k) (b := 1) rfl rfl (by omega)) (TO.quiet (q_assign rfl) ?_))
    refine TO.nil ?_
    exact ⟨k + 1, by omega, qs ++ [⟨rb, rc, rs⟩], rfl, by omega, hA.snoc hrs hrp, ⟨rfl, rfl, rfl, rfl, rfl, rfl, trivial⟩⟩
  have hge21 : ¬ k < nx.length := by omega
  refine T.exit ?_
  refine T.seq (T.region ?_)
  refine TO.quiet (q_move rfl) ?_
  refine TO.loud rfl (l_makeSlice (m := nx.length) Try.underlying39 inf4 rfl rfl (by omega) (by omega) (fun bx3 => ?_))
  refine TO.quiet (q_assign rfl) ?_
  refine TO.nil (T.seq (T.seq (T.region ?_)))
  refine TO.quiet (q_assign rfl) ?_
  refine TO.nil (T.block ?_)
  have hke : k = nx.length := by omega
  have e9 : bvs qs ++ List.replicate (nx.length - k) (Value.slice none 0 0) = bvs qs := by rw [hke]; simp
  refine T.sub (O' := [rowI (some ⟨bx3, 0, none⟩) nx.length 4 1 (List.replicate nx.length (.bool false)), rowI (some ⟨bx2, 0, none⟩) nx.length 39 1 (bvs qs), oI bx1 91 [(.int .i64 b.vars), (.int .i64 b.states), (.slice sb b.start.length sc), (.slice eb b.edges.length ec), (.slice tb b.sets.length tc), (.slice ab nx.length ac), (.slice nb nx.length nc)]] ++ bis 4 qs) (by rw [e9]; exact Sub.of (List.Sublist.refl _)) ?_
  rw [hke] at hA hql
  refine T.loop (fun (k2 : Nat) ρ O => ∃ (cs : List Bool), O = ([rowI (some ⟨bx3, 0, none⟩) nx.length 4 1 (bools cs), rowI (some ⟨bx2, 0, none⟩) nx.length 39 1 (bvs qs), oI bx1 91 [(.int .i64 b.vars), (.int .i64 b.states), (.slice sb b.start.length sc), (.slice eb b.edges.length ec), (.slice tb b.sets.length tc), (.slice ab nx.length ac), (.slice nb nx.length nc)]] ++ (bis 4 qs)) ∧ k2 ≤ nx.length ∧ TabP nx.length k2 (coreR b sa nx) cs ∧ Heads [(0, (.agg #[(.int .i64 b.vars), (.int .i64 b.states), (.slice sb b.start.length sc), (.slice eb b.edges.length ec), (.slice tb b.sets.length tc), (.slice ab nx.length ac), (.slice nb nx.length nc)])), (1, (.pointer (some ⟨bx1, 0, none⟩))), (2, (.slice none 0 0)), (3, .int .i64 (nx.length : Int)), (4, (.slice (some ⟨bx2, 0, none⟩) nx.length nx.length)), (5, .int .i64 (k : Int)), (6, (.slice (some ⟨bx3, 0, none⟩) nx.length nx.length)), (7, .int .i64 (k2 : Int))] ρ) (fun k2 => nx.length - k2) 0 ?_ ?_
  · exact ⟨List.replicate nx.length false, by first | rfl | simp only [List.map_replicate], Nat.zero_le _, TabP.start, ⟨rfl, rfl, rfl, rfl, rfl, rfl, rfl, rfl, trivial⟩⟩
  rintro k2 ρ O ⟨cs, rfl, hk2, hC, hH⟩
  obtain ⟨ρ0, rfl⟩ := hH.elim
  clear hH
  have hcl := hC.1
  refine T.seq (T.seq (T.region ?_))
  refine TO.quiet (q_move rfl) (TO.quiet (q_move rfl) (TO.quiet (q_lss rfl rfl) ?_))
  refine TO.nil ?_
  refine T.condP rfl (fun hc => ?_) (fun hc => ?_)
  · have hlt34 : k2 < nx.length := by omega
    have hq2 : k2 < qs.length := by rw [hA.l]; exact hlt34
    have hx2 := hA.ln hq2
    refine T.skip (T.seq (T.block (T.seq (T.region ?_))))
    refine TO.quiet (q_move rfl) (TO.quiet (q_move rfl) (TO.quiet (q_move rfl) (TO.quiet (q_move rfl) ?_)))
    refine TO.quiet (q_ix (i := k2) Try.underlying126 inf39 rfl rfl (rowO (List.mem_of_getElem? (i := 1) rfl))) (TO.quiet (q_ld Try.underlying39 rfl rfl (rowO (List.mem_of_getElem? (i := 1) rfl)) (bvs_at hq2)) (TO.quiet (q_move rfl) (TO.quiet (q_ix (i := k2) Try.underlying39 inf4 rfl rfl (fun w hI => hI.slOf (bis_at (E := 4) hq2))) ?_)))
    refine TO.quiet (q_ld Try.underlying4 rfl rfl (fun w hI => hI.slOf (bis_at (E := 4) hq2)) bools_get) (TO.quiet (q_ix (i := k2) Try.underlying39 inf4 rfl rfl (rowO (List.mem_of_getElem? (i := 0) rfl))) ?_)
    refine TO.loud rfl (l_st (j := k2) (v := .bool qs[k2].xs[k2]) (vs := [(.bool qs[k2].xs[k2])]) (cs := bools cs) 0 inf4 rfl rfl rfl rfl rfl (by simp) rfl (by first | (simp; omega) | (simp_all; omega)) ?_)
    refine TO.sub (O' := ([rowI (some ⟨bx3, 0, none⟩) nx.length 4 1 (bools (cs.set k2 qs[k2].xs[k2])), rowI (some ⟨bx2, 0, none⟩) nx.length 39 1 (bvs qs), oI bx1 91 [(.int .i64 b.vars), (.int .i64 b.states), (.slice sb b.start.length sc), (.slice eb b.edges.length ec), (.slice tb b.sets.length tc), (.slice ab nx.length ac), (.slice nb nx.length nc)]] ++ (bis 4 qs))) (by rw [show putL (bools cs) k2 [(.bool qs[k2].xs[k2])] = bools (cs.set k2 qs[k2].xs[k2]) from (by simp [putL])]; exact Sub.of (List.Sublist.refl _)) ?_
    refine TO.nil (T.seq (T.region ?_))
    refine TO.quiet (q_assign rfl) ?_
    refine TO.nil (T.block ?_)
    refine T.loop (fun (i : Nat) ρ O => ∃ (co : Bool), O = ([rowI (some ⟨bx3, 0, none⟩) nx.length 4 1 (bools (cs.set k2 co)), rowI (some ⟨bx2, 0, none⟩) nx.length 39 1 (bvs qs), oI bx1 91 [(.int .i64 b.vars), (.int .i64 b.states), (.slice sb b.start.length sc), (.slice eb b.edges.length ec), (.slice tb b.sets.length tc), (.slice ab nx.length ac), (.slice nb nx.length nc)]] ++ (bis 4 qs)) ∧ i ≤ b.sets.length ∧ CoP b sa nx k2 i co ∧ Heads [(0, (.agg #[(.int .i64 b.vars), (.int .i64 b.states), (.slice sb b.start.length sc), (.slice eb b.edges.length ec), (.slice tb b.sets.length tc), (.slice ab nx.length ac), (.slice nb nx.length nc)])), (1, (.pointer (some ⟨bx1, 0, none⟩))), (2, (.slice none 0 0)), (3, .int .i64 (nx.length : Int)), (4, (.slice (some ⟨bx2, 0, none⟩) nx.length nx.length)), (5, .int .i64 (k : Int)), (6, (.slice (some ⟨bx3, 0, none⟩) nx.length nx.length)), (7, .int .i64 (k2 : Int)), (8, .int .i64 (i : Int))] ρ) (fun i => b.sets.length - i) 0 ?_ ?_
    · exact ⟨qs[k2].xs[k2], rfl, Nat.zero_le _, CoP.start (hA.at hq2 (by omega)), ⟨rfl, rfl, rfl, rfl, rfl, rfl, rfl, rfl, rfl, trivial⟩⟩
    rintro i ρ O ⟨co, rfl, hi, hco, hH⟩
    obtain ⟨ρ0, rfl⟩ := hH.elim
    clear hH
    refine T.seq (T.seq (T.region ?_))
    refine TO.quiet (q_move rfl) (TO.quiet (q_fieldAddr Try.underlying91 rfl inf26 rfl rfl) (TO.quiet (q_fieldAddr Try.underlying26 rfl inf24 rfl rfl) (TO.quiet (q_load_box 2 Try.underlying24 rfl rfl rfl rfl) ?_)))
    refine TO.quiet (q_len Try.underlying24 rfl) (TO.quiet (q_lss rfl rfl) ?_)
    by_cases hs53 : (i : Int) < (b.sets.length : Int)
    · refine TO.quiet (QT.toB (q_move rfl) (decide_eq_true hs53)) ?_
      refine TO.guarded rfl rfl rfl (LT.of_quiet rfl rfl (q_move rfl) ?_)
      refine TO.guarded rfl rfl rfl (LT.of_quiet rfl rfl (q_move rfl) ?_)
      refine TO.guarded rfl rfl rfl (LT.of_quiet rfl rfl (q_ix (i := k2) Try.underlying39 inf4 rfl rfl (rowO (List.mem_of_getElem? (i := 0) rfl))) ?_)
      refine TO.guarded rfl rfl rfl (LT.of_quiet rfl rfl (q_ld Try.underlying4 rfl rfl (rowO (List.mem_of_getElem? (i := 0) rfl)) bools_get) ?_)
      refine TO.quiet (q_pick1 rfl rfl) ?_
      refine TO.nil ?_
      refine T.cond rfl (fun hc => ?_) (fun hc => ?_)
      · have hlt52 : i < b.sets.length := by omega
        have hcot : co = true := by simp_all
        obtain ⟨tb2, tc2, g2, s2⟩ := h.rows.get hlt52
        refine T.skip (T.seq (T.block (T.seq (T.region ?_))))
        refine TO.quiet (q_assign rfl) ?_
        refine TO.nil (T.seq (T.seq (T.region ?_)))
        refine TO.quiet (q_assign rfl) ?_
        refine TO.nil (T.block ?_)
        refine T.loop (fun (u : Nat) ρ O => ∃ (fo : Bool), O = ([rowI (some ⟨bx3, 0, none⟩) nx.length 4 1 (bools (cs.set k2 co)), rowI (some ⟨bx2, 0, none⟩) nx.length 39 1 (bvs qs), oI bx1 91 [(.int .i64 b.vars), (.int .i64 b.states), (.slice sb b.start.length sc), (.slice eb b.edges.length ec), (.slice tb b.sets.length tc), (.slice ab nx.length ac), (.slice nb nx.length nc)]] ++ (bis 4 qs)) ∧ u ≤ nx.length ∧ FoP b sa nx k2 i u fo ∧ Heads [(0, (.agg #[(.int .i64 b.vars), (.int .i64 b.states), (.slice sb b.start.length sc), (.slice eb b.edges.length ec), (.slice tb b.sets.length tc), (.slice ab nx.length ac), (.slice nb nx.length nc)])), (1, (.pointer (some ⟨bx1, 0, none⟩))), (2, (.slice none 0 0)), (3, .int .i64 (nx.length : Int)), (4, (.slice (some ⟨bx2, 0, none⟩) nx.length nx.length)), (5, .int .i64 (k : Int)), (6, (.slice (some ⟨bx3, 0, none⟩) nx.length nx.length)), (7, .int .i64 (k2 : Int)), (8, .int .i64 (i : Int)), (9, .bool fo), (10, .int .i64 (u : Int))] ρ) (fun u => nx.length - u) 0 ?_ ?_
        · exact ⟨false, rfl, Nat.zero_le _, FoP.start, ⟨rfl, rfl, rfl, rfl, rfl, rfl, rfl, rfl, rfl, rfl, rfl, trivial⟩⟩
        rintro u ρ O ⟨fo, rfl, hu, hfo, hH⟩
        obtain ⟨ρ0, rfl⟩ := hH.elim
        clear hH
        refine T.seq (T.seq (T.region ?_))
        refine TO.quiet (q_move rfl) (TO.quiet (q_move rfl) (TO.quiet (q_lss rfl rfl) ?_))
        by_cases hs64 : (u : Int) < (nx.length : Int)
        · refine TO.quiet (QT.toB (q_move rfl) (decide_eq_true hs64)) ?_
          refine TO.guarded rfl rfl rfl (LT.of_quiet rfl rfl (q_move rfl) ?_)
          refine TO.guarded rfl rfl rfl (LT.of_quiet rfl rfl (q_not rfl) ?_)
          refine TO.quiet (q_pick1 rfl rfl) ?_
          refine TO.nil ?_
          refine T.cond rfl (fun hc => ?_) (fun hc => ?_)
          · have hu9 : u < nx.length := by omega
            have hqu : u < qs.length := by omega
            have hxu := hA.ln hqu
            refine T.skip (T.seq (T.block ?_))
            refine T.draws _ [(0, 0), (1, 0), (2, 0), (3, 0), (4, 0), (5, 0), (6, 0), (7, 0), (8, 0), (9, 0), (10, 0), (11, 1), (12, 0), (13, 0), (14, 0), (15, 0), (16, 0), (17, 0), (18, 0), (19, 0), (20, 0), (21, 0), (22, 0), (23, 0), (24, 0), (25, 0), (26, 0), (27, 0), (28, 0), (29, 0), (30, 0), (31, 0), (32, 0), (33, 0), (34, 0), (35, 0)] mixed (by kernel_rfl) (Sub.of (List.Sublist.refl _)) (fun _ _ _ h => h) ?_
            refine DO.quiet rfl (q_fieldAddr Try.underlying91 rfl inf26 rfl rfl) (DO.quiet rfl (q_fieldAddr Try.underlying26 rfl inf24 rfl rfl) (DO.quiet rfl (q_load_box 2 Try.underlying24 rfl rfl rfl rfl) (DO.quiet rfl (q_move rfl) ?_)))
            refine DO.quiet rfl (q_ix (i := i) Try.underlying24 inf22 rfl rfl (Sl.o h.out) (by first | assumption | omega | (simp; omega) | simp_all) (by rw [h.rows.1]; exact hlt52)) (DO.quiet rfl (q_ld Try.underlying22 rfl rfl (Sl.o h.out) g2) (DO.quiet rfl (q_fieldAddr Try.underlying91 rfl inf22 rfl rfl) (DO.quiet rfl (q_load_box 2 Try.underlying22 rfl rfl rfl rfl) ?_)))
            refine DO.quiet rfl (q_move rfl) (DO.quiet rfl (q_ix (i := u) Try.underlying22 inf3 rfl rfl (Sl.o hSA)) (DO.quiet rfl (q_ld Try.underlying3 rfl rfl (Sl.o hSA) nats_get) ?_))
            have hk81 := fun (w1 : World) (hI : Inv w ([rowI (some ⟨bx3, 0, none⟩) nx.length 4 1 (bools (cs.set k2 co)), rowI (some ⟨bx2, 0, none⟩) nx.length 39 1 (bvs qs), oI bx1 91 [(.int .i64 b.vars), (.int .i64 b.states), (.slice sb b.start.length sc), (.slice eb b.edges.length ec), (.slice tb b.sets.length tc), (.slice ab nx.length ac), (.slice nb nx.length nc)]] ++ (bis 4 qs)) w1) => hasInt w1 tb2 tc2 b.sets[i] ((sa[u] : Nat) : Int) (hI.sl s2) (by have := hB.sr _ (List.getElem_mem hlt52); omega)
            refine DO.loud rfl rfl (l_call ent31 (CallT.of_pure hk81) rfl ?_)
            clear hk81
            rintro vr O' ⟨N, rfl, rfl, rfl⟩
            refine ⟨Sub.pickR [0, 0, 0] [rowI (some ⟨bx3, 0, none⟩) nx.length 4 1 (bools (cs.set k2 co)), rowI (some ⟨bx2, 0, none⟩) nx.length 39 1 (bvs qs), oI bx1 91 [(.int .i64 b.vars), (.int .i64 b.states), (.slice sb b.start.length sc), (.slice eb b.edges.length ec), (.slice tb b.sets.length tc), (.slice ab nx.length ac), (.slice nb nx.length nc)]] (bis 4 qs) rfl rfl, ?_⟩
            
            by_cases hs82 : ((sa[u] : Nat) : Int) ∈ b.sets[i]
            · refine DO.quiet rfl (QT.toB (q_move rfl) (decide_eq_true hs82)) ?_
              refine DO.guarded rfl rfl rfl (q_move rfl) ?_
              refine DO.guarded rfl rfl rfl (q_move rfl) ?_
              refine DO.guarded rfl rfl rfl (q_eql rfl rfl) ?_
              by_cases hs86 : (u : Int) = (k2 : Int)
              · refine DO.guarded rfl rfl rfl (QT.toB (q_move rfl) (decide_eq_true hs86)) ?_
                refine DO.passed rfl rfl rfl ?_
                refine DO.passed rfl rfl rfl ?_
                refine DO.passed rfl rfl rfl ?_
                refine DO.passed rfl rfl rfl ?_
                refine DO.passed rfl rfl rfl ?_
                refine DO.passed rfl rfl rfl ?_
                refine DO.passed rfl rfl rfl ?_
                refine DO.passed rfl rfl rfl ?_
                refine DO.passed rfl rfl rfl ?_
                refine DO.passed rfl rfl rfl ?_
                refine DO.passed rfl rfl rfl ?_
                refine DO.passed rfl rfl rfl ?_
                refine DO.passed rfl rfl rfl ?_
                refine DO.passed rfl rfl rfl ?_
                refine DO.passed rfl rfl rfl ?_
                refine DO.passed rfl rfl rfl ?_
                refine DO.guarded rfl rfl rfl (q_pick1 rfl rfl) ?_
                refine DO.quiet rfl (q_pick1 rfl rfl) (DO.quiet rfl (q_assign rfl) ?_)
                refine DO.done ?_
                refine T.region ?_
                refine TO.quiet (q_move rfl) (TO.quiet (q_addN (a := u) (b := 1) rfl rfl (by omega)) (TO.quiet (q_assign rfl) ?_))
                refine TO.nil ?_
                refine ⟨u + 1, by omega, true, rfl, by omega, hfo.step (by simp_all) ?_, ⟨rfl, rfl, rfl, rfl, rfl, rfl, rfl, rfl, rfl, rfl, rfl, trivial⟩⟩
                rw [has_iff hA hsal hq2 hqu hlt52 (by omega) (by omega) (by omega)]
                first
                | (simp_all; done)
                | (simp_all; exact .inl (by omega))
                | (simp_all; omega)
              refine DO.guarded rfl rfl rfl (QT.toB (q_move rfl) (decide_eq_false hs86)) ?_
              refine DO.guarded rfl rfl rfl (q_move rfl) ?_
              refine DO.guarded rfl rfl rfl (q_move rfl) ?_
              refine DO.guarded rfl rfl rfl (q_ix (i := k2) Try.underlying126 inf39 rfl rfl (rowO (List.mem_of_getElem? (i := 1) rfl))) ?_
              refine DO.guarded rfl rfl rfl (q_ld Try.underlying39 rfl rfl (rowO (List.mem_of_getElem? (i := 1) rfl)) (bvs_at hq2)) ?_
              refine DO.guarded rfl rfl rfl (q_move rfl) ?_
              refine DO.guarded rfl rfl rfl (q_ix (i := u) Try.underlying39 inf4 rfl rfl (fun w hI => hI.slOf (bis_at (E := 4) hq2))) ?_
              refine DO.guarded rfl rfl rfl (q_ld Try.underlying4 rfl rfl (fun w hI => hI.slOf (bis_at (E := 4) hq2)) bools_get) ?_
              by_cases hs94 : qs[k2].xs[u] = true
              · refine DO.guarded rfl rfl rfl (QT.toB (q_move rfl) (hs94)) ?_
                refine DO.guarded rfl rfl rfl (q_move rfl) ?_
                refine DO.guarded rfl rfl rfl (q_move rfl) ?_
                refine DO.guarded rfl rfl rfl (q_ix (i := u) Try.underlying126 inf39 rfl rfl (rowO (List.mem_of_getElem? (i := 1) rfl))) ?_
                refine DO.guarded rfl rfl rfl (q_ld Try.underlying39 rfl rfl (rowO (List.mem_of_getElem? (i := 1) rfl)) (bvs_at hqu)) ?_
                refine DO.guarded rfl rfl rfl (q_move rfl) ?_
                refine DO.guarded rfl rfl rfl (q_ix (i := k2) Try.underlying39 inf4 rfl rfl (fun w hI => hI.slOf (bis_at (E := 4) hqu))) ?_
                refine DO.guarded rfl rfl rfl (q_ld Try.underlying4 rfl rfl (fun w hI => hI.slOf (bis_at (E := 4) hqu)) bools_get) ?_
                refine DO.guarded rfl rfl rfl (q_pick1 rfl rfl) ?_
                refine DO.guarded rfl rfl rfl (q_pick0 rfl rfl) ?_
                refine DO.quiet rfl (q_pick1 rfl rfl) (DO.quiet rfl (q_assign rfl) ?_)
                refine DO.done ?_
                refine T.region ?_
                refine TO.quiet (q_move rfl) (TO.quiet (q_addN (a := u) (b := 1) rfl rfl (by omega)) (TO.quiet (q_assign rfl) ?_))
                refine TO.nil ?_
                refine ⟨u + 1, by omega, qs[u].xs[k2], rfl, by omega, hfo.step (by simp_all) ?_, ⟨rfl, rfl, rfl, rfl, rfl, rfl, rfl, rfl, rfl, rfl, rfl, trivial⟩⟩
                rw [has_iff hA hsal hq2 hqu hlt52 (by omega) (by omega) (by omega)]
                first
                | (simp_all; done)
                | (simp_all; exact .inl (by omega))
                | (simp_all; omega)
              refine DO.guarded rfl rfl rfl (QT.toB (q_move rfl) (Bool.eq_false_iff.2 hs94)) ?_
              refine DO.passed rfl rfl rfl ?_
              refine DO.passed rfl rfl rfl ?_
              refine DO.passed rfl rfl rfl ?_
              refine DO.passed rfl rfl rfl ?_
              refine DO.passed rfl rfl rfl ?_
              refine DO.passed rfl rfl rfl ?_
              refine DO.passed rfl rfl rfl ?_
              refine DO.guarded rfl rfl rfl (q_pick0 rfl rfl) ?_
              refine DO.guarded rfl rfl rfl (q_pick0 rfl rfl) ?_
              refine DO.quiet rfl (q_pick1 rfl rfl) (DO.quiet rfl (q_assign rfl) ?_)
              refine DO.done ?_
              refine T.region ?_
              refine TO.quiet (q_move rfl) (TO.quiet (q_addN (a := u) (b := 1) rfl rfl (by omega)) (TO.quiet (q_assign rfl) ?_))
              refine TO.nil ?_
              refine ⟨u + 1, by omega, false, rfl, by omega, hfo.step (by simp_all) ?_, ⟨rfl, rfl, rfl, rfl, rfl, rfl, rfl, rfl, rfl, rfl, rfl, trivial⟩⟩
              rw [has_iff hA hsal hq2 hqu hlt52 (by omega) (by omega) (by omega)]
              first
              | (simp_all; done)
              | (simp_all; exact .inl (by omega))
              | (simp_all; omega)
            refine DO.quiet rfl (QT.toB (q_move rfl) (decide_eq_false hs82)) ?_
            refine DO.passed rfl rfl rfl ?_
            refine DO.passed rfl rfl rfl ?_
            refine DO.passed rfl rfl rfl ?_
            refine DO.passed rfl rfl rfl ?_
            refine DO.passed rfl rfl rfl ?_
            refine DO.passed rfl rfl rfl ?_
            refine DO.passed rfl rfl rfl ?_
            refine DO.passed rfl rfl rfl ?_
            refine DO.passed rfl rfl rfl ?_
            refine DO.passed rfl rfl rfl ?_
            refine DO.passed rfl rfl rfl ?_
            refine DO.passed rfl rfl rfl ?_
            refine DO.passed rfl rfl rfl ?_
            refine DO.passed rfl rfl rfl ?_
            refine DO.passed rfl rfl rfl ?_
            refine DO.passed rfl rfl rfl ?_
            refine DO.passed rfl rfl rfl ?_
            refine DO.passed rfl rfl rfl ?_
            refine DO.passed rfl rfl rfl ?_
            refine DO.passed rfl rfl rfl ?_
            refine DO.passed rfl rfl rfl ?_
            refine DO.quiet rfl (q_pick0 rfl rfl) (DO.quiet rfl (q_assign rfl) ?_)
            refine DO.done ?_
            refine T.region ?_
            refine TO.quiet (q_move rfl) (TO.quiet (q_addN (a := u) (b := 1) rfl rfl (by omega)) (TO.quiet (q_assign rfl) ?_))
            refine TO.nil ?_
            refine ⟨u + 1, by omega, false, rfl, by omega, hfo.step (by simp_all) ?_, ⟨rfl, rfl, rfl, rfl, rfl, rfl, rfl, rfl, rfl, rfl, rfl, trivial⟩⟩
            rw [has_iff hA hsal hq2 hqu hlt52 (by omega) (by omega) (by omega)]
            first
            | (simp_all; done)
            | (simp_all; exact .inl (by omega))
            | (simp_all; omega)
          refine T.exit ?_
          refine T.region ?_
          refine TO.quiet (q_move rfl) (TO.quiet (q_move rfl) (TO.quiet (q_move rfl) (TO.quiet (q_ix (i := k2) Try.underlying39 inf4 rfl rfl (rowO (List.mem_of_getElem? (i := 0) rfl))) ?_)))
          refine TO.loud rfl (l_st (j := k2) (v := .bool fo) (vs := [(.bool fo)]) (cs := bools (cs.set k2 co)) 0 inf4 rfl rfl rfl rfl rfl (by simp) rfl (by first | (simp; omega) | (simp_all; omega)) ?_)
          refine TO.sub (O' := ([rowI (some ⟨bx3, 0, none⟩) nx.length 4 1 (bools (cs.set k2 fo)), rowI (some ⟨bx2, 0, none⟩) nx.length 39 1 (bvs qs), oI bx1 91 [(.int .i64 b.vars), (.int .i64 b.states), (.slice sb b.start.length sc), (.slice eb b.edges.length ec), (.slice tb b.sets.length tc), (.slice ab nx.length ac), (.slice nb nx.length nc)]] ++ (bis 4 qs))) (by rw [show putL (bools (cs.set k2 co)) k2 [(.bool fo)] = bools (cs.set k2 fo) from (by simp [putL])]; exact Sub.of (List.Sublist.refl _)) ?_
          refine TO.nil (T.region ?_)
          refine TO.quiet (q_move rfl) (TO.quiet (q_addN (a := i) (b := 1) rfl rfl (by omega)) (TO.quiet (q_assign rfl) ?_))
          refine TO.nil ?_
          exact ⟨i + 1, by omega, fo, rfl, by omega, hco.step hcot (hfo.done (by first | (right; omega) | (left; simp_all; done))), ⟨rfl, rfl, rfl, rfl, rfl, rfl, rfl, rfl, rfl, trivial⟩⟩
        refine TO.quiet (QT.toB (q_move rfl) (decide_eq_false hs64)) ?_
        refine TO.passed rfl rfl ?_
        refine TO.passed rfl rfl ?_
        refine TO.quiet (q_pick0 rfl rfl) ?_
        refine TO.nil ?_
        refine T.cond0 rfl ?_
        refine T.exit ?_
        refine T.region ?_
        refine TO.quiet (q_move rfl) (TO.quiet (q_move rfl) (TO.quiet (q_move rfl) (TO.quiet (q_ix (i := k2) Try.underlying39 inf4 rfl rfl (rowO (List.mem_of_getElem? (i := 0) rfl))) ?_)))
        refine TO.loud rfl (l_st (j := k2) (v := .bool fo) (vs := [(.bool fo)]) (cs := bools (cs.set k2 co)) 0 inf4 rfl rfl rfl rfl rfl (by simp) rfl (by first | (simp; omega) | (simp_all; omega)) ?_)
        refine TO.sub (O' := ([rowI (some ⟨bx3, 0, none⟩) nx.length 4 1 (bools (cs.set k2 fo)), rowI (some ⟨bx2, 0, none⟩) nx.length 39 1 (bvs qs), oI bx1 91 [(.int .i64 b.vars), (.int .i64 b.states), (.slice sb b.start.length sc), (.slice eb b.edges.length ec), (.slice tb b.sets.length tc), (.slice ab nx.length ac), (.slice nb nx.length nc)]] ++ (bis 4 qs))) (by rw [show putL (bools (cs.set k2 co)) k2 [(.bool fo)] = bools (cs.set k2 fo) from (by simp [putL])]; exact Sub.of (List.Sublist.refl _)) ?_
        refine TO.nil (T.region ?_)
        refine TO.quiet (q_move rfl) (TO.quiet (q_addN (a := i) (b := 1) rfl rfl (by omega)) (TO.quiet (q_assign rfl) ?_))
        refine TO.nil ?_
        exact ⟨i + 1, by omega, fo, rfl, by omega, hco.step hcot (hfo.done (by first | (right; omega) | (left; simp_all; done))), ⟨rfl, rfl, rfl, rfl, rfl, rfl, rfl, rfl, rfl, trivial⟩⟩
      refine T.exit ?_
      refine T.region ?_
      refine TO.quiet (q_move rfl) (TO.quiet (q_addN (a := k2) (b := 1) rfl rfl (by omega)) (TO.quiet (q_assign rfl) ?_))
      refine TO.nil ?_
      exact ⟨k2 + 1, by omega, cs.set k2 co, rfl, by omega, hC.step (by omega) (hco.done hi (by first | (right; omega) | (left; simp_all; done))), ⟨rfl, rfl, rfl, rfl, rfl, rfl, rfl, rfl, trivial⟩⟩
    refine TO.quiet (QT.toB (q_move rfl) (decide_eq_false hs53)) ?_
    refine TO.passed rfl rfl ?_
    refine TO.passed rfl rfl ?_
    refine TO.passed rfl rfl ?_
    refine TO.passed rfl rfl ?_
    refine TO.quiet (q_pick0 rfl rfl) ?_
    refine TO.nil ?_
    refine T.cond0 rfl ?_
    refine T.exit ?_
    refine T.region ?_
    refine TO.quiet (q_move rfl) (TO.quiet (q_addN (a := k2) (b := 1) rfl rfl (by omega)) (TO.quiet (q_assign rfl) ?_))
    refine TO.nil ?_
    exact ⟨k2 + 1, by omega, cs.set k2 co, rfl, by omega, hC.step (by omega) (hco.done hi (by first | (right; omega) | (left; simp_all; done))), ⟨rfl, rfl, rfl, rfl, rfl, rfl, rfl, rfl, trivial⟩⟩
  have hge34 : ¬ k2 < nx.length := by omega
  refine T.exit ?_
  refine T.seq (T.region ?_)
  refine TO.quiet (q_move rfl) ?_
  refine TO.loud rfl (l_makeSlice (m := nx.length) Try.underlying39 inf4 rfl rfl (by omega) (by omega) (fun bx4 => ?_))
  refine TO.quiet (q_assign rfl) ?_
  refine TO.nil (T.seq (T.seq (T.region ?_)))
  refine TO.quiet (q_assign rfl) ?_
  refine TO.nil (T.block ?_)
  have hk2e : k2 = nx.length := by omega
  rw [hk2e] at hC
  refine T.sub (O' := [rowI (some ⟨bx4, 0, none⟩) nx.length 4 1 (List.replicate nx.length (.bool false)), rowI (some ⟨bx3, 0, none⟩) nx.length 4 1 (bools cs), rowI (some ⟨bx2, 0, none⟩) nx.length 39 1 (bvs qs), oI bx1 91 [(.int .i64 b.vars), (.int .i64 b.states), (.slice sb b.start.length sc), (.slice eb b.edges.length ec), (.slice tb b.sets.length tc), (.slice ab nx.length ac), (.slice nb nx.length nc)]] ++ bis 4 qs) (Sub.pickR [0, 0, 0, 0] [rowI (some ⟨bx4, 0, none⟩) nx.length 4 1 (List.replicate nx.length (.bool false)), rowI (some ⟨bx3, 0, none⟩) nx.length 4 1 (bools cs), rowI (some ⟨bx2, 0, none⟩) nx.length 39 1 (bvs qs), oI bx1 91 [(.int .i64 b.vars), (.int .i64 b.states), (.slice sb b.start.length sc), (.slice eb b.edges.length ec), (.slice tb b.sets.length tc), (.slice ab nx.length ac), (.slice nb nx.length nc)]] (bis 4 qs) rfl rfl) ?_
  refine T.loop (fun (k5 : Nat) ρ O => ∃ (os : List Bool), O = ([rowI (some ⟨bx4, 0, none⟩) nx.length 4 1 (bools os), rowI (some ⟨bx3, 0, none⟩) nx.length 4 1 (bools cs), rowI (some ⟨bx2, 0, none⟩) nx.length 39 1 (bvs qs), oI bx1 91 [(.int .i64 b.vars), (.int .i64 b.states), (.slice sb b.start.length sc), (.slice eb b.edges.length ec), (.slice tb b.sets.length tc), (.slice ab nx.length ac), (.slice nb nx.length nc)]] ++ (bis 4 qs)) ∧ k5 ≤ nx.length ∧ TabP nx.length k5 (liveR b sa nx) os ∧ Heads [(0, (.agg #[(.int .i64 b.vars), (.int .i64 b.states), (.slice sb b.start.length sc), (.slice eb b.edges.length ec), (.slice tb b.sets.length tc), (.slice ab nx.length ac), (.slice nb nx.length nc)])), (1, (.pointer (some ⟨bx1, 0, none⟩))), (2, (.slice none 0 0)), (3, .int .i64 (nx.length : Int)), (4, (.slice (some ⟨bx2, 0, none⟩) nx.length nx.length)), (5, .int .i64 (k : Int)), (6, (.slice (some ⟨bx3, 0, none⟩) nx.length nx.length)), (7, .int .i64 (k2 : Int)), (11, (.slice (some ⟨bx4, 0, none⟩) nx.length nx.length)), (12, .int .i64 (k5 : Int))] ρ) (fun k5 => nx.length - k5) 0 ?_ ?_
  · exact ⟨List.replicate nx.length false, by first | rfl | simp only [List.map_replicate], Nat.zero_le _, TabP.start, ⟨rfl, rfl, rfl, rfl, rfl, rfl, rfl, rfl, rfl, rfl, trivial⟩⟩
  rintro k5 ρ O ⟨os, rfl, hk5, hO, hH⟩
  obtain ⟨ρ0, rfl⟩ := hH.elim
  clear hH
  have hol := hO.1
  refine T.seq (T.seq (T.region ?_))
  refine TO.quiet (q_move rfl) (TO.quiet (q_move rfl) (TO.quiet (q_lss rfl rfl) ?_))
  refine TO.nil ?_
  refine T.condP rfl (fun hc => ?_) (fun hc => ?_)
  · have hlt113 : k5 < nx.length := by omega
    have hq5 : k5 < qs.length := by rw [hA.l]; exact hlt113
    have hx5 := hA.ln hq5
    refine T.skip (T.seq (T.block (T.seq (T.region ?_))))
    refine TO.quiet (q_move rfl) (TO.quiet (q_move rfl) (TO.quiet (q_move rfl) (TO.quiet (q_move rfl) ?_)))
    refine TO.quiet (q_ix (i := k5) Try.underlying39 inf4 rfl rfl (rowO (List.mem_of_getElem? (i := 1) rfl))) (TO.quiet (q_ld Try.underlying4 rfl rfl (rowO (List.mem_of_getElem? (i := 1) rfl)) bools_get) (TO.quiet (q_ix (i := k5) Try.underlying39 inf4 rfl rfl (rowO (List.mem_of_getElem? (i := 0) rfl))) ?_))
    refine TO.loud rfl (l_st (j := k5) (v := .bool cs[k5]) (vs := [(.bool cs[k5])]) (cs := bools os) 0 inf4 rfl rfl rfl rfl rfl (by simp) rfl (by first | (simp; omega) | (simp_all; omega)) ?_)
    refine TO.sub (O' := ([rowI (some ⟨bx4, 0, none⟩) nx.length 4 1 (bools (os.set k5 cs[k5])), rowI (some ⟨bx3, 0, none⟩) nx.length 4 1 (bools cs), rowI (some ⟨bx2, 0, none⟩) nx.length 39 1 (bvs qs), oI bx1 91 [(.int .i64 b.vars), (.int .i64 b.states), (.slice sb b.start.length sc), (.slice eb b.edges.length ec), (.slice tb b.sets.length tc), (.slice ab nx.length ac), (.slice nb nx.length nc)]] ++ (bis 4 qs))) (by rw [show putL (bools os) k5 [(.bool cs[k5])] = bools (os.set k5 cs[k5]) from (by simp [putL])]; exact Sub.of (List.Sublist.refl _)) ?_
    refine TO.nil (T.seq (T.region ?_))
    refine TO.quiet (q_assign rfl) ?_
    refine TO.nil (T.block ?_)
    refine T.loop (fun (u6 : Nat) ρ O => ∃ (li : Bool), O = ([rowI (some ⟨bx4, 0, none⟩) nx.length 4 1 (bools (os.set k5 li)), rowI (some ⟨bx3, 0, none⟩) nx.length 4 1 (bools cs), rowI (some ⟨bx2, 0, none⟩) nx.length 39 1 (bvs qs), oI bx1 91 [(.int .i64 b.vars), (.int .i64 b.states), (.slice sb b.start.length sc), (.slice eb b.edges.length ec), (.slice tb b.sets.length tc), (.slice ab nx.length ac), (.slice nb nx.length nc)]] ++ (bis 4 qs)) ∧ u6 ≤ nx.length ∧ LiP b sa nx k5 u6 li ∧ Heads [(0, (.agg #[(.int .i64 b.vars), (.int .i64 b.states), (.slice sb b.start.length sc), (.slice eb b.edges.length ec), (.slice tb b.sets.length tc), (.slice ab nx.length ac), (.slice nb nx.length nc)])), (1, (.pointer (some ⟨bx1, 0, none⟩))), (2, (.slice none 0 0)), (3, .int .i64 (nx.length : Int)), (4, (.slice (some ⟨bx2, 0, none⟩) nx.length nx.length)), (5, .int .i64 (k : Int)), (6, (.slice (some ⟨bx3, 0, none⟩) nx.length nx.length)), (7, .int .i64 (k2 : Int)), (11, (.slice (some ⟨bx4, 0, none⟩) nx.length nx.length)), (12, .int .i64 (k5 : Int)), (13, .int .i64 (u6 : Int))] ρ) (fun u6 => nx.length - u6) 0 ?_ ?_
    · exact ⟨cs[k5], rfl, Nat.zero_le _, LiP.start (hC.at hlt113 (by omega)), ⟨rfl, rfl, rfl, rfl, rfl, rfl, rfl, rfl, rfl, rfl, rfl, trivial⟩⟩
    rintro u6 ρ O ⟨li, rfl, hu6, hli, hH⟩
    obtain ⟨ρ0, rfl⟩ := hH.elim
    clear hH
    refine T.seq (T.seq (T.region ?_))
    refine TO.quiet (q_move rfl) (TO.quiet (q_move rfl) (TO.quiet (q_lss rfl rfl) ?_))
    by_cases hs126 : (u6 : Int) < (nx.length : Int)
    · refine TO.quiet (QT.toB (q_move rfl) (decide_eq_true hs126)) ?_
      refine TO.guarded rfl rfl rfl (LT.of_quiet rfl rfl (q_move rfl) ?_)
      refine TO.guarded rfl rfl rfl (LT.of_quiet rfl rfl (q_move rfl) ?_)
      refine TO.guarded rfl rfl rfl (LT.of_quiet rfl rfl (q_ix (i := k5) Try.underlying39 inf4 rfl rfl (rowO (List.mem_of_getElem? (i := 0) rfl))) ?_)
      refine TO.guarded rfl rfl rfl (LT.of_quiet rfl rfl (q_ld Try.underlying4 rfl rfl (rowO (List.mem_of_getElem? (i := 0) rfl)) bools_get) ?_)
      refine TO.guarded rfl rfl rfl (LT.of_quiet rfl rfl (q_not rfl) ?_)
      refine TO.quiet (q_pick1 rfl rfl) ?_
      refine TO.nil ?_
      refine T.cond rfl (fun hc => ?_) (fun hc => ?_)
      · refine T.skip ?_
        refine T.seq (T.block (T.region ?_))
        refine TO.quiet (q_move rfl) (TO.quiet (q_move rfl) (TO.quiet (q_move rfl) (TO.quiet (q_move rfl) ?_)))
        refine TO.quiet (q_ix (i := k5) Try.underlying126 inf39 rfl rfl (rowO (List.mem_of_getElem? (i := 2) rfl))) (TO.quiet (q_ld Try.underlying39 rfl rfl (rowO (List.mem_of_getElem? (i := 2) rfl)) (bvs_at hq5)) (TO.quiet (q_move rfl) (TO.quiet (q_ix (i := u6) Try.underlying39 inf4 rfl rfl (fun w hI => hI.slOf (bis_at (E := 4) hq5))) ?_)))
        refine TO.quiet (q_ld Try.underlying4 rfl rfl (fun w hI => hI.slOf (bis_at (E := 4) hq5)) bools_get) ?_
        by_cases hs144 : qs[k5].xs[u6] = true
        · refine TO.quiet (QT.toB (q_move rfl) (hs144)) ?_
          refine TO.guarded rfl rfl rfl (LT.of_quiet rfl rfl (q_move rfl) ?_)
          refine TO.guarded rfl rfl rfl (LT.of_quiet rfl rfl (q_move rfl) ?_)
          refine TO.guarded rfl rfl rfl (LT.of_quiet rfl rfl (q_ix (i := u6) Try.underlying39 inf4 rfl rfl (rowO (List.mem_of_getElem? (i := 1) rfl))) ?_)
          refine TO.guarded rfl rfl rfl (LT.of_quiet rfl rfl (q_ld Try.underlying4 rfl rfl (rowO (List.mem_of_getElem? (i := 1) rfl)) bools_get) ?_)
          refine TO.quiet (q_pick1 rfl rfl) (TO.quiet (q_ix (i := k5) Try.underlying39 inf4 rfl rfl (rowO (List.mem_of_getElem? (i := 0) rfl))) ?_)
          refine TO.loud rfl (l_st (j := k5) (v := .bool cs[u6]) (vs := [(.bool cs[u6])]) (cs := bools (os.set k5 li)) 0 inf4 rfl rfl rfl rfl rfl (by simp) rfl (by first | (simp; omega) | (simp_all; omega)) ?_)
          refine TO.sub (O' := ([rowI (some ⟨bx4, 0, none⟩) nx.length 4 1 (bools (os.set k5 cs[u6])), rowI (some ⟨bx3, 0, none⟩) nx.length 4 1 (bools cs), rowI (some ⟨bx2, 0, none⟩) nx.length 39 1 (bvs qs), oI bx1 91 [(.int .i64 b.vars), (.int .i64 b.states), (.slice sb b.start.length sc), (.slice eb b.edges.length ec), (.slice tb b.sets.length tc), (.slice ab nx.length ac), (.slice nb nx.length nc)]] ++ (bis 4 qs))) (by rw [show putL (bools (os.set k5 li)) k5 [(.bool cs[u6])] = bools (os.set k5 cs[u6]) from (by simp [putL])]; exact Sub.of (List.Sublist.refl _)) ?_
          refine TO.nil (T.region ?_)
          refine TO.quiet (q_move rfl) (TO.quiet (q_addN (a := u6) (b := 1) rfl rfl (by omega)) (TO.quiet (q_assign rfl) ?_))
          refine TO.nil ?_
          refine ⟨u6 + 1, by omega, cs[u6], rfl, by omega, hli.step (by simp_all) ?_, ⟨rfl, rfl, rfl, rfl, rfl, rfl, rfl, rfl, rfl, rfl, rfl, trivial⟩⟩
          rw [← hA.at hq5 (by omega : u6 < qs[k5].xs.length), ← hC.at (show u6 < nx.length by omega) (by omega)]
          simp_all
        refine TO.quiet (QT.toB (q_move rfl) (Bool.eq_false_iff.2 hs144)) ?_
        refine TO.passed rfl rfl ?_
        refine TO.passed rfl rfl ?_
        refine TO.passed rfl rfl ?_
        refine TO.passed rfl rfl ?_
        refine TO.quiet (q_pick0 rfl rfl) (TO.quiet (q_ix (i := k5) Try.underlying39 inf4 rfl rfl (rowO (List.mem_of_getElem? (i := 0) rfl))) ?_)
        refine TO.loud rfl (l_st (j := k5) (v := .bool false) (vs := [(.bool false)]) (cs := bools (os.set k5 li)) 0 inf4 rfl rfl rfl rfl rfl (by simp) rfl (by first | (simp; omega) | (simp_all; omega)) ?_)
        refine TO.sub (O' := ([rowI (some ⟨bx4, 0, none⟩) nx.length 4 1 (bools (os.set k5 false)), rowI (some ⟨bx3, 0, none⟩) nx.length 4 1 (bools cs), rowI (some ⟨bx2, 0, none⟩) nx.length 39 1 (bvs qs), oI bx1 91 [(.int .i64 b.vars), (.int .i64 b.states), (.slice sb b.start.length sc), (.slice eb b.edges.length ec), (.slice tb b.sets.length tc), (.slice ab nx.length ac), (.slice nb nx.length nc)]] ++ (bis 4 qs))) (by rw [show putL (bools (os.set k5 li)) k5 [(.bool false)] = bools (os.set k5 false) from (by simp [putL])]; exact Sub.of (List.Sublist.refl _)) ?_
        refine TO.nil (T.region ?_)
        refine TO.quiet (q_move rfl) (TO.quiet (q_addN (a := u6) (b := 1) rfl rfl (by omega)) (TO.quiet (q_assign rfl) ?_))
        refine TO.nil ?_
        refine ⟨u6 + 1, by omega, false, rfl, by omega, hli.step (by simp_all) ?_, ⟨rfl, rfl, rfl, rfl, rfl, rfl, rfl, rfl, rfl, rfl, rfl, trivial⟩⟩
        rw [← hA.at hq5 (by omega : u6 < qs[k5].xs.length), ← hC.at (show u6 < nx.length by omega) (by omega)]
        simp_all
      refine T.exit ?_
      refine T.region ?_
      refine TO.quiet (q_move rfl) (TO.quiet (q_addN (a := k5) (b := 1) rfl rfl (by omega)) (TO.quiet (q_assign rfl) ?_))
      refine TO.nil ?_
      exact ⟨k5 + 1, by omega, os.set k5 li, rfl, by omega, hO.step (by omega) (hli.done hval (by first | (right; omega) | (left; simp_all; done))), ⟨rfl, rfl, rfl, rfl, rfl, rfl, rfl, rfl, rfl, rfl, trivial⟩⟩
    refine TO.quiet (QT.toB (q_move rfl) (decide_eq_false hs126)) ?_
    refine TO.passed rfl rfl ?_
    refine TO.passed rfl rfl ?_
    refine TO.passed rfl rfl ?_
    refine TO.passed rfl rfl ?_
    refine TO.passed rfl rfl ?_
    refine TO.quiet (q_pick0 rfl rfl) ?_
    refine TO.nil ?_
    refine T.cond0 rfl ?_
    refine T.exit ?_
    refine T.region ?_
    refine TO.quiet (q_move rfl) (TO.quiet (q_addN (a := k5) (b := 1) rfl rfl (by omega)) (TO.quiet (q_assign rfl) ?_))
    refine TO.nil ?_
    exact ⟨k5 + 1, by omega, os.set k5 li, rfl, by omega, hO.step (by omega) (hli.done hval (by first | (right; omega) | (left; simp_all; done))), ⟨rfl, rfl, rfl, rfl, rfl, rfl, rfl, rfl, rfl, rfl, trivial⟩⟩
  have hge113 : ¬ k5 < nx.length := by omega
  refine T.exit ?_
  refine T.seq (T.region ?_)
  refine TO.quiet (q_move rfl) (TO.quiet (q_assign rfl) ?_)
  refine TO.nil (T.ret (Res.drop ?_))
  refine Res.one (.slice (some ⟨bx4, 0, none⟩) nx.length nx.length) Try.results61 rfl ?_
  have hk5e : k5 = nx.length := by omega
  rw [hk5e] at hO
  exact ⟨[rowI (some ⟨bx4, 0, none⟩) nx.length 4 1 (bools os)], (Sub.pick0 [0] [rowI (some ⟨bx4, 0, none⟩) nx.length 4 1 (bools os), rowI (some ⟨bx3, 0, none⟩) nx.length 4 1 (bools cs), rowI (some ⟨bx2, 0, none⟩) nx.length 39 1 (bvs qs), oI bx1 91 [(.int .i64 b.vars), (.int .i64 b.states), (.slice sb b.start.length sc), (.slice eb b.edges.length ec), (.slice tb b.sets.length tc), (.slice ab nx.length ac), (.slice nb nx.length nc)]] (bis 4 qs) rfl rfl), _, _, os, rfl, rfl, hO⟩
end Go.Proofs.Ytnamoapbienooaa

