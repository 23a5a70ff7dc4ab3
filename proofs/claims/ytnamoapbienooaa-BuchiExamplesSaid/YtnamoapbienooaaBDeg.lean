/- Contracts of functions of the program (BDeg): what each call answers and that it leaves memory as it was. Conditions: those each theorem names. -/
import Derived.Test.YtnamoapbienooaaBOvE
import Derived.Test.YtnamoapbienooaaBMrk
import Derived.Test.YtnamoapbienooaaBChk
set_option linter.unusedSectionVars false
set_option linter.unusedSimpArgs false
set_option linter.unusedVariables false
set_option linter.unnecessarySimpa false
namespace Go.Proofs.Ytnamoapbienooaa
open Go.Lx Go.RowKit
set_option linter.unusedVariables false
set_option linter.unusedSimpArgs false
set_option maxHeartbeats 4000000 in
set_option maxRecDepth 20000 in
theorem degenF (w : World) (b : Bu) (sb eb tb : Option Addr) (sc ec tc : Nat) (vs : List Value) (h : BuAt w b sb eb tb vs) (hB : BuB b) :
    PureT Try.prog 37 [.agg (buCells b sb sc eb ec tb tc).toArray] w fun v N => ∃ sb2 eb2 tb2 sc2 ec2 tc2 qs, v = .tuple #[.agg (buCells (dgB b) sb2 sc2 eb2 ec2 tb2 tc2).toArray, .int .i64 ((degE b : Nat) : Int)] ∧ N = [rowI sb2 sc2 3 1 (ints (dgB b).start), rowI eb2 ec2 54 4 (edsC (dgB b).edges), rowI tb2 tc2 22 1 (vals qs)] ++ itms 3 qs ∧ nums qs = (dgB b).sets := by
  refine CallT.enter Try.func37 rfl Try.ntmps37 rfl ?_
  have hst := hB.st; have hed := hB.ed; have hse := hB.se
  refine T.seq (T.region ?_)
  refine TO.loud rfl (l_box (v := (.agg (buCells b sb sc eb ec tb tc).toArray)) (cs := (buCells b sb sc eb ec tb tc)) rfl rfl (fun bx1 => ?_))
  refine TO.loud rfl (l_alloc inf26 rfl (fun bx2 => ?_))
  refine TO.quiet (q_assign rfl) ?_
  refine TO.nil (T.seq (T.seq (T.region ?_)))
  refine TO.quiet (q_load_boxAgg 1 Try.underlying26 rfl inf26 rfl rfl rfl) ?_
  have hk14 := fun (w1 : World) (hI : Inv w [oI bx2 26 [(.int .i64 0), (.int .i64 0), (.slice none 0 0), (.slice none 0 0), (.slice none 0 0)], oI bx1 26 (buCells b sb sc eb ec tb tc)] w1) => checkF w1 b sb eb tb sc ec tc vs (hI.bu h) hB
  refine TO.loud rfl (l_call ent21 (CallT.of_pure hk14) rfl ?_)
  clear hk14
  rintro vr O' ⟨N, rfl, rfl, rfl⟩
  refine TO.quiet (q_assign rfl) ?_
  refine TO.nil (T.seq (T.region ?_))
  refine TO.quiet (q_move rfl) (TO.quiet (q_neq rfl rfl) ?_)
  refine TO.nil ?_
  refine T.condP rfl (fun hc => ?_) (fun hc => ?_)
  · have hlt16 : checkB b ≠ 0 := by omega
    refine T.seq ?_
    refine T.nilRow 22 1 ?_
    refine T.nilRow 54 4 ?_
    refine T.nilRow 3 1 ?_
    refine T.region ?_
    refine TO.quiet (q_load_boxAgg 3 Try.underlying26 rfl inf26 rfl rfl rfl) (TO.quiet (q_move rfl) ?_)
    refine TO.loud rfl (l_store_box (v := (.agg #[(.int .i64 0), (.int .i64 0), (.slice none 0 0), (.slice none 0 0), (.slice none 0 0)])) (vs := [(.int .i64 0), (.int .i64 0), (.slice none 0 0), (.slice none 0 0), (.slice none 0 0)]) 3 inf26 rfl rfl rfl rfl rfl rfl (by simp [putL]) ?_)
    refine TO.quiet (q_assign rfl) ?_
    refine TO.nil (T.ret (Res.drop ?_))
    refine Res.cell1b (.int .i64 ((checkB b : Nat) : Int)) (i := 3) Try.results37 Try.underlying26 rfl inf26 rfl rfl rfl rfl ?_
    have hE9 : degE b = checkB b := by unfold degE; rw [if_pos (by omega)]
    have hz9 : dgB b = zeroBu := by unfold dgB; rw [if_neg (by rw [hE9]; omega)]
    refine ⟨[rowI none 0 3 1 [], rowI none 0 54 4 [], rowI none 0 22 1 []] ++ itms 3 [], ?_, none, none, none, 0, 0, 0, [], ?_, ?_, ?_⟩
    · exact Sub.cnt [oI bx2 26 [(.int .i64 0), (.int .i64 0), (.slice none 0 0), (.slice none 0 0), (.slice none 0 0)], oI bx1 26 (buCells b sb sc eb ec tb tc)] (by intro a; simp only [itms, oI, List.set_cons_zero, List.set_cons_succ, putL, List.cons_append, List.nil_append, List.append_nil, List.append_assoc, List.map_append, List.map_cons, List.map_nil, cnt_append, cnt_cons, cnt_nil, buCells, laCells] <;> omega)
    · rw [hz9, hE9]; rfl
    · rw [hz9]; rfl
    · rw [hz9]; rfl
  have hge16 : ¬ checkB b ≠ 0 := by omega
  refine T.skip (T.seq ?_)
  have he : checkB b = 0 := by omega
  have hv : ValidB b := checkB_zero.1 he
  have hv0 := hv.n0; have hv4 := hv.n4; have hm8 := hv.m8
  have hnm : b.sets.length * b.states.toNat ≤ 8 * 4096 := Nat.mul_le_mul hm8 (by omega)
  have hmx : b.states.toNat * max b.sets.length 1 ≤ 4096 * 8 := Nat.mul_le_mul (by omega) (by omega)
  refine T.region ?_
  refine TO.quiet (q_fieldAddr Try.underlying26 rfl inf24 rfl rfl) (TO.quiet (q_load_box 1 Try.underlying24 rfl rfl rfl rfl) (TO.quiet (q_len Try.underlying24 rfl) (TO.quiet (q_assign rfl) ?_)))
  refine TO.nil (T.seq (T.seq (T.region ?_)))
  refine TO.quiet (q_move rfl) (TO.quiet (q_fieldAddr Try.underlying26 rfl inf3 rfl rfl) (TO.quiet (QT.cast (q_load_box 1 Try.underlying3 rfl rfl rfl rfl) (v' := .int .i64 ((b.states.toNat : Nat) : Int)) (by show Value.int _ _ = _; rw [Int.toNat_of_nonneg hv0])) (TO.quiet (q_mulN (a := b.sets.length) (b := b.states.toNat) rfl rfl (by omega)) ?_)))
  refine TO.quiet (q_gtr rfl rfl) ?_
  refine TO.nil ?_
  refine T.condP rfl (fun hc => ?_) (fun hc => ?_)
  · have hlt26 : b.sets.length * b.states.toNat > 4096 := by omega
    refine T.seq ?_
    refine T.nilRow 22 1 ?_
    refine T.nilRow 54 4 ?_
    refine T.nilRow 3 1 ?_
    refine T.region ?_
    refine TO.quiet (q_load_boxAgg 3 Try.underlying26 rfl inf26 rfl rfl rfl) ?_
    refine TO.loud rfl (l_store_box (v := (.agg #[(.int .i64 0), (.int .i64 0), (.slice none 0 0), (.slice none 0 0), (.slice none 0 0)])) (vs := [(.int .i64 0), (.int .i64 0), (.slice none 0 0), (.slice none 0 0), (.slice none 0 0)]) 3 inf26 rfl rfl rfl rfl rfl rfl (by simp [putL]) ?_)
    refine TO.quiet (q_assign rfl) ?_
    refine TO.nil (T.ret (Res.drop ?_))
    refine Res.cell1b (.int .i64 10) (i := 3) Try.results37 Try.underlying26 rfl inf26 rfl rfl rfl rfl ?_
    have hE9 : degE b = 10 := by unfold degE; rw [if_neg (fun q => q he), if_pos (by omega)]
    have hz9 : dgB b = zeroBu := by unfold dgB; rw [if_neg (by rw [hE9]; omega)]
    refine ⟨[rowI none 0 3 1 [], rowI none 0 54 4 [], rowI none 0 22 1 []] ++ itms 3 [], ?_, none, none, none, 0, 0, 0, [], ?_, ?_, ?_⟩
    · exact Sub.cnt [oI bx2 26 [(.int .i64 0), (.int .i64 0), (.slice none 0 0), (.slice none 0 0), (.slice none 0 0)], oI bx1 26 (buCells b sb sc eb ec tb tc)] (by intro a; simp only [itms, oI, List.set_cons_zero, List.set_cons_succ, putL, List.cons_append, List.nil_append, List.append_nil, List.append_assoc, List.map_append, List.map_cons, List.map_nil, cnt_append, cnt_cons, cnt_nil, buCells, laCells] <;> omega)
    · rw [hz9, hE9]; rfl
    · rw [hz9]; rfl
    · rw [hz9]; rfl
  have hge26 : ¬ b.sets.length * b.states.toNat > 4096 := by omega
  refine T.skip (T.seq ?_)
  have hn4 : b.sets.length * b.states.toNat ≤ 4096 := by omega
  refine T.draws [oI bx1 26 (buCells b sb sc eb ec tb tc)] [(0, 0), (1, 0), (2, 0), (3, 0), (4, 0), (5, 0), (6, 0), (7, 0), (8, 0), (9, 1), (10, 0), (11, 2)] mixed (by kernel_rfl) (Sub.pick [1] rfl) (fun _ _ _ h => h) ?_
  refine DO.quiet rfl (q_fieldAddr Try.underlying26 rfl inf3 rfl rfl) (DO.quiet rfl (q_load_box 0 Try.underlying3 rfl rfl rfl rfl) (DO.quiet rfl (q_fieldAddr Try.underlying26 rfl inf3 rfl rfl) (DO.quiet rfl (QT.cast (q_load_box 0 Try.underlying3 rfl rfl rfl rfl) (v' := .int .i64 ((b.states.toNat : Nat) : Int)) (by show Value.int _ _ = _; rw [Int.toNat_of_nonneg hv0])) ?_)))
  refine DO.quiet rfl (q_move rfl) (DO.quiet rfl (q_maxN (a := b.sets.length) (b := 1) rfl rfl) (DO.quiet rfl (q_mulN (a := b.states.toNat) (b := (max b.sets.length 1)) rfl rfl (by omega)) (DO.quiet rfl (q_fieldAddr Try.underlying26 rfl inf22 rfl rfl) ?_)))
  refine DO.quiet rfl (q_load_box 0 Try.underlying22 rfl rfl rfl rfl) ?_
  have hk37 := fun (w1 : World) (hI : Inv w [oI bx2 26 [(.int .i64 0), (.int .i64 0), (.slice none 0 0), (.slice none 0 0), (.slice none 0 0)], oI bx1 26 (buCells b sb sc eb ec tb tc)] w1) => cloneI w1 sb sc b.start (hI.sl h.st) (by omega)
  refine DO.loud rfl rfl (l_call ent70 (CallT.of_pure hk37) rfl ?_)
  clear hk37
  rintro vr O' ⟨N, rfl, cs2, cc2, rfl, rfl⟩
  refine ⟨Sub.pick [2] rfl, ?_⟩
  refine DO.quiet rfl (q_build (cs := [(.int .i64 b.vars), .int .i64 ((b.states.toNat * (max b.sets.length 1) : Nat) : Int), (.slice cs2 b.start.length cc2), (.slice none 0 0), (.slice none 0 0)]) plan26 inf26 (by kernel_rfl)) ?_
  refine DO.last rfl rfl (l_store_box (v := (.agg #[(.int .i64 b.vars), .int .i64 ((b.states.toNat * (max b.sets.length 1) : Nat) : Int), (.slice cs2 b.start.length cc2), (.slice none 0 0), (.slice none 0 0)])) (vs := [(.int .i64 b.vars), .int .i64 ((b.states.toNat * (max b.sets.length 1) : Nat) : Int), (.slice cs2 b.start.length cc2), (.slice none 0 0), (.slice none 0 0)]) 1 inf26 rfl rfl rfl rfl rfl rfl (by simp [putL]) ?_)
  refine DO.done ?_
  refine T.seq (T.seq (T.region ?_))
  refine TO.quiet (q_move rfl) (TO.quiet (q_eql rfl rfl) ?_)
  refine TO.nil ?_
  refine T.condP rfl (fun hc => ?_) (fun hc => ?_)
  · have hlt40 : b.sets.length = 0 := by omega
    refine T.seq (T.region ?_)
    refine TO.quiet (q_fieldAddr Try.underlying26 rfl inf3 rfl rfl) (TO.quiet (QT.cast (q_load_box 2 Try.underlying3 rfl rfl rfl rfl) (v' := .int .i64 ((b.states.toNat : Nat) : Int)) (by show Value.int _ _ = _; rw [Int.toNat_of_nonneg hv0])) ?_)
    refine TO.loud rfl (l_makeSlice (m := b.states.toNat) Try.underlying22 inf3 rfl rfl (by omega) (by omega) (fun bx3 => ?_))
    refine TO.quiet (q_assign rfl) ?_
    refine TO.nil (T.seq (T.seq (T.region ?_)))
    refine TO.quiet (q_move rfl) (TO.quiet (q_len Try.underlying22 rfl) (TO.quiet (q_move rfl) ?_))
    refine TO.nil (T.block ?_)
    refine T.loop (fun (k : Nat) ρ O => ∃ (ys : List Int), O = [rowI (some ⟨bx3, 0, none⟩) b.states.toNat 3 1 (ints ys), rowI cs2 cc2 3 1 (ints b.start), oI bx2 26 [(.int .i64 b.vars), .int .i64 ((b.states.toNat * (max b.sets.length 1) : Nat) : Int), (.slice cs2 b.start.length cc2), (.slice none 0 0), (.slice none 0 0)], oI bx1 26 (buCells b sb sc eb ec tb tc)] ∧ k ≤ b.states.toNat ∧ ys.length = b.states.toNat ∧ ys.take k = allI k ∧ Heads [(0, (.agg (buCells b sb sc eb ec tb tc).toArray)), (1, (.pointer (some ⟨bx1, 0, none⟩))), (2, (.pointer (some ⟨bx2, 0, none⟩))), (3, .int .i64 0), (4, .int .i64 ((checkB b : Nat) : Int)), (5, .int .i64 (b.sets.length : Int)), (6, (.slice (some ⟨bx3, 0, none⟩) b.states.toNat b.states.toNat)), (45, .int .i64 (b.states.toNat : Int)), (46, .int .i64 (k : Int))] ρ) (fun k => b.states.toNat - k) 0 ?_ ?_
    · exact ⟨List.replicate b.states.toNat 0, (by first | (simp only [List.map_replicate]; done) | (simp only [List.map_replicate]; rfl)), Nat.zero_le _, by simp, by simp [allI], ⟨rfl, rfl, rfl, rfl, rfl, rfl, rfl, rfl, rfl, trivial⟩⟩
    rintro k ρ O ⟨ys, rfl, hk, hyl, hyt, hH⟩
    obtain ⟨ρ0, rfl⟩ := hH.elim
    clear hH
    have hlt2 : k ≤ ys.length := by omega
    refine T.seq (T.region ?_)
    refine TO.quiet (q_lss rfl rfl) ?_
    refine TO.nil (T.seq ?_)
    refine T.condP rfl (fun hc => ?_) (fun hc => ?_)
    · have hlt47 : k < b.states.toNat := by omega
      refine T.skip (T.seq (T.block (T.seq (T.region ?_))))
      refine TO.quiet (q_move rfl) (TO.quiet (q_assign rfl) ?_)
      refine TO.nil (T.region ?_)
      refine TO.quiet (q_move rfl) (TO.quiet (q_move rfl) (TO.quiet (q_move rfl) (TO.quiet (q_ix (i := k) Try.underlying22 inf3 rfl rfl (rowO (List.mem_of_getElem? (i := 0) rfl))) ?_)))
      refine TO.loud rfl (l_st (j := k) (v := .int .i64 (k : Int)) (vs := [(.int .i64 (k : Int))]) (cs := ints ys) 0 inf3 rfl rfl rfl rfl rfl (by simp) rfl (by first | (simp; omega) | (simp_all; omega)) ?_)
      refine TO.sub (O' := [rowI (some ⟨bx3, 0, none⟩) b.states.toNat 3 1 (ints (ys.set k ((k : Nat) : Int))), rowI cs2 cc2 3 1 (ints b.start), oI bx2 26 [(.int .i64 b.vars), .int .i64 ((b.states.toNat * (max b.sets.length 1) : Nat) : Int), (.slice cs2 b.start.length cc2), (.slice none 0 0), (.slice none 0 0)], oI bx1 26 (buCells b sb sc eb ec tb tc)]) (by rw [show putL (ints ys) k [(.int .i64 (k : Int))] = ints (ys.set k ((k : Nat) : Int)) from (by simp [putL])]; exact Sub.of (List.Sublist.refl _)) ?_
      refine TO.nil (T.region ?_)
      refine TO.quiet (q_addN (a := k) (b := 1) rfl rfl (by omega)) (TO.quiet (q_move rfl) ?_)
      refine TO.nil ?_
      refine ⟨k + 1, by omega, ys.set k ((k : Nat) : Int), rfl, by omega, by simp [hyl], ?_, ⟨rfl, rfl, rfl, rfl, rfl, rfl, rfl, rfl, rfl, trivial⟩⟩
      rw [take_set_snoc (by omega), hyt, allI_succ]
    have hge47 : ¬ k < b.states.toNat := by omega
    refine T.exit ?_
    refine T.seq ?_
    have hyt2 : ys.take k = allI b.states.toNat := by rw [hyt]; congr 1; omega
    refine T.region ?_
    refine TO.quiet (q_move rfl) ?_
    refine TO.loud rfl (l_build1 (v := (.slice (some ⟨bx3, 0, none⟩) b.states.toNat b.states.toNat)) Try.underlying24 inf22 rfl rfl rfl (fun bx4 => ?_))
    refine TO.quiet (q_fieldAddr Try.underlying26 rfl inf23 rfl rfl) (TO.quiet (q_load_box 4 Try.underlying23 rfl rfl rfl rfl) ?_)
    have hk58 := fun (w1 : World) (hI : Inv w [rowI (some ⟨bx4, 0, none⟩) 1 22 1 [(.slice (some ⟨bx3, 0, none⟩) b.states.toNat b.states.toNat)], rowI (some ⟨bx3, 0, none⟩) b.states.toNat 3 1 (ints ys), rowI cs2 cc2 3 1 (ints b.start), oI bx2 26 [(.int .i64 b.vars), .int .i64 ((b.states.toNat * (max b.sets.length 1) : Nat) : Int), (.slice cs2 b.start.length cc2), (.slice none 0 0), (.slice none 0 0)], oI bx1 26 (buCells b sb sc eb ec tb tc)] w1) => cloneE w1 eb ec b.edges (hI.sl h.ed) (by omega)
    refine TO.loud rfl (l_call ent85 (CallT.of_pure hk58) rfl ?_)
    clear hk58
    rintro vr O' ⟨N, rfl, ce2, cec2, rfl, rfl⟩
    refine TO.quiet (q_fieldAddr Try.underlying26 rfl inf24 rfl rfl) ?_
    refine TO.loud rfl (l_store_box (v := (.slice (some ⟨bx4, 0, none⟩) 1 1)) (vs := [(.slice (some ⟨bx4, 0, none⟩) 1 1)]) 4 inf24 rfl rfl rfl rfl rfl rfl (by simp [putL]) ?_)
    refine TO.quiet (q_fieldAddr Try.underlying26 rfl inf23 rfl rfl) ?_
    refine TO.loud rfl (l_store_box (v := (.slice ce2 b.edges.length cec2)) (vs := [(.slice ce2 b.edges.length cec2)]) 4 inf23 rfl rfl rfl rfl rfl rfl (by simp [putL]) ?_)
    refine TO.nil (T.seq ?_)
    have hya : ys = allI b.states.toNat := by rw [← hyt2]; exact (List.take_of_length_le (by omega)).symm
    refine T.sub (O' := [rowI ce2 cec2 54 4 (edsC b.edges), rowI (some ⟨bx4, 0, none⟩) 1 22 1 (vals [⟨(some ⟨bx3, 0, none⟩), b.states.toNat, allI b.states.toNat⟩]), rowI (some ⟨bx3, 0, none⟩) b.states.toNat 3 1 (ints (allI b.states.toNat)), rowI cs2 cc2 3 1 (ints b.start), oI bx2 26 [(.int .i64 b.vars), .int .i64 ((b.states.toNat * (max b.sets.length 1) : Nat) : Int), (.slice cs2 b.start.length cc2), (.slice ce2 b.edges.length cec2), (.slice (some ⟨bx4, 0, none⟩) 1 1)], oI bx1 26 (buCells b sb sc eb ec tb tc)]) (by rw [show vals [⟨(some ⟨bx3, 0, none⟩), b.states.toNat, allI b.states.toNat⟩] = [(.slice (some ⟨bx3, 0, none⟩) b.states.toNat b.states.toNat)] from by simp [vals, Rec.val, allI_len], show ints (allI b.states.toNat) = ints ys from by rw [hya]]; exact Sub.of (List.Sublist.refl _)) ?_
    refine T.region ?_
    refine TO.quiet (q_load_boxAgg 4 Try.underlying26 rfl inf26 rfl rfl rfl) ?_
    refine TO.loud rfl (l_store_box (v := (.agg #[(.int .i64 b.vars), .int .i64 ((b.states.toNat * (max b.sets.length 1) : Nat) : Int), (.slice cs2 b.start.length cc2), (.slice ce2 b.edges.length cec2), (.slice (some ⟨bx4, 0, none⟩) 1 1)])) (vs := [(.int .i64 b.vars), .int .i64 ((b.states.toNat * (max b.sets.length 1) : Nat) : Int), (.slice cs2 b.start.length cc2), (.slice ce2 b.edges.length cec2), (.slice (some ⟨bx4, 0, none⟩) 1 1)]) 4 inf26 rfl rfl rfl rfl rfl rfl (by simp [putL]) ?_)
    refine TO.quiet (q_assign rfl) ?_
    refine TO.nil (T.ret (Res.drop ?_))
    refine Res.cell1b (.int .i64 0) (i := 4) Try.results37 Try.underlying26 rfl inf26 rfl rfl rfl rfl ?_
    have hE0 : degE b = 0 := by unfold degE; rw [if_neg (fun q => q he), if_neg (by omega)]
    have hdg : dgB b = degB b := by unfold dgB; rw [if_pos hE0]
    have hz0 : b.sets.length = 0 := by omega
    have hde : (degB b).edges = b.edges := if_pos hz0
    have hds : (degB b).sets = [allI b.states.toNat] := if_pos hz0
    refine ⟨[rowI cs2 cc2 3 1 (ints b.start), rowI ce2 cec2 54 4 (edsC b.edges), rowI (some ⟨bx4, 0, none⟩) 1 22 1 (vals [⟨(some ⟨bx3, 0, none⟩), b.states.toNat, allI b.states.toNat⟩])] ++ itms 3 [⟨(some ⟨bx3, 0, none⟩), b.states.toNat, allI b.states.toNat⟩], (Sub.pick [3, 0, 0, 0] rfl), cs2, ce2, (some ⟨bx4, 0, none⟩), cc2, cec2, 1, [⟨(some ⟨bx3, 0, none⟩), b.states.toNat, allI b.states.toNat⟩], ?_, ?_, ?_⟩
    · rw [hdg, hE0]; simp only [buCells, hde, hds]; rfl
    · rw [hdg, hde]; rfl
    · rw [hdg, hds]; rfl
  have hge40 : ¬ b.sets.length = 0 := by omega
  refine T.skip (T.seq (T.region ?_))
  refine TO.quiet (q_load_boxAgg 2 Try.underlying26 rfl inf26 rfl rfl rfl) ?_
  have hk63 := fun (w1 : World) (hI : Inv w [rowI cs2 cc2 3 1 (ints b.start), oI bx2 26 [(.int .i64 b.vars), .int .i64 ((b.states.toNat * (max b.sets.length 1) : Nat) : Int), (.slice cs2 b.start.length cc2), (.slice none 0 0), (.slice none 0 0)], oI bx1 26 (buCells b sb sc eb ec tb tc)] w1) => marksF w1 b sb eb tb sc ec tc vs (hI.bu h) hB hm8
  refine TO.loud rfl (l_call ent52 (CallT.of_pure hk63) rfl ?_)
  clear hk63
  rintro vr O' ⟨N, rfl, mm, l2, rfl, rfl, hmp, hin⟩
  refine TO.quiet (q_assign rfl) ?_
  refine TO.nil (T.seq (T.seq (T.region ?_)))
  refine TO.quiet (q_move rfl) (TO.quiet (q_move rfl) ?_)
  refine TO.nil (T.block ?_)
  refine T.nilRow 54 4 ?_
  refine T.loopS (fun (k : Nat) ρ O => ∃ (eb6 : Option Addr) (ec6 : Nat), O = [rowI eb6 ec6 54 4 (edsC (degT b k 0)), mapI KI VU mm l2, rowI cs2 cc2 3 1 (ints b.start), oI bx2 26 [(.int .i64 b.vars), .int .i64 ((b.states.toNat * (max b.sets.length 1) : Nat) : Int), (.slice cs2 b.start.length cc2), (.slice eb6 ((degT b k 0).length) ec6), (.slice none 0 0)], oI bx1 26 (buCells b sb sc eb ec tb tc)] ∧ k ≤ b.sets.length ∧ Heads [(0, (.agg (buCells b sb sc eb ec tb tc).toArray)), (1, (.pointer (some ⟨bx1, 0, none⟩))), (2, (.pointer (some ⟨bx2, 0, none⟩))), (3, .int .i64 0), (4, .int .i64 ((checkB b : Nat) : Int)), (5, .int .i64 (b.sets.length : Int)), (8, (.map (some mm))), (64, .int .i64 (b.sets.length : Int)), (65, .int .i64 (k : Int))] ρ) (fun k => b.sets.length - k) 0 ?_ ?_
  · exact ⟨none, 0, by rw [degT_zero]; rfl, Nat.zero_le _, ⟨rfl, rfl, rfl, rfl, rfl, rfl, rfl, rfl, rfl, trivial⟩⟩
  rintro k ρ O ⟨eb6, ec6, rfl, hk, hH⟩
  obtain ⟨ρ0, rfl⟩ := hH.elim
  clear hH
  refine T.seq (T.region ?_)
  refine TO.quiet (q_lss rfl rfl) ?_
  refine TO.nil (T.seq ?_)
  refine T.condP rfl (fun hc => ?_) (fun hc => ?_)
  · have hlt66 : k < b.sets.length := by omega
    refine T.skip (T.seq (T.block (T.seq (T.region ?_))))
    refine TO.quiet (q_move rfl) (TO.quiet (q_assign rfl) ?_)
    refine TO.nil (T.seq (T.region ?_))
    refine TO.quiet (q_fieldAddr Try.underlying26 rfl inf23 rfl rfl) (TO.quiet (q_load_box 4 Try.underlying23 rfl rfl rfl rfl) (TO.quiet (q_len Try.underlying23 rfl) (TO.quiet (q_move rfl) ?_)))
    refine TO.nil (T.block ?_)
    refine T.loopS (fun (i : Nat) ρ O => ∃ (eb6 : Option Addr) (ec6 : Nat), O = [rowI eb6 ec6 54 4 (edsC (degT b k i)), mapI KI VU mm l2, rowI cs2 cc2 3 1 (ints b.start), oI bx2 26 [(.int .i64 b.vars), .int .i64 ((b.states.toNat * (max b.sets.length 1) : Nat) : Int), (.slice cs2 b.start.length cc2), (.slice eb6 ((degT b k i).length) ec6), (.slice none 0 0)], oI bx1 26 (buCells b sb sc eb ec tb tc)] ∧ i ≤ b.edges.length ∧ Heads [(0, (.agg (buCells b sb sc eb ec tb tc).toArray)), (1, (.pointer (some ⟨bx1, 0, none⟩))), (2, (.pointer (some ⟨bx2, 0, none⟩))), (3, .int .i64 0), (4, .int .i64 ((checkB b : Nat) : Int)), (5, .int .i64 (b.sets.length : Int)), (8, (.map (some mm))), (9, .int .i64 (k : Int)), (64, .int .i64 (b.sets.length : Int)), (65, .int .i64 (k : Int)), (69, (.slice eb b.edges.length ec)), (70, .int .i64 (b.edges.length : Int)), (71, .int .i64 (i : Int))] ρ) (fun i => b.edges.length - i) 0 ?_ ?_
    · exact ⟨eb6, ec6, rfl, Nat.zero_le _, ⟨rfl, rfl, rfl, rfl, rfl, rfl, rfl, rfl, rfl, rfl, rfl, rfl, rfl, trivial⟩⟩
    rintro i ρ O ⟨eb6, ec6, rfl, hi, hH⟩
    obtain ⟨ρ0, rfl⟩ := hH.elim
    clear hH
    have hdl := degT_len (b := b) (k := k) hi (by omega) hed
    refine T.seq (T.region ?_)
    refine TO.quiet (q_lss rfl rfl) ?_
    refine TO.nil (T.seq ?_)
    refine T.condP rfl (fun hc => ?_) (fun hc => ?_)
    · have hlt72 : i < b.edges.length := by omega
      refine T.skip (T.seq (T.block (T.seq (T.region ?_))))
      refine TO.quiet (q_ixK (i := i) Try.underlying23 inf54 rfl rfl (Sl.o h.ed) (by first | assumption | omega | (simp; omega) | simp_all) (by first | (rw [eds_len]; omega) | (simp [eds_len]; omega) | (simp_all [eds_len]; omega))) (TO.quiet (q_ldK (vs := [.int .i64 b.edges[i].fr, .int .i64 b.edges[i].to, .int .u8 ((b.edges[i].pos : Nat) : Int), .int .u8 ((b.edges[i].neg : Nat) : Int)]) Try.underlying54 rfl inf54 rfl rfl (Nat.succ_pos _) (Sl.o h.ed) (eds_get (by first | assumption | omega | (simp; omega) | simp_all))) ?_)
      refine TO.loud rfl (l_alloc inf54 rfl (fun bx5 => ?_))
      refine TO.loud rfl (l_store_box (v := (.agg #[.int .i64 b.edges[i].fr, .int .i64 b.edges[i].to, .int .u8 ((b.edges[i].pos : Nat) : Int), .int .u8 ((b.edges[i].neg : Nat) : Int)])) (vs := [.int .i64 b.edges[i].fr, .int .i64 b.edges[i].to, .int .u8 ((b.edges[i].pos : Nat) : Int), .int .u8 ((b.edges[i].neg : Nat) : Int)]) 0 inf54 rfl rfl rfl rfl rfl rfl (by simp [putL]) ?_)
      refine TO.nil (T.seq (T.region ?_))
      refine TO.quiet (q_move rfl) (TO.quiet (q_assign rfl) ?_)
      refine TO.nil ?_
      refine T.cut (fun ρ O => Sub [oI bx5 54 [.int .i64 b.edges[i].fr, .int .i64 b.edges[i].to, .int .u8 ((b.edges[i].pos : Nat) : Int), .int .u8 ((b.edges[i].neg : Nat) : Int)], rowI eb6 ec6 54 4 (edsC (degT b k i)), mapI KI VU mm l2, rowI cs2 cc2 3 1 (ints b.start), oI bx2 26 [(.int .i64 b.vars), .int .i64 ((b.states.toNat * (max b.sets.length 1) : Nat) : Int), (.slice cs2 b.start.length cc2), (.slice eb6 ((degT b k i).length) ec6), (.slice none 0 0)], oI bx1 26 (buCells b sb sc eb ec tb tc)] O ∧ Heads [(0, (.agg (buCells b sb sc eb ec tb tc).toArray)), (1, (.pointer (some ⟨bx1, 0, none⟩))), (2, (.pointer (some ⟨bx2, 0, none⟩))), (3, .int .i64 0), (4, .int .i64 ((checkB b : Nat) : Int)), (5, .int .i64 (b.sets.length : Int)), (8, (.map (some mm))), (9, .int .i64 (k : Int)), (11, (.pointer (some ⟨bx5, 0, none⟩))), (12, .int .i64 (((degNext b k b.edges[i].fr) : Nat) : Int)), (64, .int .i64 (b.sets.length : Int)), (65, .int .i64 (k : Int)), (69, (.slice eb b.edges.length ec)), (70, .int .i64 (b.edges.length : Int)), (71, .int .i64 (i : Int))] ρ) ?_ ?_
      · refine T.seq ?_
        have hmk : mkN b.sets b.edges[i].fr < 256 := Nat.lt_of_lt_of_le (mkN_lt _ _) (Nat.pow_le_pow_right (by omega) hm8 : 2 ^ b.sets.length ≤ 2 ^ 8)
        have hee := hv.ed _ (List.getElem_mem hlt72)
        have hkN : k * b.states.toNat ≤ 8 * 4096 := Nat.mul_le_mul (by omega) (by omega)
        refine T.region ?_
        refine TO.quiet (q_move rfl) (TO.quiet (q_fieldAddr Try.underlying54 rfl inf3 rfl rfl) (TO.quiet (q_load_box 0 Try.underlying3 rfl rfl rfl rfl) (TO.quiet (QT.cast (q_lookup (K := KI) (V := VU) (a := b.edges[i].fr) Try.underlying80 inf52 (KeyOk.int Try.underlying3) rfl rfl (List.mem_of_getElem? (i := 2) rfl)) (v' := .int .u64 ((mkN b.sets b.edges[i].fr : Nat) : Int)) (by rw [← hmp.h]; cases lookL b.edges[i].fr l2 <;> rfl)) ?_)))
        refine TO.quiet (q_move rfl) (TO.quiet (q_shr (a := (mkN b.sets b.edges[i].fr)) (b := k) .u64 rfl rfl (by show _ < 18446744073709551616; omega) (by show _ ≤ 64; omega)) (TO.quiet (q_and (a := ((mkN b.sets b.edges[i].fr) >>> k)) (b := 1) .u64 rfl rfl (by show _ < 18446744073709551616; rw [Nat.shiftRight_eq_div_pow]; have := Nat.div_le_self (mkN b.sets b.edges[i].fr) (2 ^ k); omega) (by show _ < 18446744073709551616; omega)) (TO.quiet (q_eql rfl rfl) ?_)))
        by_cases hs84 : ((((mkN b.sets b.edges[i].fr) >>> k) &&& 1 : Nat) : Int) = 1
        · refine TO.quiet (QT.toB (q_move rfl) (decide_eq_true hs84)) ?_
          refine TO.guarded rfl rfl rfl (LT.of_quiet rfl rfl (q_move rfl) ?_)
          refine TO.guarded rfl rfl rfl (LT.of_quiet rfl rfl (q_gtr rfl rfl) ?_)
          refine TO.quiet (q_pick1 rfl rfl) ?_
          refine TO.nil ?_
          refine T.condP rfl (fun hc => ?_) (fun hc => ?_)
          · have hlt87 : b.sets.length > 1 := by omega
            refine T.region ?_
            refine TO.quiet (q_move rfl) (TO.quiet (q_addN (a := k) (b := 1) rfl rfl (by omega)) (TO.quiet (q_move rfl) (TO.quiet (q_remN (a := (k + 1)) (b := b.sets.length) rfl rfl (by omega)) ?_)))
            refine TO.quiet (q_assign rfl) ?_
            refine TO.nil ?_
            exact ⟨(Sub.pick [0, 0, 0, 0, 0, 0] rfl), ⟨rfl, rfl, rfl, rfl, rfl, rfl, rfl, rfl, rfl, (congrArg (fun z : Nat => Value.int .i64 (z : Int)) (by rw [degNext_bit hlt66]; first | rw [if_pos ⟨by assumption, by omega⟩] | rw [if_neg (fun q9 => by have := q9.1; have := q9.2; omega)])), rfl, rfl, rfl, rfl, rfl, trivial⟩⟩
          have hge87 : ¬ b.sets.length > 1 := by omega
          refine T.skip ?_
          exact ⟨(Sub.pick [0, 0, 0, 0, 0, 0] rfl), ⟨rfl, rfl, rfl, rfl, rfl, rfl, rfl, rfl, rfl, (congrArg (fun z : Nat => Value.int .i64 (z : Int)) (by rw [degNext_bit hlt66]; first | rw [if_pos ⟨by assumption, by omega⟩] | rw [if_neg (fun q9 => by have := q9.1; have := q9.2; omega)])), rfl, rfl, rfl, rfl, rfl, trivial⟩⟩
        refine TO.quiet (QT.toB (q_move rfl) (decide_eq_false hs84)) ?_
        refine TO.passed rfl rfl ?_
        refine TO.passed rfl rfl ?_
        refine TO.quiet (q_pick0 rfl rfl) ?_
        refine TO.nil ?_
        refine T.cond0 rfl ?_
        refine T.skip ?_
        exact ⟨(Sub.pick [0, 0, 0, 0, 0, 0] rfl), ⟨rfl, rfl, rfl, rfl, rfl, rfl, rfl, rfl, rfl, (congrArg (fun z : Nat => Value.int .i64 (z : Int)) (by rw [degNext_bit hlt66]; first | rw [if_pos ⟨by assumption, by omega⟩] | rw [if_neg (fun q9 => by have := q9.1; have := q9.2; omega)])), rfl, rfl, rfl, rfl, rfl, trivial⟩⟩
      rintro ρ O ⟨hS, hH⟩
      obtain ⟨ρ0, rfl⟩ := hH.elim
      clear hH
      refine T.sub hS ?_
      refine T.seq ?_
      have hee := hv.ed _ (List.getElem_mem hlt72)
      have hkN : k * b.states.toNat ≤ 8 * 4096 := Nat.mul_le_mul (by omega) (by omega)
      have hdn := degNext_lt (x := b.edges[i].fr) hlt66
      have hdN : (degNext b k b.edges[i].fr) * b.states.toNat ≤ 8 * 4096 := Nat.mul_le_mul (by omega) (by omega)
      refine T.draws2 [oI bx1 26 (buCells b sb sc eb ec tb tc)] [oI bx5 54 [.int .i64 b.edges[i].fr, .int .i64 b.edges[i].to, .int .u8 ((b.edges[i].pos : Nat) : Int), .int .u8 ((b.edges[i].neg : Nat) : Int)]] [(0, 0), (1, 3), (2, 0), (3, 0), (4, 0), (5, 0), (6, 0), (7, 0), (8, 3), (9, 0), (10, 0), (11, 0), (12, 0), (13, 0), (14, 0), (15, 4), (16, 0), (17, 2)] mixed (by kernel_rfl) (Sub.pick [5] rfl) (Sub.pick [0] rfl) (fun _ _ _ h => h) ?_
      refine DO.quiet rfl (q_fieldAddr Try.underlying54 rfl inf3 rfl rfl) ?_
      refine DO.quiet2 rfl (q_load_box 0 Try.underlying3 rfl rfl rfl rfl) ?_
      refine DO.quiet rfl (q_move rfl) (DO.quiet rfl (q_fieldAddr Try.underlying26 rfl inf3 rfl rfl) (DO.quiet rfl (QT.cast (q_load_box 0 Try.underlying3 rfl rfl rfl rfl) (v' := .int .i64 ((b.states.toNat : Nat) : Int)) (by show Value.int _ _ = _; rw [Int.toNat_of_nonneg hv0])) (DO.quiet rfl (q_mulN (a := k) (b := b.states.toNat) rfl rfl (by omega)) ?_)))
      refine DO.quiet rfl (q_add64 rfl rfl (by omega)) (DO.quiet rfl (q_fieldAddr Try.underlying54 rfl inf3 rfl rfl) ?_)
      refine DO.quiet2 rfl (q_load_box 0 Try.underlying3 rfl rfl rfl rfl) ?_
      refine DO.quiet rfl (q_move rfl) (DO.quiet rfl (q_fieldAddr Try.underlying26 rfl inf3 rfl rfl) (DO.quiet rfl (QT.cast (q_load_box 0 Try.underlying3 rfl rfl rfl rfl) (v' := .int .i64 ((b.states.toNat : Nat) : Int)) (by show Value.int _ _ = _; rw [Int.toNat_of_nonneg hv0])) (DO.quiet rfl (q_mulN (a := (degNext b k b.edges[i].fr)) (b := b.states.toNat) rfl rfl (by omega)) ?_)))
      refine DO.quiet rfl (q_add64 rfl rfl (by omega)) (DO.quiet rfl (q_fieldAddr Try.underlying54 rfl inf3 rfl rfl) ?_)
      refine DO.last2 rfl rfl (l_store_box (v := .int .i64 (b.edges[i].fr + ((k * b.states.toNat : Nat) : Int))) (vs := [(.int .i64 (b.edges[i].fr + ((k * b.states.toNat : Nat) : Int)))]) 0 inf3 rfl rfl rfl rfl rfl rfl (by simp [putL]) ⟨Sub.pick [5] rfl, ?_⟩)
      refine DO.quiet rfl (q_fieldAddr Try.underlying54 rfl inf3 rfl rfl) ?_
      refine DO.last rfl rfl (l_store_box (v := .int .i64 (b.edges[i].to + (((degNext b k b.edges[i].fr) * b.states.toNat : Nat) : Int))) (vs := [(.int .i64 (b.edges[i].to + (((degNext b k b.edges[i].fr) * b.states.toNat : Nat) : Int)))]) 0 inf3 rfl rfl rfl rfl rfl rfl (by simp [putL]) ?_)
      refine DO.done ?_
      refine T.region ?_
      refine TO.quiet (q_fieldAddr Try.underlying26 rfl inf23 rfl rfl) (TO.quiet (q_load_box 4 Try.underlying23 rfl rfl rfl rfl) (TO.quiet (q_load_boxAgg 0 Try.underlying54 rfl inf54 rfl rfl rfl) ?_))
      refine TO.loud rfl (l_buildSlice (m := 1) (parts := [(0, _)]) (cs := [(.int .i64 (b.edges[i].fr + ((k * b.states.toNat : Nat) : Int))), (.int .i64 (b.edges[i].to + (((degNext b k b.edges[i].fr) * b.states.toNat : Nat) : Int))), .int .u8 ((b.edges[i].pos : Nat) : Int), .int .u8 ((b.edges[i].neg : Nat) : Int)]) Try.underlying23 inf54 (by decide) (by kernel_rfl) rfl (fun bx6 => ?_))
      refine TO.loud rfl (l_append 2 Try.underlying23 Try.underlying23 inf54 rfl rfl rfl rfl (by rw [eds_len]) (by decide) (Src.row (j := 0) rfl (by simp)) (by simp [oneB]) (by omega) (by decide) (by decide) (fun bx7 c8 => ?_))
      refine TO.quiet (q_fieldAddr Try.underlying26 rfl inf23 rfl rfl) ?_
      refine TO.loud rfl (l_store_box (v := (.slice bx7 (((degT b k i).length) + 1) c8)) (vs := [(.slice bx7 (((degT b k i).length) + 1) c8)]) 5 inf23 rfl rfl rfl rfl rfl rfl (by simp [putL]) ?_)
      refine TO.nil (T.region ?_)
      refine TO.quiet (q_addN (a := i) (b := 1) rfl rfl (by omega)) (TO.quiet (q_move rfl) ?_)
      refine TO.nil ?_
      refine ⟨i + 1, by omega, [rowI bx7 c8 54 4 ((edsC (degT b k i)) ++ [(.int .i64 (b.edges[i].fr + ((k * b.states.toNat : Nat) : Int))), (.int .i64 (b.edges[i].to + (((degNext b k b.edges[i].fr) * b.states.toNat : Nat) : Int))), .int .u8 ((b.edges[i].pos : Nat) : Int), .int .u8 ((b.edges[i].neg : Nat) : Int)]), mapI KI VU mm l2, rowI cs2 cc2 3 1 (ints b.start), oI bx2 26 [(.int .i64 b.vars), .int .i64 ((b.states.toNat * (max b.sets.length 1) : Nat) : Int), (.slice cs2 b.start.length cc2), (.slice bx7 (((degT b k i).length) + 1) c8), (.slice none 0 0)], oI bx1 26 (buCells b sb sc eb ec tb tc)], (Sub.pick [2, 2, 2, 2, 2] rfl), bx7, c8, ?_, by omega, ⟨rfl, rfl, rfl, rfl, rfl, rfl, rfl, rfl, rfl, rfl, rfl, rfl, rfl, trivial⟩⟩
      rw [degT_succ hlt72, eds_append, show ((degT b k i) ++ [degE1 b k b.edges[i]]).length = (degT b k i).length + 1 by simp] <;> rfl
    have hge72 : ¬ i < b.edges.length := by omega
    refine T.exit ?_
    refine T.region ?_
    refine TO.quiet (q_addN (a := k) (b := 1) rfl rfl (by omega)) (TO.quiet (q_move rfl) ?_)
    refine TO.nil ?_
    have hie : i = b.edges.length := by omega
    refine ⟨k + 1, by omega, [rowI eb6 ec6 54 4 (edsC (degT b k i)), mapI KI VU mm l2, rowI cs2 cc2 3 1 (ints b.start), oI bx2 26 [(.int .i64 b.vars), .int .i64 ((b.states.toNat * (max b.sets.length 1) : Nat) : Int), (.slice cs2 b.start.length cc2), (.slice eb6 ((degT b k i).length) ec6), (.slice none 0 0)], oI bx1 26 (buCells b sb sc eb ec tb tc)], (Sub.pick [0, 0, 0, 0, 0] rfl), eb6, ec6, ?_, by omega, ⟨rfl, rfl, rfl, rfl, rfl, rfl, rfl, rfl, rfl, trivial⟩⟩
    rw [← degT_all, hie]
  have hge66 : ¬ k < b.sets.length := by omega
  refine T.exit ?_
  refine T.seq ?_
  have hke : k = b.sets.length := by omega
  have hn1 : b.sets.length - 1 < b.sets.length := by omega
  obtain ⟨rb, rc, g1, s1⟩ := h.rows.get hn1
  have hkm : (b.sets.length - 1) * b.states.toNat ≤ 8 * 4096 := Nat.mul_le_mul (by omega) (by omega)
  refine T.draws [oI bx1 26 (buCells b sb sc eb ec tb tc)] [(0, 0), (1, 0), (2, 0), (3, 0), (4, 0), (5, 0), (6, 0), (7, 0), (8, 0), (9, 0), (10, 0), (11, 2), (12, 2), (13, 2), (14, 2)] mixed (by kernel_rfl) (Sub.pick [4] rfl) (fun _ _ _ h => h) ?_
  refine DO.quiet rfl (q_fieldAddr Try.underlying26 rfl inf24 rfl rfl) (DO.quiet rfl (q_load_box 0 Try.underlying24 rfl rfl rfl rfl) (DO.quiet rfl (q_move rfl) (DO.quiet rfl (q_subN (a := b.sets.length) (b := 1) rfl rfl (by omega) (by omega)) ?_)))
  refine DO.quiet rfl (q_ix (i := (b.sets.length - 1)) Try.underlying24 inf22 rfl rfl (Sl.o h.out) (by first | assumption | omega | (simp; omega) | simp_all) (by rw [h.rows.1]; exact hn1)) (DO.quiet rfl (q_ld Try.underlying22 rfl rfl (Sl.o h.out) g1) (DO.quiet rfl (q_move rfl) (DO.quiet rfl (q_subN (a := b.sets.length) (b := 1) rfl rfl (by omega) (by omega)) ?_)))
  refine DO.quiet rfl (q_fieldAddr Try.underlying26 rfl inf3 rfl rfl) (DO.quiet rfl (QT.cast (q_load_box 0 Try.underlying3 rfl rfl rfl rfl) (v' := .int .i64 ((b.states.toNat : Nat) : Int)) (by show Value.int _ _ = _; rw [Int.toNat_of_nonneg hv0])) (DO.quiet rfl (q_mulN (a := (b.sets.length - 1)) (b := b.states.toNat) rfl rfl (by omega)) ?_))
  have hk127 := fun (w1 : World) (hI : Inv w [rowI eb6 ec6 54 4 (edsC (degT b k 0)), mapI KI VU mm l2, rowI cs2 cc2 3 1 (ints b.start), oI bx2 26 [(.int .i64 b.vars), .int .i64 ((b.states.toNat * (max b.sets.length 1) : Nat) : Int), (.slice cs2 b.start.length cc2), (.slice eb6 ((degT b k 0).length) ec6), (.slice none 0 0)], oI bx1 26 (buCells b sb sc eb ec tb tc)] w1) => shiftF w1 rb rc b.sets[b.sets.length - 1] ((b.sets.length - 1) * b.states.toNat) (hI.sl s1) (hB.sr _ (List.getElem_mem hn1)) (fun x hx => by have := hv.se _ (List.getElem_mem hn1) x hx; omega) (by omega)
  refine DO.last rfl rfl (l_call ent86 (CallT.of_pure hk127) rfl ?_)
  clear hk127
  rintro vr O' ⟨N, rfl, zb, zc, rfl, rfl⟩
  refine DO.last rfl rfl (l_build1 (v := (.slice zb (b.sets[b.sets.length - 1].length) zc)) Try.underlying24 inf22 rfl rfl rfl (fun bx9 => ?_))
  refine DO.last rfl rfl (LT.of_quiet rfl rfl (q_fieldAddr Try.underlying26 rfl inf24 rfl rfl) ?_)
  refine DO.last rfl rfl (l_store_box (v := (.slice (some ⟨bx9, 0, none⟩) 1 1)) (vs := [(.slice (some ⟨bx9, 0, none⟩) 1 1)]) 5 inf24 rfl rfl rfl rfl rfl rfl (by simp [putL]) ?_)
  refine DO.done ?_
  refine T.seq ?_
  have hlb := lastB_eq hn1
  have hll : (lastB b).length = b.sets[b.sets.length - 1].length := by rw [hlb, List.length_map]
  refine T.sub (O' := [rowI (some ⟨bx9, 0, none⟩) 1 22 1 (vals [⟨zb, zc, lastB b⟩]), rowI zb zc 3 1 (ints (lastB b)), rowI eb6 ec6 54 4 (edsC (degT b k 0)), mapI KI VU mm l2, rowI cs2 cc2 3 1 (ints b.start), oI bx2 26 [(.int .i64 b.vars), .int .i64 ((b.states.toNat * (max b.sets.length 1) : Nat) : Int), (.slice cs2 b.start.length cc2), (.slice eb6 ((degT b k 0).length) ec6), (.slice (some ⟨bx9, 0, none⟩) 1 1)], oI bx1 26 (buCells b sb sc eb ec tb tc)]) (by rw [show vals [⟨zb, zc, lastB b⟩] = [(.slice zb (b.sets[b.sets.length - 1].length) zc)] from by simp [vals, Rec.val, hll], show ints (lastB b) = ints (b.sets[b.sets.length - 1].map fun x => x + (((b.sets.length - 1) * b.states.toNat : Nat) : Int)) from by rw [hlb]]; exact Sub.of (List.Sublist.refl _)) ?_
  refine T.region ?_
  refine TO.quiet (q_load_boxAgg 5 Try.underlying26 rfl inf26 rfl rfl rfl) ?_
  refine TO.loud rfl (l_store_box (v := (.agg #[(.int .i64 b.vars), .int .i64 ((b.states.toNat * (max b.sets.length 1) : Nat) : Int), (.slice cs2 b.start.length cc2), (.slice eb6 ((degT b k 0).length) ec6), (.slice (some ⟨bx9, 0, none⟩) 1 1)])) (vs := [(.int .i64 b.vars), .int .i64 ((b.states.toNat * (max b.sets.length 1) : Nat) : Int), (.slice cs2 b.start.length cc2), (.slice eb6 ((degT b k 0).length) ec6), (.slice (some ⟨bx9, 0, none⟩) 1 1)]) 5 inf26 rfl rfl rfl rfl rfl rfl (by simp [putL]) ?_)
  refine TO.quiet (q_assign rfl) ?_
  refine TO.nil (T.ret (Res.drop ?_))
  refine Res.cell1b (.int .i64 0) (i := 5) Try.results37 Try.underlying26 rfl inf26 rfl rfl rfl rfl ?_
  have hE0 : degE b = 0 := by unfold degE; rw [if_neg (fun q => q he), if_neg (by omega)]
  have hdg : dgB b = degB b := by unfold dgB; rw [if_pos hE0]
  have hz0 : ¬ b.sets.length = 0 := by omega
  have hde : (degB b).edges = degT b k 0 := by rw [degT_zero, hke]; exact if_neg hz0
  have hds : (degB b).sets = [lastB b] := if_neg hz0
  refine ⟨[rowI cs2 cc2 3 1 (ints b.start), rowI eb6 ec6 54 4 (edsC (degT b k 0)), rowI (some ⟨bx9, 0, none⟩) 1 22 1 (vals [⟨zb, zc, lastB b⟩])] ++ itms 3 [⟨zb, zc, lastB b⟩], (Sub.pick [4, 2, 0, 0] rfl), cs2, eb6, (some ⟨bx9, 0, none⟩), cc2, ec6, 1, [⟨zb, zc, lastB b⟩], ?_, ?_, ?_⟩
  · rw [hdg, hE0]; simp only [buCells, hde, hds]; rfl
  · rw [hdg, hde]; rfl
  · rw [hdg, hds]; rfl
end Go.Proofs.Ytnamoapbienooaa

