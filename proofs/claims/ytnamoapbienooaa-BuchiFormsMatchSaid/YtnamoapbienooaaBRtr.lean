/- Contracts of functions of the program (BRtr): what each call answers and that it leaves memory as it was. Conditions: those each theorem names. -/
import Derived.Test.YtnamoapbienooaaBOnl
import Derived.Test.YtnamoapbienooaaBRlv
import Derived.Test.YtnamoapbienooaaBRch
import Derived.Test.YtnamoapbienooaaBSta
set_option linter.unusedSectionVars false
set_option linter.unusedSimpArgs false
set_option linter.unusedVariables false
set_option linter.unnecessarySimpa false
namespace Go.Proofs.Ytnamoapbienooaa
open Go.Lx Go.RowKit
set_option linter.unusedVariables false
set_option linter.unusedSimpArgs false
theorem rowsP_adj {b : Bu} (hv : ValidB b) {nx : List (List Int)} (h : RowsP b.states.toNat (autR b.edges) b.edges.length nx) : adjE nx = autE b := by
  funext u v
  exact propext (h.adj (fun u y ⟨e, he, h1, _⟩ => by have := (hv.ed e he).1; omega) u v)
theorem rowsP_ok {b : Bu} (hv : ValidB b) {nx : List (List Int)} (h : RowsP b.states.toNat (autR b.edges) b.edges.length nx) : okRows nx := fun r hr x hx => by
  obtain ⟨i, hi, rfl⟩ := List.mem_iff_getElem.1 hr
  have hl := h.l
  have := (h.h i x (by omega)).1 (by rw [getD_at hi]; exact hx)
  obtain ⟨e, he, _, rfl⟩ := this
  have := (hv.ed e he).2
  omega
theorem rowsP_len {b : Bu} {qs : List Rec} (h : RowsP b.states.toNat (autR b.edges) b.edges.length (nums qs)) (hed : b.edges.length ≤ 1000000) : ∀ r ∈ nums qs, r.length ≤ 1000000 := fun r hr => by
  obtain ⟨q, hq, rfl⟩ := List.mem_map.1 hr
  obtain ⟨i, hi, rfl⟩ := List.mem_iff_getElem.1 hq
  have := h.rl hi
  omega
set_option maxHeartbeats 4000000 in
set_option maxRecDepth 20000 in
theorem refTrimF (w : World) (b : Bu) (sb eb tb : Option Addr) (sc ec tc : Nat) (vs : List Value) (h : BuAt w b sb eb tb vs) (hB : BuB b) :
    PureT Try.prog 36 [.agg (buCells b sb sc eb ec tb tc).toArray] w fun v N => ∃ sb2 eb2 tb2 sc2 ec2 tc2 qs, v = .tuple #[.agg (buCells (trimB b) sb2 sc2 eb2 ec2 tb2 tc2).toArray, .int .i64 ((checkB b : Nat) : Int)] ∧ N = [rowI sb2 sc2 3 1 (ints (trimB b).start), rowI eb2 ec2 54 4 (edsC (trimB b).edges), rowI tb2 tc2 22 1 (vals qs)] ++ itms 3 qs ∧ nums qs = (trimB b).sets := by
  refine CallT.enter Try.func36 rfl Try.ntmps36 rfl ?_
  have hst := hB.st; have hed := hB.ed; have hse := hB.se
  refine T.seq (T.region ?_)
  refine TO.loud rfl (l_box (v := (.agg (buCells b sb sc eb ec tb tc).toArray)) (cs := (buCells b sb sc eb ec tb tc)) rfl rfl (fun bx1 => ?_))
  refine TO.loud rfl (l_alloc inf26 rfl (fun bx2 => ?_))
  refine TO.quiet (q_assign rfl) ?_
  refine TO.nil (T.seq (T.region ?_))
  refine TO.quiet (q_load_boxAgg 1 Try.underlying26 rfl inf26 rfl rfl rfl) ?_
  have hk13 := fun (w1 : World) (hI : Inv w [oI bx2 26 [(.int .i64 0), (.int .i64 0), (.slice none 0 0), (.slice none 0 0), (.slice none 0 0)], oI bx1 26 (buCells b sb sc eb ec tb tc)] w1) => refLiveF w1 b sb eb tb sc ec tc vs (hI.bu h) hB
  refine TO.loud rfl (l_call ent20 (CallT.of_pure hk13) rfl ?_)
  clear hk13
  rintro vr O' ⟨N, rfl, lv, lvc, rfl, rfl⟩
  refine TO.quiet (q_move rfl) (TO.quiet (q_extract (vs := _) rfl rfl) (TO.quiet (q_extract (vs := _) rfl rfl) (TO.quiet (q_assign rfl) ?_)))
  refine TO.quiet (q_assign rfl) ?_
  refine TO.nil (T.seq (T.seq (T.region ?_)))
  refine TO.quiet (q_move rfl) (TO.quiet (q_neq rfl rfl) ?_)
  refine TO.nil ?_
  refine T.condP rfl (fun hc => ?_) (fun hc => ?_)
  · have hlt17 : checkB b ≠ 0 := by omega
    refine T.seq ?_
    refine T.nilRow 22 1 ?_
    refine T.nilRow 54 4 ?_
    refine T.nilRow 3 1 ?_
    refine T.region ?_
    refine TO.quiet (q_build plan26 inf26 rfl) (TO.quiet (q_move rfl) ?_)
    refine TO.loud rfl (l_store_box (v := (.agg #[(.int .i64 0), (.int .i64 0), (.slice none 0 0), (.slice none 0 0), (.slice none 0 0)])) (vs := [(.int .i64 0), (.int .i64 0), (.slice none 0 0), (.slice none 0 0), (.slice none 0 0)]) 4 inf26 rfl rfl rfl rfl rfl rfl (by simp [putL]) ?_)
    refine TO.quiet (q_assign rfl) ?_
    refine TO.nil (T.ret (Res.drop ?_))
    refine Res.cell1b (.int .i64 ((checkB b : Nat) : Int)) (i := 4) Try.results36 Try.underlying26 rfl inf26 rfl rfl rfl rfl ?_
    have htr : trimB b = zeroBu := by unfold trimB; rw [if_neg (by omega)]
    refine ⟨[rowI none 0 3 1 [], rowI none 0 54 4 [], rowI none 0 22 1 []] ++ itms 3 [], ?_, none, none, none, 0, 0, 0, [], ?_, ?_, ?_⟩
    · exact Sub.cnt [rowI lv lvc 4 1 (bools (livesB b)), oI bx2 26 [(.int .i64 0), (.int .i64 0), (.slice none 0 0), (.slice none 0 0), (.slice none 0 0)], oI bx1 26 (buCells b sb sc eb ec tb tc)] (by intro a; simp only [itms, oI, List.set_cons_zero, List.set_cons_succ, putL, List.cons_append, List.nil_append, List.append_nil, List.append_assoc, List.map_append, List.map_cons, List.map_nil, cnt_append, cnt_cons, cnt_nil, buCells, laCells] <;> omega)
    · rw [htr]; rfl
    · rw [htr]; rfl
    · rw [htr]; rfl
  have hge17 : ¬ checkB b ≠ 0 := by omega
  refine T.skip (T.seq ?_)
  have he : checkB b = 0 := by omega
  have hv : ValidB b := checkB_zero.1 he
  have hv0 := hv.n0; have hv4 := hv.n4; have hm8 := hv.m8
  have hll := livesB_len he
  refine T.region ?_
  refine TO.quiet (q_load_boxAgg 2 Try.underlying26 rfl inf26 rfl rfl rfl) ?_
  have hk21 := fun (w1 : World) (hI : Inv w [rowI lv lvc 4 1 (bools (livesB b)), oI bx2 26 [(.int .i64 0), (.int .i64 0), (.slice none 0 0), (.slice none 0 0), (.slice none 0 0)], oI bx1 26 (buCells b sb sc eb ec tb tc)] w1) => statesG w1 b sb eb tb sc ec tc vs (hI.bu h) hB hv
  refine TO.loud rfl (l_call ent63 (CallT.of_pure hk21) rfl ?_)
  clear hk21
  rintro vr O' ⟨N, rfl, ab, ac, nb, nc, qs, rfl, rfl, hRP⟩
  refine TO.sub (O' := ([rowI ab ac 3 1 (nats (List.range b.states.toNat)), rowI nb nc 22 1 (vals qs), rowI lv lvc 4 1 (bools (livesB b)), oI bx2 26 [(.int .i64 0), (.int .i64 0), (.slice none 0 0), (.slice none 0 0), (.slice none 0 0)], oI bx1 26 (buCells b sb sc eb ec tb tc)] ++ (itms 3 qs))) (by exact Sub.swap3 [rowI ab ac 3 1 (nats (List.range b.states.toNat)), rowI nb nc 22 1 (vals qs)] [rowI lv lvc 4 1 (bools (livesB b)), oI bx2 26 [(.int .i64 0), (.int .i64 0), (.slice none 0 0), (.slice none 0 0), (.slice none 0 0)], oI bx1 26 (buCells b sb sc eb ec tb tc)] (itms 3 qs)) ?_
  refine TO.loud rfl (l_alloc inf91 rfl (fun bx3 => ?_))
  refine TO.loud rfl (l_store_box (v := (.agg #[(.int .i64 b.vars), (.int .i64 b.states), (.slice sb b.start.length sc), (.slice eb b.edges.length ec), (.slice tb b.sets.length tc), (.slice ab b.states.toNat ac), (.slice nb b.states.toNat nc)])) (vs := [(.int .i64 b.vars), (.int .i64 b.states), (.slice sb b.start.length sc), (.slice eb b.edges.length ec), (.slice tb b.sets.length tc), (.slice ab b.states.toNat ac), (.slice nb b.states.toNat nc)]) 0 inf91 rfl rfl rfl rfl rfl rfl (by simp [putL]) ?_)
  refine TO.nil (T.seq ?_)
  have hql : (nums qs).length = b.states.toNat := hRP.l
  have hok : okRows (nums qs) := rowsP_ok hv hRP
  have hrr : ∀ r ∈ nums qs, r.length ≤ 1000000 := rowsP_len hRP hed
  have hadj : adjE (nums qs) = autE b := rowsP_adj hv hRP
  refine T.region ?_
  refine TO.quiet (q_fieldAddr Try.underlying26 rfl inf3 rfl rfl) (TO.quiet (QT.cast (q_load_box 5 Try.underlying3 rfl rfl rfl rfl) (v' := .int .i64 ((b.states.toNat : Nat) : Int)) (by show Value.int _ _ = _; rw [Int.toNat_of_nonneg hv0])) ?_)
  refine TO.loud rfl (l_makeSlice (m := b.states.toNat) Try.underlying39 inf4 rfl rfl (by omega) (by omega) (fun bx4 => ?_))
  refine TO.quiet (q_assign rfl) ?_
  refine TO.nil (T.seq (T.seq (T.region ?_)))
  refine TO.quiet (q_assign rfl) ?_
  refine TO.nil (T.block ?_)
  refine T.loopS (fun (k : Nat) ρ O => ∃ (ks : List Bool), O = ([rowI (some ⟨bx4, 0, none⟩) b.states.toNat 4 1 (bools ks), oI bx3 91 [(.int .i64 b.vars), (.int .i64 b.states), (.slice sb b.start.length sc), (.slice eb b.edges.length ec), (.slice tb b.sets.length tc), (.slice ab b.states.toNat ac), (.slice nb b.states.toNat nc)], rowI ab ac 3 1 (nats (List.range b.states.toNat)), rowI nb nc 22 1 (vals qs), rowI lv lvc 4 1 (bools (livesB b)), oI bx2 26 [(.int .i64 0), (.int .i64 0), (.slice none 0 0), (.slice none 0 0), (.slice none 0 0)], oI bx1 26 (buCells b sb sc eb ec tb tc)] ++ (itms 3 qs)) ∧ k ≤ b.start.length ∧ TrK b k 0 ks ∧ Heads [(0, (.agg (buCells b sb sc eb ec tb tc).toArray)), (1, (.pointer (some ⟨bx1, 0, none⟩))), (2, (.pointer (some ⟨bx2, 0, none⟩))), (3, .int .i64 0), (4, (.slice lv ((livesB b).length) lvc)), (5, .int .i64 ((checkB b : Nat) : Int)), (6, (.pointer (some ⟨bx3, 0, none⟩))), (7, (.slice (some ⟨bx4, 0, none⟩) b.states.toNat b.states.toNat)), (8, .int .i64 (k : Int))] ρ) (fun k => b.start.length - k) 0 ?_ ?_
  · exact ⟨List.replicate b.states.toNat false, (by first | (simp only [List.map_replicate]; done) | (simp only [List.map_replicate]; rfl)), Nat.zero_le _, TrK.start b, ⟨rfl, rfl, rfl, rfl, rfl, rfl, rfl, rfl, rfl, trivial⟩⟩
  rintro k ρ O ⟨ks, rfl, hk, hT, hH⟩
  obtain ⟨ρ0, rfl⟩ := hH.elim
  clear hH
  have hkl := hT.l
  refine T.seq (T.seq (T.region ?_))
  refine TO.quiet (q_move rfl) (TO.quiet (q_fieldAddr Try.underlying26 rfl inf22 rfl rfl) (TO.quiet (q_load_box 6 Try.underlying22 rfl rfl rfl rfl) (TO.quiet (q_len Try.underlying22 rfl) ?_)))
  refine TO.quiet (q_lss rfl rfl) ?_
  refine TO.nil ?_
  refine T.condP rfl (fun hc => ?_) (fun hc => ?_)
  · have hlt29 : k < b.start.length := by omega
    obtain ⟨x, hx, hxn⟩ : ∃ x : Nat, b.start[k] = (x : Int) ∧ x < b.states.toNat := by
      have := hv.st _ (List.getElem_mem hlt29)
      exact ⟨b.start[k].toNat, by omega, by omega⟩
    refine T.skip (T.seq (T.block (T.seq ?_)))
    refine T.draws [oI bx3 91 [(.int .i64 b.vars), (.int .i64 b.states), (.slice sb b.start.length sc), (.slice eb b.edges.length ec), (.slice tb b.sets.length tc), (.slice ab b.states.toNat ac), (.slice nb b.states.toNat nc)], oI bx2 26 [(.int .i64 0), (.int .i64 0), (.slice none 0 0), (.slice none 0 0), (.slice none 0 0)], oI bx1 26 (buCells b sb sc eb ec tb tc)] [(0, 0), (1, 0), (2, 0), (3, 0), (4, 0), (5, 0), (6, 2), (7, 2)] mixed (by kernel_rfl) (by exact Sub.d (.k (.d (.d (.d (.k (.k .z))))))) (fun _ _ _ h => h) ?_
    refine DO.quiet rfl (q_load_boxAgg 0 Try.underlying91 rfl inf91 rfl rfl rfl) (DO.quiet rfl (q_fieldAddr Try.underlying26 rfl inf22 rfl rfl) (DO.quiet rfl (q_load_box 2 Try.underlying22 rfl rfl rfl rfl) (DO.quiet rfl (q_move rfl) ?_)))
    refine DO.quiet rfl (q_ix (i := k) Try.underlying22 inf3 rfl rfl (Sl.o h.st)) (DO.quiet rfl (q_ld Try.underlying3 rfl rfl (Sl.o h.st) (show (ints b.start)[k]? = _ by rw [ints_get hlt29, hx])) ?_)
    have hk38 := fun (w1 : World) (hI : Inv w ([rowI (some ⟨bx4, 0, none⟩) b.states.toNat 4 1 (bools ks), oI bx3 91 [(.int .i64 b.vars), (.int .i64 b.states), (.slice sb b.start.length sc), (.slice eb b.edges.length ec), (.slice tb b.sets.length tc), (.slice ab b.states.toNat ac), (.slice nb b.states.toNat nc)], rowI ab ac 3 1 (nats (List.range b.states.toNat)), rowI nb nc 22 1 (vals qs), rowI lv lvc 4 1 (bools (livesB b)), oI bx2 26 [(.int .i64 0), (.int .i64 0), (.slice none 0 0), (.slice none 0 0), (.slice none 0 0)], oI bx1 26 (buCells b sb sc eb ec tb tc)] ++ (itms 3 qs)) w1) => (by
      have h9 := reachF w1 b sb eb tb sc ec tc ab nb ac nc (vals qs) (nums qs) (hI.slOf (List.mem_of_getElem? (i := 3) rfl)) (Inv.recs (E := 3) hI (fun q hq => List.mem_append_right _ (List.mem_map.2 ⟨q, hq, rfl⟩))) (by rw [hql]; omega) (fun r hr => hrr r hr) hok x (by rw [hql]; exact hxn)
      rw [hql] at h9; exact h9)
    refine DO.last rfl rfl (l_call ent83 (CallT.of_pure hk38) rfl ?_)
    clear hk38
    rintro vr O' ⟨N, rfl, rb, rc, rs, rfl, rfl, hrl, hrs⟩
    refine DO.last rfl rfl (LT.of_quiet rfl rfl (q_assign rfl) ?_)
    refine DO.done ?_
    refine T.seq (T.region ?_)
    refine TO.quiet (q_assign rfl) ?_
    refine TO.nil (T.block ?_)
    refine T.loop (fun (j : Nat) ρ O => ∃ (k2 : List Bool), O = ([rowI rb rc 4 1 (bools rs), rowI (some ⟨bx4, 0, none⟩) b.states.toNat 4 1 (bools k2), oI bx3 91 [(.int .i64 b.vars), (.int .i64 b.states), (.slice sb b.start.length sc), (.slice eb b.edges.length ec), (.slice tb b.sets.length tc), (.slice ab b.states.toNat ac), (.slice nb b.states.toNat nc)], rowI ab ac 3 1 (nats (List.range b.states.toNat)), rowI nb nc 22 1 (vals qs), rowI lv lvc 4 1 (bools (livesB b)), oI bx2 26 [(.int .i64 0), (.int .i64 0), (.slice none 0 0), (.slice none 0 0), (.slice none 0 0)], oI bx1 26 (buCells b sb sc eb ec tb tc)] ++ (itms 3 qs)) ∧ j ≤ b.states.toNat ∧ TrK b k j k2 ∧ Heads [(0, (.agg (buCells b sb sc eb ec tb tc).toArray)), (1, (.pointer (some ⟨bx1, 0, none⟩))), (2, (.pointer (some ⟨bx2, 0, none⟩))), (3, .int .i64 0), (4, (.slice lv ((livesB b).length) lvc)), (5, .int .i64 ((checkB b : Nat) : Int)), (6, (.pointer (some ⟨bx3, 0, none⟩))), (7, (.slice (some ⟨bx4, 0, none⟩) b.states.toNat b.states.toNat)), (8, .int .i64 (k : Int)), (9, (.slice rb b.states.toNat rc)), (10, .int .i64 (j : Int))] ρ) (fun j => b.states.toNat - j) 0 ?_ ?_
    · exact ⟨ks, rfl, Nat.zero_le _, hT, ⟨rfl, rfl, rfl, rfl, rfl, rfl, rfl, rfl, rfl, rfl, rfl, trivial⟩⟩
    rintro j ρ O ⟨k2, rfl, hj, hT2, hH⟩
    obtain ⟨ρ0, rfl⟩ := hH.elim
    clear hH
    have hk2l := hT2.l
    refine T.seq (T.seq (T.region ?_))
    refine TO.quiet (q_move rfl) (TO.quiet (q_fieldAddr Try.underlying26 rfl inf3 rfl rfl) (TO.quiet (QT.cast (q_load_box 7 Try.underlying3 rfl rfl rfl rfl) (v' := .int .i64 ((b.states.toNat : Nat) : Int)) (by show Value.int _ _ = _; rw [Int.toNat_of_nonneg hv0])) (TO.quiet (q_lss rfl rfl) ?_)))
    refine TO.nil ?_
    refine T.condP rfl (fun hc => ?_) (fun hc => ?_)
    · have hlt42 : j < b.states.toNat := by omega
      refine T.skip (T.seq (T.block ?_))
      have hltj : j < b.states.toNat := by omega
      have hj2 : j < k2.length := by omega
      have hj3 : j < (livesB b).length := by omega
      have hj4 : j < rs.length := by omega
      have hhit := hit_iff hv (k := k) (x := x) (by rw [List.getElem?_eq_getElem hlt29, hx]) hltj (rs := rs) (by rw [hrs j hltj, hadj])
      refine T.region ?_
      refine TO.quiet (q_move rfl) (TO.quiet (q_move rfl) (TO.quiet (q_move rfl) (TO.quiet (q_move rfl) ?_)))
      refine TO.quiet (q_ix (i := j) Try.underlying39 inf4 rfl rfl (rowO (List.mem_of_getElem? (i := 1) rfl))) (TO.quiet (q_ld Try.underlying4 rfl rfl (rowO (List.mem_of_getElem? (i := 1) rfl)) bools_get) ?_)
      by_cases hs51 : k2[j] = true
      · refine TO.quiet (QT.toB (q_move rfl) (hs51)) ?_
        refine TO.passed rfl rfl ?_
        refine TO.passed rfl rfl ?_
        refine TO.passed rfl rfl ?_
        refine TO.passed rfl rfl ?_
        refine TO.passed rfl rfl ?_
        refine TO.passed rfl rfl ?_
        refine TO.passed rfl rfl ?_
        refine TO.passed rfl rfl ?_
        refine TO.passed rfl rfl ?_
        refine TO.passed rfl rfl ?_
        refine TO.passed rfl rfl ?_
        refine TO.passed rfl rfl ?_
        refine TO.passed rfl rfl ?_
        refine TO.passed rfl rfl ?_
        refine TO.passed rfl rfl ?_
        refine TO.passed rfl rfl ?_
        refine TO.passed rfl rfl ?_
        refine TO.passed rfl rfl ?_
        refine TO.passed rfl rfl ?_
        refine TO.quiet (q_pick1 rfl rfl) (TO.quiet (q_ix (i := j) Try.underlying39 inf4 rfl rfl (rowO (List.mem_of_getElem? (i := 1) rfl))) ?_)
        refine TO.loud rfl (l_st (j := j) (v := .bool true) (vs := [(.bool true)]) (cs := bools k2) 1 inf4 rfl rfl rfl rfl rfl (by simp) rfl (by first | (simp; omega) | (simp_all; omega)) ?_)
        refine TO.sub (O' := ([rowI rb rc 4 1 (bools rs), rowI (some ⟨bx4, 0, none⟩) b.states.toNat 4 1 (bools (k2.set j true)), oI bx3 91 [(.int .i64 b.vars), (.int .i64 b.states), (.slice sb b.start.length sc), (.slice eb b.edges.length ec), (.slice tb b.sets.length tc), (.slice ab b.states.toNat ac), (.slice nb b.states.toNat nc)], rowI ab ac 3 1 (nats (List.range b.states.toNat)), rowI nb nc 22 1 (vals qs), rowI lv lvc 4 1 (bools (livesB b)), oI bx2 26 [(.int .i64 0), (.int .i64 0), (.slice none 0 0), (.slice none 0 0), (.slice none 0 0)], oI bx1 26 (buCells b sb sc eb ec tb tc)] ++ (itms 3 qs))) (by rw [show putL (bools k2) j [(.bool true)] = bools (k2.set j true) from (by simp [putL])]; exact Sub.of (List.Sublist.refl _)) ?_
        refine TO.nil (T.region ?_)
        refine TO.quiet (q_move rfl) (TO.quiet (q_addN (a := j) (b := 1) rfl rfl (by omega)) (TO.quiet (q_assign rfl) ?_))
        refine TO.nil ?_
        exact ⟨j + 1, by omega, k2.set j true, rfl, by omega, hT2.step hltj (by rw [hhit, gb hj2, gb hj3, gb hj4]; clear hrs hhit; simp_all <;> omega), ⟨rfl, rfl, rfl, rfl, rfl, rfl, rfl, rfl, rfl, rfl, rfl, trivial⟩⟩
      refine TO.quiet (QT.toB (q_move rfl) (Bool.eq_false_iff.2 hs51)) ?_
      refine TO.guarded rfl rfl rfl (LT.of_quiet rfl rfl (q_move rfl) ?_)
      refine TO.guarded rfl rfl rfl (LT.of_quiet rfl rfl (q_move rfl) ?_)
      refine TO.guarded rfl rfl rfl (LT.of_quiet rfl rfl (q_ix (i := j) Try.underlying39 inf4 rfl rfl (rowO (List.mem_of_getElem? (i := 5) rfl))) ?_)
      refine TO.guarded rfl rfl rfl (LT.of_quiet rfl rfl (q_ld Try.underlying4 rfl rfl (rowO (List.mem_of_getElem? (i := 5) rfl)) bools_get) ?_)
      by_cases hs56 : ((livesB b)[j]) = true
      · refine TO.guarded rfl rfl rfl (LT.of_quiet rfl rfl (QT.toB (q_move rfl) (hs56)) ?_)
        refine TO.guarded rfl rfl rfl (LT.of_quiet rfl rfl (q_move rfl) ?_)
        refine TO.guarded rfl rfl rfl (LT.of_quiet rfl rfl (q_move rfl) ?_)
        refine TO.guarded rfl rfl rfl (LT.of_quiet rfl rfl (q_ix (i := j) Try.underlying39 inf4 rfl rfl (rowO (List.mem_of_getElem? (i := 0) rfl))) ?_)
        refine TO.guarded rfl rfl rfl (LT.of_quiet rfl rfl (q_ld Try.underlying4 rfl rfl (rowO (List.mem_of_getElem? (i := 0) rfl)) bools_get) ?_)
        by_cases hs61 : rs[j] = true
        · refine TO.guarded rfl rfl rfl (LT.of_quiet rfl rfl (QT.toB (q_move rfl) (hs61)) ?_)
          refine TO.passed rfl rfl ?_
          refine TO.passed rfl rfl ?_
          refine TO.passed rfl rfl ?_
          refine TO.passed rfl rfl ?_
          refine TO.passed rfl rfl ?_
          refine TO.passed rfl rfl ?_
          refine TO.passed rfl rfl ?_
          refine TO.guarded rfl rfl rfl (LT.of_quiet rfl rfl (q_pick1 rfl rfl) ?_)
          refine TO.guarded rfl rfl rfl (LT.of_quiet rfl rfl (q_pick1 rfl rfl) ?_)
          refine TO.quiet (q_pick0 rfl rfl) (TO.quiet (q_ix (i := j) Try.underlying39 inf4 rfl rfl (rowO (List.mem_of_getElem? (i := 1) rfl))) ?_)
          refine TO.loud rfl (l_st (j := j) (v := .bool true) (vs := [(.bool true)]) (cs := bools k2) 1 inf4 rfl rfl rfl rfl rfl (by simp) rfl (by first | (simp; omega) | (simp_all; omega)) ?_)
          refine TO.sub (O' := ([rowI rb rc 4 1 (bools rs), rowI (some ⟨bx4, 0, none⟩) b.states.toNat 4 1 (bools (k2.set j true)), oI bx3 91 [(.int .i64 b.vars), (.int .i64 b.states), (.slice sb b.start.length sc), (.slice eb b.edges.length ec), (.slice tb b.sets.length tc), (.slice ab b.states.toNat ac), (.slice nb b.states.toNat nc)], rowI ab ac 3 1 (nats (List.range b.states.toNat)), rowI nb nc 22 1 (vals qs), rowI lv lvc 4 1 (bools (livesB b)), oI bx2 26 [(.int .i64 0), (.int .i64 0), (.slice none 0 0), (.slice none 0 0), (.slice none 0 0)], oI bx1 26 (buCells b sb sc eb ec tb tc)] ++ (itms 3 qs))) (by rw [show putL (bools k2) j [(.bool true)] = bools (k2.set j true) from (by simp [putL])]; exact Sub.of (List.Sublist.refl _)) ?_
          refine TO.nil (T.region ?_)
          refine TO.quiet (q_move rfl) (TO.quiet (q_addN (a := j) (b := 1) rfl rfl (by omega)) (TO.quiet (q_assign rfl) ?_))
          refine TO.nil ?_
          exact ⟨j + 1, by omega, k2.set j true, rfl, by omega, hT2.step hltj (by rw [hhit, gb hj2, gb hj3, gb hj4]; clear hrs hhit; simp_all <;> omega), ⟨rfl, rfl, rfl, rfl, rfl, rfl, rfl, rfl, rfl, rfl, rfl, trivial⟩⟩
        refine TO.guarded rfl rfl rfl (LT.of_quiet rfl rfl (QT.toB (q_move rfl) (Bool.eq_false_iff.2 hs61)) ?_)
        refine TO.guarded rfl rfl rfl (LT.of_quiet rfl rfl (q_move rfl) ?_)
        refine TO.guarded rfl rfl rfl (LT.of_quiet rfl rfl (q_fieldAddr Try.underlying26 rfl inf22 rfl rfl) ?_)
        refine TO.guarded rfl rfl rfl (LT.of_quiet rfl rfl (q_load_box 7 Try.underlying22 rfl rfl rfl rfl) ?_)
        refine TO.guarded rfl rfl rfl (LT.of_quiet rfl rfl (q_move rfl) ?_)
        refine TO.guarded rfl rfl rfl (LT.of_quiet rfl rfl (q_ix (i := k) Try.underlying22 inf3 rfl rfl (Sl.o h.st)) ?_)
        refine TO.guarded rfl rfl rfl (LT.of_quiet rfl rfl (q_ld Try.underlying3 rfl rfl (Sl.o h.st) (show (ints b.start)[k]? = _ by rw [ints_get hlt29, hx])) ?_)
        refine TO.guarded rfl rfl rfl (LT.of_quiet rfl rfl (q_eql rfl rfl) ?_)
        refine TO.guarded rfl rfl rfl (LT.of_quiet rfl rfl (q_pick0 rfl rfl) ?_)
        refine TO.guarded rfl rfl rfl (LT.of_quiet rfl rfl (q_pick1 rfl rfl) ?_)
        refine TO.quiet (q_pick0 rfl rfl) (TO.quiet (q_ix (i := j) Try.underlying39 inf4 rfl rfl (rowO (List.mem_of_getElem? (i := 1) rfl))) ?_)
        refine TO.loud rfl (l_st (j := j) (v := .bool (decide ((j : Int) = ((x : Nat) : Int)))) (vs := [(.bool (decide ((j : Int) = ((x : Nat) : Int))))]) (cs := bools k2) 1 inf4 rfl rfl rfl rfl rfl (by simp) rfl (by first | (simp; omega) | (simp_all; omega)) ?_)
        refine TO.sub (O' := ([rowI rb rc 4 1 (bools rs), rowI (some ⟨bx4, 0, none⟩) b.states.toNat 4 1 (bools (k2.set j (decide ((j : Int) = ((x : Nat) : Int))))), oI bx3 91 [(.int .i64 b.vars), (.int .i64 b.states), (.slice sb b.start.length sc), (.slice eb b.edges.length ec), (.slice tb b.sets.length tc), (.slice ab b.states.toNat ac), (.slice nb b.states.toNat nc)], rowI ab ac 3 1 (nats (List.range b.states.toNat)), rowI nb nc 22 1 (vals qs), rowI lv lvc 4 1 (bools (livesB b)), oI bx2 26 [(.int .i64 0), (.int .i64 0), (.slice none 0 0), (.slice none 0 0), (.slice none 0 0)], oI bx1 26 (buCells b sb sc eb ec tb tc)] ++ (itms 3 qs))) (by rw [show putL (bools k2) j [(.bool (decide ((j : Int) = ((x : Nat) : Int))))] = bools (k2.set j (decide ((j : Int) = ((x : Nat) : Int)))) from (by simp [putL])]; exact Sub.of (List.Sublist.refl _)) ?_
        refine TO.nil (T.region ?_)
        refine TO.quiet (q_move rfl) (TO.quiet (q_addN (a := j) (b := 1) rfl rfl (by omega)) (TO.quiet (q_assign rfl) ?_))
        refine TO.nil ?_
        exact ⟨j + 1, by omega, k2.set j (decide ((j : Int) = ((x : Nat) : Int))), rfl, by omega, hT2.step hltj (by rw [hhit, gb hj2, gb hj3, gb hj4]; clear hrs hhit; simp_all <;> omega), ⟨rfl, rfl, rfl, rfl, rfl, rfl, rfl, rfl, rfl, rfl, rfl, trivial⟩⟩
      refine TO.guarded rfl rfl rfl (LT.of_quiet rfl rfl (QT.toB (q_move rfl) (Bool.eq_false_iff.2 hs56)) ?_)
      refine TO.passed rfl rfl ?_
      refine TO.passed rfl rfl ?_
      refine TO.passed rfl rfl ?_
      refine TO.passed rfl rfl ?_
      refine TO.passed rfl rfl ?_
      refine TO.passed rfl rfl ?_
      refine TO.passed rfl rfl ?_
      refine TO.passed rfl rfl ?_
      refine TO.passed rfl rfl ?_
      refine TO.passed rfl rfl ?_
      refine TO.passed rfl rfl ?_
      refine TO.passed rfl rfl ?_
      refine TO.passed rfl rfl ?_
      refine TO.guarded rfl rfl rfl (LT.of_quiet rfl rfl (q_pick0 rfl rfl) ?_)
      refine TO.quiet (q_pick0 rfl rfl) (TO.quiet (q_ix (i := j) Try.underlying39 inf4 rfl rfl (rowO (List.mem_of_getElem? (i := 1) rfl))) ?_)
      refine TO.loud rfl (l_st (j := j) (v := .bool false) (vs := [(.bool false)]) (cs := bools k2) 1 inf4 rfl rfl rfl rfl rfl (by simp) rfl (by first | (simp; omega) | (simp_all; omega)) ?_)
      refine TO.sub (O' := ([rowI rb rc 4 1 (bools rs), rowI (some ⟨bx4, 0, none⟩) b.states.toNat 4 1 (bools (k2.set j false)), oI bx3 91 [(.int .i64 b.vars), (.int .i64 b.states), (.slice sb b.start.length sc), (.slice eb b.edges.length ec), (.slice tb b.sets.length tc), (.slice ab b.states.toNat ac), (.slice nb b.states.toNat nc)], rowI ab ac 3 1 (nats (List.range b.states.toNat)), rowI nb nc 22 1 (vals qs), rowI lv lvc 4 1 (bools (livesB b)), oI bx2 26 [(.int .i64 0), (.int .i64 0), (.slice none 0 0), (.slice none 0 0), (.slice none 0 0)], oI bx1 26 (buCells b sb sc eb ec tb tc)] ++ (itms 3 qs))) (by rw [show putL (bools k2) j [(.bool false)] = bools (k2.set j false) from (by simp [putL])]; exact Sub.of (List.Sublist.refl _)) ?_
      refine TO.nil (T.region ?_)
      refine TO.quiet (q_move rfl) (TO.quiet (q_addN (a := j) (b := 1) rfl rfl (by omega)) (TO.quiet (q_assign rfl) ?_))
      refine TO.nil ?_
      exact ⟨j + 1, by omega, k2.set j false, rfl, by omega, hT2.step hltj (by rw [hhit, gb hj2, gb hj3, gb hj4]; clear hrs hhit; simp_all <;> omega), ⟨rfl, rfl, rfl, rfl, rfl, rfl, rfl, rfl, rfl, rfl, rfl, trivial⟩⟩
    have hge42 : ¬ j < b.states.toNat := by omega
    refine T.exit ?_
    refine T.region ?_
    refine TO.quiet (q_move rfl) (TO.quiet (q_addN (a := k) (b := 1) rfl rfl (by omega)) (TO.quiet (q_assign rfl) ?_))
    refine TO.nil ?_
    have hje : j = b.states.toNat := by omega
    exact ⟨k + 1, by omega, ([rowI (some ⟨bx4, 0, none⟩) b.states.toNat 4 1 (bools k2), oI bx3 91 [(.int .i64 b.vars), (.int .i64 b.states), (.slice sb b.start.length sc), (.slice eb b.edges.length ec), (.slice tb b.sets.length tc), (.slice ab b.states.toNat ac), (.slice nb b.states.toNat nc)], rowI ab ac 3 1 (nats (List.range b.states.toNat)), rowI nb nc 22 1 (vals qs), rowI lv lvc 4 1 (bools (livesB b)), oI bx2 26 [(.int .i64 0), (.int .i64 0), (.slice none 0 0), (.slice none 0 0), (.slice none 0 0)], oI bx1 26 (buCells b sb sc eb ec tb tc)] ++ (itms 3 qs)), (by exact Sub.d (.k (.k (.k (.k (.k (.k (.k .rf)))))))), k2, rfl, by omega, (by rw [hje] at hT2; exact hT2.next), ⟨rfl, rfl, rfl, rfl, rfl, rfl, rfl, rfl, rfl, trivial⟩⟩
  have hge29 : ¬ k < b.start.length := by omega
  refine T.exit ?_
  refine T.seq ?_
  have hks : ks = keepB b := (show TrK b b.start.length 0 ks by rw [← show k = b.start.length by omega]; exact hT).done hv
  refine T.region ?_
  refine TO.quiet (q_load_boxAgg 6 Try.underlying26 rfl inf26 rfl rfl rfl) (TO.quiet (q_move rfl) ?_)
  have hk75 := fun (w1 : World) (hI : Inv w ([rowI (some ⟨bx4, 0, none⟩) b.states.toNat 4 1 (bools ks), oI bx3 91 [(.int .i64 b.vars), (.int .i64 b.states), (.slice sb b.start.length sc), (.slice eb b.edges.length ec), (.slice tb b.sets.length tc), (.slice ab b.states.toNat ac), (.slice nb b.states.toNat nc)], rowI ab ac 3 1 (nats (List.range b.states.toNat)), rowI nb nc 22 1 (vals qs), rowI lv lvc 4 1 (bools (livesB b)), oI bx2 26 [(.int .i64 0), (.int .i64 0), (.slice none 0 0), (.slice none 0 0), (.slice none 0 0)], oI bx1 26 (buCells b sb sc eb ec tb tc)] ++ (itms 3 qs)) w1) => onlyF w1 b sb eb tb sc ec tc vs (hI.bu h) hB hv ks (some ⟨bx4, 0, none⟩) b.states.toNat (hI.slOf (List.mem_of_getElem? (i := 0) rfl)) hkl
  refine TO.loud rfl (l_call ent84 (CallT.of_pure hk75) rfl ?_)
  clear hk75
  rintro vr O' ⟨N, rfl, sb2, eb2, tb2, sc2, ec2, tc2, q2, rfl, rfl, hq2⟩
  refine TO.sub (O' := ([rowI sb2 sc2 3 1 (ints (trimWith b ks).start), rowI eb2 ec2 54 4 (edsC (trimWith b ks).edges), rowI tb2 tc2 22 1 (vals q2), rowI (some ⟨bx4, 0, none⟩) b.states.toNat 4 1 (bools ks), oI bx3 91 [(.int .i64 b.vars), (.int .i64 b.states), (.slice sb b.start.length sc), (.slice eb b.edges.length ec), (.slice tb b.sets.length tc), (.slice ab b.states.toNat ac), (.slice nb b.states.toNat nc)], rowI ab ac 3 1 (nats (List.range b.states.toNat)), rowI nb nc 22 1 (vals qs), rowI lv lvc 4 1 (bools (livesB b)), oI bx2 26 [(.int .i64 0), (.int .i64 0), (.slice none 0 0), (.slice none 0 0), (.slice none 0 0)], oI bx1 26 (buCells b sb sc eb ec tb tc)] ++ ((itms 3 q2) ++ (itms 3 qs)))) (by exact Sub.swap4 [rowI sb2 sc2 3 1 (ints (trimWith b ks).start), rowI eb2 ec2 54 4 (edsC (trimWith b ks).edges), rowI tb2 tc2 22 1 (vals q2)] [rowI (some ⟨bx4, 0, none⟩) b.states.toNat 4 1 (bools ks), oI bx3 91 [(.int .i64 b.vars), (.int .i64 b.states), (.slice sb b.start.length sc), (.slice eb b.edges.length ec), (.slice tb b.sets.length tc), (.slice ab b.states.toNat ac), (.slice nb b.states.toNat nc)], rowI ab ac 3 1 (nats (List.range b.states.toNat)), rowI nb nc 22 1 (vals qs), rowI lv lvc 4 1 (bools (livesB b)), oI bx2 26 [(.int .i64 0), (.int .i64 0), (.slice none 0 0), (.slice none 0 0), (.slice none 0 0)], oI bx1 26 (buCells b sb sc eb ec tb tc)] (itms 3 q2) (itms 3 qs)) ?_
  refine TO.loud rfl (l_store_box (v := (.agg #[(.int .i64 (trimWith b ks).vars), (.int .i64 (trimWith b ks).states), (.slice sb2 ((trimWith b ks).start.length) sc2), (.slice eb2 ((trimWith b ks).edges.length) ec2), (.slice tb2 ((trimWith b ks).sets.length) tc2)])) (vs := [(.int .i64 (trimWith b ks).vars), (.int .i64 (trimWith b ks).states), (.slice sb2 ((trimWith b ks).start.length) sc2), (.slice eb2 ((trimWith b ks).edges.length) ec2), (.slice tb2 ((trimWith b ks).sets.length) tc2)]) 8 inf26 rfl rfl rfl rfl rfl rfl (by simp [putL]) ?_)
  refine TO.quiet (q_assign rfl) ?_
  refine TO.nil (T.ret (Res.drop ?_))
  refine Res.cell1b (.int .i64 0) (i := 8) Try.results36 Try.underlying26 rfl inf26 rfl rfl rfl rfl ?_
  have htr : trimB b = trimWith b ks := by rw [trimB_eq hv, hks]
  refine ⟨[rowI sb2 sc2 3 1 (ints (trimWith b ks).start), rowI eb2 ec2 54 4 (edsC (trimWith b ks).edges), rowI tb2 tc2 22 1 (vals q2)] ++ itms 3 q2, Sub.cnt ([rowI (some ⟨bx4, 0, none⟩) b.states.toNat 4 1 (bools ks), oI bx3 91 [(.int .i64 b.vars), (.int .i64 b.states), (.slice sb b.start.length sc), (.slice eb b.edges.length ec), (.slice tb b.sets.length tc), (.slice ab b.states.toNat ac), (.slice nb b.states.toNat nc)], rowI ab ac 3 1 (nats (List.range b.states.toNat)), rowI nb nc 22 1 (vals qs), rowI lv lvc 4 1 (bools (livesB b)), oI bx2 26 [(.int .i64 (trimWith b ks).vars), (.int .i64 (trimWith b ks).states), (.slice sb2 ((trimWith b ks).start.length) sc2), (.slice eb2 ((trimWith b ks).edges.length) ec2), (.slice tb2 ((trimWith b ks).sets.length) tc2)], oI bx1 26 (buCells b sb sc eb ec tb tc)] ++ itms 3 qs) (by intro a; simp only [itms, oI, List.set_cons_zero, List.set_cons_succ, putL, List.cons_append, List.nil_append, List.append_nil, List.append_assoc, List.map_append, List.map_cons, List.map_nil, cnt_append, cnt_cons, cnt_nil, buCells, laCells] <;> omega), sb2, eb2, tb2, sc2, ec2, tc2, q2, ?_, ?_, ?_⟩
  · rw [htr, he]; rfl
  · rw [htr]
  · rw [htr]; exact hq2
end Go.Proofs.Ytnamoapbienooaa

