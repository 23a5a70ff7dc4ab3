/- Contracts of functions of the program (BLw7): what each call answers and that it leaves memory as it was. Conditions: those each theorem names. -/
import Derived.Test.YtnamoapbienooaaPC
import Derived.Test.YtnamoapbienooaaEndB
import Derived.Test.YtnamoapbienooaaBUni
import Derived.Test.YtnamoapbienooaaBInt
import Derived.Test.YtnamoapbienooaaBDeg
import Derived.Test.YtnamoapbienooaaPB
set_option linter.unusedSectionVars false
set_option linter.unusedSimpArgs false
set_option linter.unusedVariables false
set_option linter.unnecessarySimpa false
namespace Go.Proofs.Ytnamoapbienooaa
open Go.Lx Go.RowKit
set_option linter.unusedVariables false
set_option linter.unusedSimpArgs false
set_option maxHeartbeats 4000000 in
set_option maxRecDepth 20000 in
theorem lawOps (w : World) (a : Bu) (sA eA tA : Option Addr) (sAc eAc tAc : Nat) (vA : List Value) (hA : BuAt w a sA eA tA vA) (hpa : ∀ e ∈ a.edges, e.pos < 256 ∧ e.neg < 256) (hsa : a.sets.length < 9223372036854775807) (b : Bu) (sb eb tb : Option Addr) (sc ec tc : Nat) (vs : List Value) (h : BuAt w b sb eb tb vs) (hpn : ∀ e ∈ b.edges, e.pos < 256 ∧ e.neg < 256) (hse : b.sets.length < 9223372036854775807) (l : La) (pb lb : Option Addr) (pc lc : Nat) (h2 : LaAt w l pb lb pc lc) (hp8 : ∀ x ∈ l.pre, x < 256) (hl8 : ∀ x ∈ l.loop, x < 256) :
    PureT Try.prog 9 [.agg (buCells a sA sAc eA eAc tA tAc).toArray, .agg (buCells b sb sc eb ec tb tc).toArray, .agg (laCells l pb pc lb lc).toArray] w fun v N => v = .bool true ∧ N = [] := by
  refine CallT.enter Try.func9 rfl Try.ntmps9 rfl ?_
  refine T.seq (T.region ?_)
  refine TO.loud rfl (l_box (v := (.agg (buCells a sA sAc eA eAc tA tAc).toArray)) (cs := (buCells a sA sAc eA eAc tA tAc)) rfl rfl (fun bx1 => ?_))
  refine TO.loud rfl (l_box (v := (.agg (buCells b sb sc eb ec tb tc).toArray)) (cs := (buCells b sb sc eb ec tb tc)) rfl rfl (fun bx2 => ?_))
  refine TO.loud rfl (l_box (v := (.agg (laCells l pb pc lb lc).toArray)) (cs := (laCells l pb pc lb lc)) rfl rfl (fun bx3 => ?_))
  refine TO.quiet (q_assign rfl) ?_
  refine TO.nil ?_
  refine T.cut (fun ρ O => Sub [oI bx3 29 (laCells l pb pc lb lc), oI bx2 26 (buCells b sb sc eb ec tb tc), oI bx1 26 (buCells a sA sAc eA eAc tA tAc)] O ∧ (¬ longB a = true ∧ ¬ longB b = true ∧ ¬ longL l = true) ∧ Heads [(0, (.agg (buCells a sA sAc eA eAc tA tAc).toArray)), (1, (.agg (buCells b sb sc eb ec tb tc).toArray)), (2, (.agg (laCells l pb pc lb lc).toArray)), (3, (.pointer (some ⟨bx1, 0, none⟩))), (4, (.pointer (some ⟨bx2, 0, none⟩))), (5, (.pointer (some ⟨bx3, 0, none⟩)))] ρ) ?_ ?_
  · refine T.seq ?_
    refine T.region ?_
    refine TO.quiet (q_load_boxAgg 2 Try.underlying26 rfl inf26 rfl rfl rfl) (TO.quiet (q_load_boxAgg 1 Try.underlying26 rfl inf26 rfl rfl rfl) ?_)
    refine TO.loud rfl (l_buildSlice (m := 2) (parts := [(0, _), (1, _)]) (cs := [(.int .i64 a.vars), (.int .i64 a.states), (.slice sA a.start.length sAc), (.slice eA a.edges.length eAc), (.slice tA a.sets.length tAc), (.int .i64 b.vars), (.int .i64 b.states), (.slice sb b.start.length sc), (.slice eb b.edges.length ec), (.slice tb b.sets.length tc)]) Try.underlying71 inf26 (by decide) (by kernel_rfl) rfl (fun bx4 => ?_))
    have hk22 := fun (w1 : World) (hI : Inv w [rowI (some ⟨bx4, 0, none⟩) 2 26 5 [(.int .i64 a.vars), (.int .i64 a.states), (.slice sA a.start.length sAc), (.slice eA a.edges.length eAc), (.slice tA a.sets.length tAc), (.int .i64 b.vars), (.int .i64 b.states), (.slice sb b.start.length sc), (.slice eb b.edges.length ec), (.slice tb b.sets.length tc)], oI bx3 29 (laCells l pb pc lb lc), oI bx2 26 (buCells b sb sc eb ec tb tc), oI bx1 26 (buCells a sA sAc eA eAc tA tAc)] w1) => (by
      have h9 := longF w1 (some ⟨bx4, 0, none⟩) 2 [⟨a, sA, sAc, eA, eAc, tA, tAc, vA⟩, ⟨b, sb, sc, eb, ec, tb, tc, vs⟩] (hI.slOf (List.mem_of_getElem? (i := 0) rfl)) (List.forall_mem_cons.2 ⟨hI.bu hA, fun q hq => by have h8 := List.mem_singleton.1 hq; subst h8; exact hI.bu h⟩) (by simp) (List.forall_mem_cons.2 ⟨hsa, fun q hq => by have h8 := List.mem_singleton.1 hq; subst h8; exact hse⟩)
      rw [show ([⟨a, sA, sAc, eA, eAc, tA, tAc, vA⟩, ⟨b, sb, sc, eb, ec, tb, tc, vs⟩] : List BuRef).any (fun q => longB q.b) = (longB a || longB b) by simp] at h9; exact h9)
    refine TO.loud rfl (l_call ent11 (CallT.of_pure hk22) rfl ?_)
    clear hk22
    rintro vr O' ⟨N, rfl, rfl, rfl⟩
    by_cases hs23 : (longB a || longB b) = true
    · refine TO.quiet (QT.toB (q_move rfl) (hs23)) ?_
      refine TO.passed rfl rfl ?_
      refine TO.passed rfl rfl ?_
      refine TO.passed rfl rfl ?_
      refine TO.passed rfl rfl ?_
      refine TO.passed rfl rfl ?_
      refine TO.passed rfl rfl ?_
      refine TO.quiet (q_pick1 rfl rfl) (TO.quiet (q_move rfl) ?_)
      refine TO.passed rfl rfl ?_
      refine TO.passed rfl rfl ?_
      refine TO.passed rfl rfl ?_
      refine TO.quiet (q_pick1 rfl rfl) (TO.quiet (q_move rfl) ?_)
      refine TO.passed rfl rfl ?_
      refine TO.passed rfl rfl ?_
      refine TO.passed rfl rfl ?_
      refine TO.quiet (q_pick1 rfl rfl) (TO.quiet (q_move rfl) ?_)
      refine TO.passed rfl rfl ?_
      refine TO.passed rfl rfl ?_
      refine TO.quiet (q_pick1 rfl rfl) ?_
      refine TO.nil ?_
      refine T.cond1 rfl ?_
      refine T.seq (T.region ?_)
      have hk45 := fun (w1 : World) (hI : Inv w [rowI (some ⟨bx4, 0, none⟩) 2 26 5 [(.int .i64 a.vars), (.int .i64 a.states), (.slice sA a.start.length sAc), (.slice eA a.edges.length eAc), (.slice tA a.sets.length tAc), (.int .i64 b.vars), (.int .i64 b.states), (.slice sb b.start.length sc), (.slice eb b.edges.length ec), (.slice tb b.sets.length tc)], oI bx3 29 (laCells l pb pc lb lc), oI bx2 26 (buCells b sb sc eb ec tb tc), oI bx1 26 (buCells a sA sAc eA eAc tA tAc)] w1) => awakeF w1
      refine TO.loud rfl (l_call ent14 (CallT.of_pure hk45) rfl ?_)
      clear hk45
      rintro vr O' ⟨N, rfl, rfl, rfl⟩
      refine TO.quiet (q_assign rfl) ?_
      refine TO.nil (T.ret (Res.drop ?_))
      refine Res.one (.bool true) Try.results9 rfl ?_
      exact ⟨[], (by exact Sub.z), rfl, rfl⟩
    refine TO.quiet (QT.toB (q_move rfl) (Bool.eq_false_iff.2 hs23)) ?_
    refine TO.guarded rfl rfl rfl (LT.of_quiet rfl rfl (q_fieldAddr Try.underlying26 rfl inf3 rfl rfl) ?_)
    refine TO.guarded rfl rfl rfl (LT.of_quiet rfl rfl (q_load_box 3 Try.underlying3 rfl rfl rfl rfl) ?_)
    refine TO.guarded rfl rfl rfl (LT.of_quiet rfl rfl (q_fieldAddr Try.underlying26 rfl inf3 rfl rfl) ?_)
    refine TO.guarded rfl rfl rfl (LT.of_quiet rfl rfl (q_load_box 2 Try.underlying3 rfl rfl rfl rfl) ?_)
    refine TO.guarded rfl rfl rfl (LT.of_quiet rfl rfl (q_mul rfl rfl) ?_)
    refine TO.guarded rfl rfl rfl (LT.of_quiet rfl rfl (q_gtr rfl rfl) ?_)
    refine TO.quiet (q_pick0 rfl rfl) ?_
    by_cases hs31 : (IntKind.i64.wrap (a.states * b.states)) > 30
    · refine TO.quiet (QT.toB (q_move rfl) (decide_eq_true hs31)) ?_
      refine TO.passed rfl rfl ?_
      refine TO.passed rfl rfl ?_
      refine TO.passed rfl rfl ?_
      refine TO.quiet (q_pick1 rfl rfl) (TO.quiet (q_move rfl) ?_)
      refine TO.passed rfl rfl ?_
      refine TO.passed rfl rfl ?_
      refine TO.passed rfl rfl ?_
      refine TO.quiet (q_pick1 rfl rfl) (TO.quiet (q_move rfl) ?_)
      refine TO.passed rfl rfl ?_
      refine TO.passed rfl rfl ?_
      refine TO.quiet (q_pick1 rfl rfl) ?_
      refine TO.nil ?_
      refine T.cond1 rfl ?_
      refine T.seq (T.region ?_)
      have hk45 := fun (w1 : World) (hI : Inv w [rowI (some ⟨bx4, 0, none⟩) 2 26 5 [(.int .i64 a.vars), (.int .i64 a.states), (.slice sA a.start.length sAc), (.slice eA a.edges.length eAc), (.slice tA a.sets.length tAc), (.int .i64 b.vars), (.int .i64 b.states), (.slice sb b.start.length sc), (.slice eb b.edges.length ec), (.slice tb b.sets.length tc)], oI bx3 29 (laCells l pb pc lb lc), oI bx2 26 (buCells b sb sc eb ec tb tc), oI bx1 26 (buCells a sA sAc eA eAc tA tAc)] w1) => awakeF w1
      refine TO.loud rfl (l_call ent14 (CallT.of_pure hk45) rfl ?_)
      clear hk45
      rintro vr O' ⟨N, rfl, rfl, rfl⟩
      refine TO.quiet (q_assign rfl) ?_
      refine TO.nil (T.ret (Res.drop ?_))
      refine Res.one (.bool true) Try.results9 rfl ?_
      exact ⟨[], (by exact Sub.z), rfl, rfl⟩
    refine TO.quiet (QT.toB (q_move rfl) (decide_eq_false hs31)) ?_
    refine TO.guarded rfl rfl rfl (LT.of_quiet rfl rfl (q_load_boxAgg 1 Try.underlying29 rfl inf29 rfl rfl rfl) ?_)
    refine TO.guarded rfl rfl rfl (l_buildSlice (m := 1) (parts := [(0, _)]) (cs := (laCells l pb pc lb lc)) Try.underlying72 inf29 (by decide) (by kernel_rfl) rfl (fun bx5 => ?_))
    have hk34 := fun (w1 : World) (hI : Inv w [rowI (some ⟨bx5, 0, none⟩) 1 29 2 (laCells l pb pc lb lc), rowI (some ⟨bx4, 0, none⟩) 2 26 5 [(.int .i64 a.vars), (.int .i64 a.states), (.slice sA a.start.length sAc), (.slice eA a.edges.length eAc), (.slice tA a.sets.length tAc), (.int .i64 b.vars), (.int .i64 b.states), (.slice sb b.start.length sc), (.slice eb b.edges.length ec), (.slice tb b.sets.length tc)], oI bx3 29 (laCells l pb pc lb lc), oI bx2 26 (buCells b sb sc eb ec tb tc), oI bx1 26 (buCells a sA sAc eA eAc tA tAc)] w1) => (by
      have h9 := longLF w1 (some ⟨bx5, 0, none⟩) 1 [⟨l, pb, pc, lb, lc⟩] (hI.slOf (List.mem_of_getElem? (i := 0) rfl)) (by simp)
      rw [show ([⟨l, pb, pc, lb, lc⟩] : List LaRef).any (fun q => longL q.l) = longL l by simp] at h9; exact h9)
    refine TO.guarded rfl rfl rfl (l_call ent12 (CallT.of_pure hk34) rfl ?_)
    clear hk34
    rintro vr O' ⟨N, rfl, rfl, rfl⟩
    refine TO.quiet (q_pick0 rfl rfl) ?_
    by_cases hs36 : (longL l) = true
    · refine TO.quiet (QT.toB (q_move rfl) (hs36)) ?_
      refine TO.passed rfl rfl ?_
      refine TO.passed rfl rfl ?_
      refine TO.passed rfl rfl ?_
      refine TO.quiet (q_pick1 rfl rfl) (TO.quiet (q_move rfl) ?_)
      refine TO.passed rfl rfl ?_
      refine TO.passed rfl rfl ?_
      refine TO.quiet (q_pick1 rfl rfl) ?_
      refine TO.nil ?_
      refine T.cond1 rfl ?_
      refine T.seq (T.region ?_)
      have hk45 := fun (w1 : World) (hI : Inv w [rowI (some ⟨bx5, 0, none⟩) 1 29 2 (laCells l pb pc lb lc), rowI (some ⟨bx4, 0, none⟩) 2 26 5 [(.int .i64 a.vars), (.int .i64 a.states), (.slice sA a.start.length sAc), (.slice eA a.edges.length eAc), (.slice tA a.sets.length tAc), (.int .i64 b.vars), (.int .i64 b.states), (.slice sb b.start.length sc), (.slice eb b.edges.length ec), (.slice tb b.sets.length tc)], oI bx3 29 (laCells l pb pc lb lc), oI bx2 26 (buCells b sb sc eb ec tb tc), oI bx1 26 (buCells a sA sAc eA eAc tA tAc)] w1) => awakeF w1
      refine TO.loud rfl (l_call ent14 (CallT.of_pure hk45) rfl ?_)
      clear hk45
      rintro vr O' ⟨N, rfl, rfl, rfl⟩
      refine TO.quiet (q_assign rfl) ?_
      refine TO.nil (T.ret (Res.drop ?_))
      refine Res.one (.bool true) Try.results9 rfl ?_
      exact ⟨[], (by exact Sub.z), rfl, rfl⟩
    refine TO.quiet (QT.toB (q_move rfl) (Bool.eq_false_iff.2 hs36)) ?_
    refine TO.guarded rfl rfl rfl (LT.of_quiet rfl rfl (q_load_boxAgg 2 Try.underlying29 rfl inf29 rfl rfl rfl) ?_)
    have hk38 := fun (w1 : World) (hI : Inv w [rowI (some ⟨bx5, 0, none⟩) 1 29 2 (laCells l pb pc lb lc), rowI (some ⟨bx4, 0, none⟩) 2 26 5 [(.int .i64 a.vars), (.int .i64 a.states), (.slice sA a.start.length sAc), (.slice eA a.edges.length eAc), (.slice tA a.sets.length tAc), (.int .i64 b.vars), (.int .i64 b.states), (.slice sb b.start.length sc), (.slice eb b.edges.length ec), (.slice tb b.sets.length tc)], oI bx3 29 (laCells l pb pc lb lc), oI bx2 26 (buCells b sb sc eb ec tb tc), oI bx1 26 (buCells a sA sAc eA eAc tA tAc)] w1) => fairF w1 l pb lb pc lc (by have := longL_no hs36; omega) (by have := longL_no hs36; omega)
    refine TO.guarded rfl rfl rfl (l_call ent13 (CallT.of_pure hk38) rfl ?_)
    clear hk38
    rintro vr O' ⟨N, rfl, rfl, rfl⟩
    refine TO.guarded rfl rfl rfl (LT.of_quiet rfl rfl (q_not rfl) ?_)
    refine TO.quiet (q_pick0 rfl rfl) ?_
    by_cases hs41 : ((!(decide (l.n ≤ 16)))) = true
    · refine TO.quiet (QT.toB (q_move rfl) (hs41)) ?_
      refine TO.passed rfl rfl ?_
      refine TO.passed rfl rfl ?_
      refine TO.quiet (q_pick1 rfl rfl) ?_
      refine TO.nil ?_
      refine T.cond1 rfl ?_
      refine T.seq (T.region ?_)
      have hk45 := fun (w1 : World) (hI : Inv w [rowI (some ⟨bx5, 0, none⟩) 1 29 2 (laCells l pb pc lb lc), rowI (some ⟨bx4, 0, none⟩) 2 26 5 [(.int .i64 a.vars), (.int .i64 a.states), (.slice sA a.start.length sAc), (.slice eA a.edges.length eAc), (.slice tA a.sets.length tAc), (.int .i64 b.vars), (.int .i64 b.states), (.slice sb b.start.length sc), (.slice eb b.edges.length ec), (.slice tb b.sets.length tc)], oI bx3 29 (laCells l pb pc lb lc), oI bx2 26 (buCells b sb sc eb ec tb tc), oI bx1 26 (buCells a sA sAc eA eAc tA tAc)] w1) => awakeF w1
      refine TO.loud rfl (l_call ent14 (CallT.of_pure hk45) rfl ?_)
      clear hk45
      rintro vr O' ⟨N, rfl, rfl, rfl⟩
      refine TO.quiet (q_assign rfl) ?_
      refine TO.nil (T.ret (Res.drop ?_))
      refine Res.one (.bool true) Try.results9 rfl ?_
      exact ⟨[], (by exact Sub.z), rfl, rfl⟩
    refine TO.quiet (QT.toB (q_move rfl) (Bool.eq_false_iff.2 hs41)) ?_
    have hk42 := fun (w1 : World) (hI : Inv w [rowI (some ⟨bx5, 0, none⟩) 1 29 2 (laCells l pb pc lb lc), rowI (some ⟨bx4, 0, none⟩) 2 26 5 [(.int .i64 a.vars), (.int .i64 a.states), (.slice sA a.start.length sAc), (.slice eA a.edges.length eAc), (.slice tA a.sets.length tAc), (.int .i64 b.vars), (.int .i64 b.states), (.slice sb b.start.length sc), (.slice eb b.edges.length ec), (.slice tb b.sets.length tc)], oI bx3 29 (laCells l pb pc lb lc), oI bx2 26 (buCells b sb sc eb ec tb tc), oI bx1 26 (buCells a sA sAc eA eAc tA tAc)] w1) => awakeF w1
    refine TO.guarded rfl rfl rfl (l_call ent14 (CallT.of_pure hk42) rfl ?_)
    clear hk42
    rintro vr O' ⟨N, rfl, rfl, rfl⟩
    refine TO.guarded rfl rfl rfl (LT.of_quiet rfl rfl (q_not rfl) ?_)
    refine TO.quiet (q_pick0 rfl rfl) ?_
    refine TO.nil ?_
    refine T.cond0 rfl ?_
    refine T.skip ?_
    exact ⟨(by exact Sub.d (.d (.k (.k (.k .z))))), ⟨by simp_all, by simp_all, by simp_all⟩, ⟨rfl, rfl, rfl, rfl, rfl, rfl, trivial⟩⟩
  rintro ρ O ⟨hS, ⟨hna, hnb, hnl⟩, hH⟩
  obtain ⟨ρ0, rfl⟩ := hH.elim
  clear hH
  refine T.sub hS ?_
  refine T.seq ?_
  have hAB : BuB a := longB_no hna hpa
  have hB : BuB b := longB_no hnb hpn
  have hL : LaB l := longL_lab hnl hp8 hl8
  have hea := (longB_ed hna).2.1; have heb := (longB_ed hnb).2.1
  refine T.region ?_
  refine TO.quiet (q_load_boxAgg 2 Try.underlying26 rfl inf26 rfl rfl rfl) (TO.quiet (q_load_boxAgg 0 Try.underlying29 rfl inf29 rfl rfl rfl) ?_)
  have hk49 := fun (w1 : World) (hI : Inv w [oI bx3 29 (laCells l pb pc lb lc), oI bx2 26 (buCells b sb sc eb ec tb tc), oI bx1 26 (buCells a sA sAc eA eAc tA tAc)] w1) => acceptsF w1 a sA eA tA sAc eAc tAc vA (hI.bu hA) hAB l pb lb pc lc (hI.la h2) hL (by omega)
  refine TO.loud rfl (l_call ent17 (CallT.of_pure hk49) rfl ?_)
  clear hk49
  rintro vr O' ⟨N, rfl, rfl, rfl⟩
  refine TO.quiet (q_move rfl) (TO.quiet (q_extract (vs := _) rfl rfl) (TO.quiet (q_extract (vs := _) rfl rfl) (TO.quiet (q_assign rfl) ?_)))
  refine TO.quiet (q_assign rfl) ?_
  refine TO.nil (T.seq (T.region ?_))
  refine TO.quiet (q_load_boxAgg 1 Try.underlying26 rfl inf26 rfl rfl rfl) (TO.quiet (q_load_boxAgg 0 Try.underlying29 rfl inf29 rfl rfl rfl) ?_)
  have hk55 := fun (w1 : World) (hI : Inv w [oI bx3 29 (laCells l pb pc lb lc), oI bx2 26 (buCells b sb sc eb ec tb tc), oI bx1 26 (buCells a sA sAc eA eAc tA tAc)] w1) => acceptsF w1 b sb eb tb sc ec tc vs (hI.bu h) hB l pb lb pc lc (hI.la h2) hL (by omega)
  refine TO.loud rfl (l_call ent17 (CallT.of_pure hk55) rfl ?_)
  clear hk55
  rintro vr O' ⟨N, rfl, rfl, rfl⟩
  refine TO.quiet (q_move rfl) (TO.quiet (q_extract (vs := _) rfl rfl) (TO.quiet (q_extract (vs := _) rfl rfl) (TO.quiet (q_assign rfl) ?_)))
  refine TO.quiet (q_assign rfl) ?_
  refine TO.nil (T.seq (T.seq (T.region ?_)))
  refine TO.quiet (q_move rfl) (TO.quiet (q_neq rfl rfl) ?_)
  by_cases hs60 : ((accE a l : Nat) : Int) ≠ 0
  · refine TO.quiet (QT.toB (q_move rfl) (decide_eq_true hs60)) ?_
    refine TO.passed rfl rfl ?_
    refine TO.passed rfl rfl ?_
    refine TO.quiet (q_pick1 rfl rfl) ?_
    refine TO.nil ?_
    refine T.cond1 rfl ?_
    refine T.seq (T.region ?_)
    refine TO.quiet (q_assign rfl) ?_
    refine TO.nil (T.ret (Res.drop ?_))
    refine Res.one (.bool true) Try.results9 rfl ?_
    exact ⟨[], (by exact Sub.z), rfl, rfl⟩
  refine TO.quiet (QT.toB (q_move rfl) (decide_eq_false hs60)) ?_
  refine TO.guarded rfl rfl rfl (LT.of_quiet rfl rfl (q_move rfl) ?_)
  refine TO.guarded rfl rfl rfl (LT.of_quiet rfl rfl (q_neq rfl rfl) ?_)
  refine TO.quiet (q_pick0 rfl rfl) ?_
  refine TO.nil ?_
  refine T.condP rfl (fun hc => ?_) (fun hc => ?_)
  · have hlt63 : accE b l ≠ 0 := by omega
    refine T.seq (T.region ?_)
    refine TO.quiet (q_assign rfl) ?_
    refine TO.nil (T.ret (Res.drop ?_))
    refine Res.one (.bool true) Try.results9 rfl ?_
    exact ⟨[], (by exact Sub.z), rfl, rfl⟩
  have hge63 : ¬ accE b l ≠ 0 := by omega
  refine T.skip (T.seq ?_)
  have e1 : accE a l = 0 := by omega
  have e2 : accE b l = 0 := by omega
  have o1 := ops_one hna e1
  have o2 := ops_one hnb e2
  refine T.region ?_
  refine TO.quiet (q_load_boxAgg 2 Try.underlying26 rfl inf26 rfl rfl rfl) ?_
  have hk66 := fun (w1 : World) (hI : Inv w [oI bx3 29 (laCells l pb pc lb lc), oI bx2 26 (buCells b sb sc eb ec tb tc), oI bx1 26 (buCells a sA sAc eA eAc tA tAc)] w1) => trimF w1 a sA eA tA sAc eAc tAc vA (hI.bu hA) hAB
  refine TO.loud rfl (l_call ent28 (CallT.of_pure hk66) rfl ?_)
  clear hk66
  rintro vr O' ⟨N, rfl, sx, ex, tx, sxc, exc, txc, qx, rfl, rfl, hqx⟩
  refine TO.sub (O' := ([rowI sx sxc 3 1 (ints (trimB a).start), rowI ex exc 54 4 (edsC (trimB a).edges), rowI tx txc 22 1 (vals qx), oI bx3 29 (laCells l pb pc lb lc), oI bx2 26 (buCells b sb sc eb ec tb tc), oI bx1 26 (buCells a sA sAc eA eAc tA tAc)] ++ (itms 3 qx))) (by exact Sub.swap3 [rowI sx sxc 3 1 (ints (trimB a).start), rowI ex exc 54 4 (edsC (trimB a).edges), rowI tx txc 22 1 (vals qx)] [oI bx3 29 (laCells l pb pc lb lc), oI bx2 26 (buCells b sb sc eb ec tb tc), oI bx1 26 (buCells a sA sAc eA eAc tA tAc)] (itms 3 qx)) ?_
  refine TO.quiet (q_move rfl) (TO.quiet (q_extract (vs := _) rfl rfl) (TO.quiet (q_extract (vs := _) rfl rfl) ?_))
  refine TO.loud rfl (l_alloc inf26 rfl (fun bx6 => ?_))
  refine TO.loud rfl (l_store_box (v := (.agg #[(.int .i64 (trimB a).vars), (.int .i64 (trimB a).states), (.slice sx ((trimB a).start.length) sxc), (.slice ex ((trimB a).edges.length) exc), (.slice tx ((trimB a).sets.length) txc)])) (vs := [(.int .i64 (trimB a).vars), (.int .i64 (trimB a).states), (.slice sx ((trimB a).start.length) sxc), (.slice ex ((trimB a).edges.length) exc), (.slice tx ((trimB a).sets.length) txc)]) 0 inf26 rfl rfl rfl rfl rfl rfl (by simp [putL]) ?_)
  refine TO.quiet (q_assign rfl) ?_
  refine TO.nil (T.seq (T.region ?_))
  refine TO.quiet (q_load_boxAgg 6 Try.underlying26 rfl inf26 rfl rfl rfl) ?_
  have hk71 := fun (w1 : World) (hI : Inv w ([oI bx6 26 [(.int .i64 (trimB a).vars), (.int .i64 (trimB a).states), (.slice sx ((trimB a).start.length) sxc), (.slice ex ((trimB a).edges.length) exc), (.slice tx ((trimB a).sets.length) txc)], rowI sx sxc 3 1 (ints (trimB a).start), rowI ex exc 54 4 (edsC (trimB a).edges), rowI tx txc 22 1 (vals qx), oI bx3 29 (laCells l pb pc lb lc), oI bx2 26 (buCells b sb sc eb ec tb tc), oI bx1 26 (buCells a sA sAc eA eAc tA tAc)] ++ (itms 3 qx)) w1) => degenF w1 a sA eA tA sAc eAc tAc vA (hI.bu hA) hAB
  refine TO.loud rfl (l_call ent37 (CallT.of_pure hk71) rfl ?_)
  clear hk71
  rintro vr O' ⟨N, rfl, sy, ey, ty, syc, eyc, tyc, qy, rfl, rfl, hqy⟩
  refine TO.sub (O' := ([rowI sy syc 3 1 (ints (dgB a).start), rowI ey eyc 54 4 (edsC (dgB a).edges), rowI ty tyc 22 1 (vals qy), oI bx6 26 [(.int .i64 (trimB a).vars), (.int .i64 (trimB a).states), (.slice sx ((trimB a).start.length) sxc), (.slice ex ((trimB a).edges.length) exc), (.slice tx ((trimB a).sets.length) txc)], rowI sx sxc 3 1 (ints (trimB a).start), rowI ex exc 54 4 (edsC (trimB a).edges), rowI tx txc 22 1 (vals qx), oI bx3 29 (laCells l pb pc lb lc), oI bx2 26 (buCells b sb sc eb ec tb tc), oI bx1 26 (buCells a sA sAc eA eAc tA tAc)] ++ ((itms 3 qy) ++ (itms 3 qx)))) (by exact Sub.swap4 [rowI sy syc 3 1 (ints (dgB a).start), rowI ey eyc 54 4 (edsC (dgB a).edges), rowI ty tyc 22 1 (vals qy)] [oI bx6 26 [(.int .i64 (trimB a).vars), (.int .i64 (trimB a).states), (.slice sx ((trimB a).start.length) sxc), (.slice ex ((trimB a).edges.length) exc), (.slice tx ((trimB a).sets.length) txc)], rowI sx sxc 3 1 (ints (trimB a).start), rowI ex exc 54 4 (edsC (trimB a).edges), rowI tx txc 22 1 (vals qx), oI bx3 29 (laCells l pb pc lb lc), oI bx2 26 (buCells b sb sc eb ec tb tc), oI bx1 26 (buCells a sA sAc eA eAc tA tAc)] (itms 3 qy) (itms 3 qx)) ?_
  refine TO.quiet (q_move rfl) (TO.quiet (q_extract (vs := _) rfl rfl) (TO.quiet (q_extract (vs := _) rfl rfl) ?_))
  refine TO.loud rfl (l_alloc inf26 rfl (fun bx7 => ?_))
  refine TO.loud rfl (l_store_box (v := (.agg #[(.int .i64 (dgB a).vars), (.int .i64 (dgB a).states), (.slice sy ((dgB a).start.length) syc), (.slice ey ((dgB a).edges.length) eyc), (.slice ty ((dgB a).sets.length) tyc)])) (vs := [(.int .i64 (dgB a).vars), (.int .i64 (dgB a).states), (.slice sy ((dgB a).start.length) syc), (.slice ey ((dgB a).edges.length) eyc), (.slice ty ((dgB a).sets.length) tyc)]) 0 inf26 rfl rfl rfl rfl rfl rfl (by simp [putL]) ?_)
  refine TO.quiet (q_assign rfl) ?_
  refine TO.nil (T.seq (T.seq (T.region ?_)))
  refine TO.quiet (q_move rfl) (TO.quiet (QT.toB (q_neq rfl rfl) (decide_eq_false (by have := o1.1; omega))) (TO.quiet (q_move rfl) ?_))
  refine TO.guarded rfl rfl rfl (LT.of_quiet rfl rfl (q_move rfl) ?_)
  refine TO.guarded rfl rfl rfl (LT.of_quiet rfl rfl (QT.toB (q_neq rfl rfl) (decide_eq_false (by have := o1.2.2.1; omega))) ?_)
  refine TO.quiet (q_pick0 rfl rfl) (TO.quiet (q_move rfl) ?_)
  refine TO.guarded rfl rfl rfl (LT.of_quiet rfl rfl (q_fieldAddr Try.underlying26 rfl inf24 rfl rfl) ?_)
  refine TO.guarded rfl rfl rfl (LT.of_quiet rfl rfl (q_load_box 0 Try.underlying24 rfl rfl rfl rfl) ?_)
  refine TO.guarded rfl rfl rfl (LT.of_quiet rfl rfl (q_len Try.underlying24 rfl) ?_)
  refine TO.guarded rfl rfl rfl (LT.of_quiet rfl rfl (QT.toB (q_neq rfl rfl) (decide_eq_false (by have := o1.2.2.2.1; omega))) ?_)
  refine TO.quiet (q_pick0 rfl rfl) (TO.quiet (q_move rfl) ?_)
  refine TO.guarded rfl rfl rfl (LT.of_quiet rfl rfl (q_fieldAddr Try.underlying26 rfl inf3 rfl rfl) ?_)
  refine TO.guarded rfl rfl rfl (LT.of_quiet rfl rfl (q_load_box 4 Try.underlying3 rfl rfl rfl rfl) ?_)
  refine TO.guarded rfl rfl rfl (LT.of_quiet rfl rfl (q_fieldAddr Try.underlying26 rfl inf3 rfl rfl) ?_)
  refine TO.guarded rfl rfl rfl (LT.of_quiet rfl rfl (q_load_box 10 Try.underlying3 rfl rfl rfl rfl) ?_)
  refine TO.guarded rfl rfl rfl (LT.of_quiet rfl rfl (QT.toB (q_gtr rfl rfl) (decide_eq_false (by have := o1.2.2.2.2.1; omega))) ?_)
  refine TO.quiet (q_pick0 rfl rfl) (TO.quiet (q_move rfl) ?_)
  refine TO.guarded rfl rfl rfl (LT.of_quiet rfl rfl (q_load_boxAgg 4 Try.underlying26 rfl inf26 rfl rfl rfl) ?_)
  refine TO.guarded rfl rfl rfl (LT.of_quiet rfl rfl (q_load_boxAgg 8 Try.underlying29 rfl inf29 rfl rfl rfl) ?_)
  have hk96 := fun (w1 : World) (hI : Inv w ([oI bx7 26 [(.int .i64 (dgB a).vars), (.int .i64 (dgB a).states), (.slice sy ((dgB a).start.length) syc), (.slice ey ((dgB a).edges.length) eyc), (.slice ty ((dgB a).sets.length) tyc)], rowI sy syc 3 1 (ints (dgB a).start), rowI ey eyc 54 4 (edsC (dgB a).edges), rowI ty tyc 22 1 (vals qy), oI bx6 26 [(.int .i64 (trimB a).vars), (.int .i64 (trimB a).states), (.slice sx ((trimB a).start.length) sxc), (.slice ex ((trimB a).edges.length) exc), (.slice tx ((trimB a).sets.length) txc)], rowI sx sxc 3 1 (ints (trimB a).start), rowI ex exc 54 4 (edsC (trimB a).edges), rowI tx txc 22 1 (vals qx), oI bx3 29 (laCells l pb pc lb lc), oI bx2 26 (buCells b sb sc eb ec tb tc), oI bx1 26 (buCells a sA sAc eA eAc tA tAc)] ++ ((itms 3 qy) ++ (itms 3 qx))) w1) => (by
    have h9 := acceptsL w1 (trimB a) sx ex tx sxc exc txc (vals qx) (show BuAt w1 (trimB a) sx ex tx (vals qx) from ⟨(hI.slOf (List.mem_of_getElem? (i := 5) rfl)), (hI.slOf (List.mem_of_getElem? (i := 6) rfl)), (hI.slOf (List.mem_of_getElem? (i := 7) rfl)), hqx ▸ Inv.recs (E := 3) hI (fun q hq => List.mem_append_right _ (List.mem_append_right _ (List.mem_map.2 ⟨q, hq, rfl⟩)))⟩) (trimB_B hAB) l pb lb pc lc (hI.la h2) hL (by have := edges_trim hna; omega)
    rw [o1.2.2.2.2.2.2] at h9; exact h9)
  refine TO.guarded rfl rfl rfl (l_call ent30 (CallT.of_pure hk96) rfl ?_)
  clear hk96
  rintro vr O' ⟨N, rfl, rfl, rfl⟩
  refine TO.guarded rfl rfl rfl (LT.of_quiet rfl rfl (q_move rfl) ?_)
  refine TO.guarded rfl rfl rfl (LT.of_quiet rfl rfl (QT.toB (q_bneq Try.underlying4 rfl rfl) (bne_self_eq_false _)) ?_)
  refine TO.quiet (q_pick0 rfl rfl) (TO.quiet (q_move rfl) ?_)
  refine TO.guarded rfl rfl rfl (LT.of_quiet rfl rfl (q_load_boxAgg 0 Try.underlying26 rfl inf26 rfl rfl rfl) ?_)
  refine TO.guarded rfl rfl rfl (LT.of_quiet rfl rfl (q_load_boxAgg 8 Try.underlying29 rfl inf29 rfl rfl rfl) ?_)
  have hk103 := fun (w1 : World) (hI : Inv w ([oI bx7 26 [(.int .i64 (dgB a).vars), (.int .i64 (dgB a).states), (.slice sy ((dgB a).start.length) syc), (.slice ey ((dgB a).edges.length) eyc), (.slice ty ((dgB a).sets.length) tyc)], rowI sy syc 3 1 (ints (dgB a).start), rowI ey eyc 54 4 (edsC (dgB a).edges), rowI ty tyc 22 1 (vals qy), oI bx6 26 [(.int .i64 (trimB a).vars), (.int .i64 (trimB a).states), (.slice sx ((trimB a).start.length) sxc), (.slice ex ((trimB a).edges.length) exc), (.slice tx ((trimB a).sets.length) txc)], rowI sx sxc 3 1 (ints (trimB a).start), rowI ex exc 54 4 (edsC (trimB a).edges), rowI tx txc 22 1 (vals qx), oI bx3 29 (laCells l pb pc lb lc), oI bx2 26 (buCells b sb sc eb ec tb tc), oI bx1 26 (buCells a sA sAc eA eAc tA tAc)] ++ ((itms 3 qy) ++ (itms 3 qx))) w1) => (by
    have h9 := acceptsL w1 (dgB a) sy ey ty syc eyc tyc (vals qy) (show BuAt w1 (dgB a) sy ey ty (vals qy) from ⟨(hI.slOf (List.mem_of_getElem? (i := 1) rfl)), (hI.slOf (List.mem_of_getElem? (i := 2) rfl)), (hI.slOf (List.mem_of_getElem? (i := 3) rfl)), hqy ▸ Inv.recs (E := 3) hI (fun q hq => List.mem_append_right _ (List.mem_append_left _ (List.mem_map.2 ⟨q, hq, rfl⟩)))⟩) (dgB_B hAB (by omega)) l pb lb pc lc (hI.la h2) hL (by have := edges_deg hna hAB; omega)
    rw [o1.2.2.2.2.2.1] at h9; exact h9)
  refine TO.guarded rfl rfl rfl (l_call ent30 (CallT.of_pure hk103) rfl ?_)
  clear hk103
  rintro vr O' ⟨N, rfl, rfl, rfl⟩
  refine TO.guarded rfl rfl rfl (LT.of_quiet rfl rfl (q_move rfl) ?_)
  refine TO.guarded rfl rfl rfl (LT.of_quiet rfl rfl (QT.toB (q_bneq Try.underlying4 rfl rfl) (bne_self_eq_false _)) ?_)
  refine TO.quiet (q_pick0 rfl rfl) ?_
  refine TO.nil ?_
  refine T.cond0 rfl ?_
  refine T.skip (T.seq ?_)
  have hux : BuB (unB a b) := unB_B hAB hB (longB_ed hna).1 (longB_ed hnb).1 hea heb (longB_ed hna).2.2.2 (longB_ed hnb).2.2.2
  have hin : BuB (inrB a b) := inrB_B hAB hB hea heb
  refine T.region ?_
  refine TO.quiet (q_load_boxAgg 10 Try.underlying26 rfl inf26 rfl rfl rfl) (TO.quiet (q_load_boxAgg 9 Try.underlying26 rfl inf26 rfl rfl rfl) ?_)
  have hk110 := fun (w1 : World) (hI : Inv w ([oI bx7 26 [(.int .i64 (dgB a).vars), (.int .i64 (dgB a).states), (.slice sy ((dgB a).start.length) syc), (.slice ey ((dgB a).edges.length) eyc), (.slice ty ((dgB a).sets.length) tyc)], rowI sy syc 3 1 (ints (dgB a).start), rowI ey eyc 54 4 (edsC (dgB a).edges), rowI ty tyc 22 1 (vals qy), oI bx6 26 [(.int .i64 (trimB a).vars), (.int .i64 (trimB a).states), (.slice sx ((trimB a).start.length) sxc), (.slice ex ((trimB a).edges.length) exc), (.slice tx ((trimB a).sets.length) txc)], rowI sx sxc 3 1 (ints (trimB a).start), rowI ex exc 54 4 (edsC (trimB a).edges), rowI tx txc 22 1 (vals qx), oI bx3 29 (laCells l pb pc lb lc), oI bx2 26 (buCells b sb sc eb ec tb tc), oI bx1 26 (buCells a sA sAc eA eAc tA tAc)] ++ ((itms 3 qy) ++ (itms 3 qx))) w1) => unionF w1 a sA eA tA sAc eAc tAc vA (hI.bu hA) hAB b sb eb tb sc ec tc vs (hI.bu h) hB (by omega) (by omega)
  refine TO.loud rfl (l_call ent40 (CallT.of_pure hk110) rfl ?_)
  clear hk110
  rintro vr O' ⟨N, rfl, su, eu, tu, suc, euc, tuc, qu, rfl, rfl, hqu⟩
  refine TO.sub (O' := ([rowI su suc 3 1 (ints (unB a b).start), rowI eu euc 54 4 (edsC (unB a b).edges), rowI tu tuc 22 1 (vals qu), oI bx7 26 [(.int .i64 (dgB a).vars), (.int .i64 (dgB a).states), (.slice sy ((dgB a).start.length) syc), (.slice ey ((dgB a).edges.length) eyc), (.slice ty ((dgB a).sets.length) tyc)], rowI sy syc 3 1 (ints (dgB a).start), rowI ey eyc 54 4 (edsC (dgB a).edges), rowI ty tyc 22 1 (vals qy), oI bx6 26 [(.int .i64 (trimB a).vars), (.int .i64 (trimB a).states), (.slice sx ((trimB a).start.length) sxc), (.slice ex ((trimB a).edges.length) exc), (.slice tx ((trimB a).sets.length) txc)], rowI sx sxc 3 1 (ints (trimB a).start), rowI ex exc 54 4 (edsC (trimB a).edges), rowI tx txc 22 1 (vals qx), oI bx3 29 (laCells l pb pc lb lc), oI bx2 26 (buCells b sb sc eb ec tb tc), oI bx1 26 (buCells a sA sAc eA eAc tA tAc)] ++ ((itms 3 qu) ++ ((itms 3 qy) ++ (itms 3 qx))))) (by exact Sub.swap4 [rowI su suc 3 1 (ints (unB a b).start), rowI eu euc 54 4 (edsC (unB a b).edges), rowI tu tuc 22 1 (vals qu)] [oI bx7 26 [(.int .i64 (dgB a).vars), (.int .i64 (dgB a).states), (.slice sy ((dgB a).start.length) syc), (.slice ey ((dgB a).edges.length) eyc), (.slice ty ((dgB a).sets.length) tyc)], rowI sy syc 3 1 (ints (dgB a).start), rowI ey eyc 54 4 (edsC (dgB a).edges), rowI ty tyc 22 1 (vals qy), oI bx6 26 [(.int .i64 (trimB a).vars), (.int .i64 (trimB a).states), (.slice sx ((trimB a).start.length) sxc), (.slice ex ((trimB a).edges.length) exc), (.slice tx ((trimB a).sets.length) txc)], rowI sx sxc 3 1 (ints (trimB a).start), rowI ex exc 54 4 (edsC (trimB a).edges), rowI tx txc 22 1 (vals qx), oI bx3 29 (laCells l pb pc lb lc), oI bx2 26 (buCells b sb sc eb ec tb tc), oI bx1 26 (buCells a sA sAc eA eAc tA tAc)] (itms 3 qu) ((itms 3 qy) ++ (itms 3 qx))) ?_
  refine TO.quiet (q_move rfl) (TO.quiet (q_extract (vs := _) rfl rfl) (TO.quiet (q_extract (vs := _) rfl rfl) ?_))
  refine TO.loud rfl (l_alloc inf26 rfl (fun bx8 => ?_))
  refine TO.loud rfl (l_store_box (v := (.agg #[(.int .i64 (unB a b).vars), (.int .i64 (unB a b).states), (.slice su ((unB a b).start.length) suc), (.slice eu ((unB a b).edges.length) euc), (.slice tu ((unB a b).sets.length) tuc)])) (vs := [(.int .i64 (unB a b).vars), (.int .i64 (unB a b).states), (.slice su ((unB a b).start.length) suc), (.slice eu ((unB a b).edges.length) euc), (.slice tu ((unB a b).sets.length) tuc)]) 0 inf26 rfl rfl rfl rfl rfl rfl (by simp [putL]) ?_)
  refine TO.quiet (q_assign rfl) ?_
  refine TO.nil (T.seq (T.region ?_))
  refine TO.quiet (q_load_boxAgg 14 Try.underlying26 rfl inf26 rfl rfl rfl) (TO.quiet (q_load_boxAgg 13 Try.underlying26 rfl inf26 rfl rfl rfl) ?_)
  have hk116 := fun (w1 : World) (hI : Inv w ([oI bx8 26 [(.int .i64 (unB a b).vars), (.int .i64 (unB a b).states), (.slice su ((unB a b).start.length) suc), (.slice eu ((unB a b).edges.length) euc), (.slice tu ((unB a b).sets.length) tuc)], rowI su suc 3 1 (ints (unB a b).start), rowI eu euc 54 4 (edsC (unB a b).edges), rowI tu tuc 22 1 (vals qu), oI bx7 26 [(.int .i64 (dgB a).vars), (.int .i64 (dgB a).states), (.slice sy ((dgB a).start.length) syc), (.slice ey ((dgB a).edges.length) eyc), (.slice ty ((dgB a).sets.length) tyc)], rowI sy syc 3 1 (ints (dgB a).start), rowI ey eyc 54 4 (edsC (dgB a).edges), rowI ty tyc 22 1 (vals qy), oI bx6 26 [(.int .i64 (trimB a).vars), (.int .i64 (trimB a).states), (.slice sx ((trimB a).start.length) sxc), (.slice ex ((trimB a).edges.length) exc), (.slice tx ((trimB a).sets.length) txc)], rowI sx sxc 3 1 (ints (trimB a).start), rowI ex exc 54 4 (edsC (trimB a).edges), rowI tx txc 22 1 (vals qx), oI bx3 29 (laCells l pb pc lb lc), oI bx2 26 (buCells b sb sc eb ec tb tc), oI bx1 26 (buCells a sA sAc eA eAc tA tAc)] ++ ((itms 3 qu) ++ ((itms 3 qy) ++ (itms 3 qx)))) w1) => intersectF w1 a sA eA tA sAc eAc tAc vA (hI.bu hA) hAB b sb eb tb sc ec tc vs (hI.bu h) hB (by omega) (by omega)
  refine TO.loud rfl (l_call ent42 (CallT.of_pure hk116) rfl ?_)
  clear hk116
  rintro vr O' ⟨N, rfl, sv, ev, tv, svc, evc, tvc, qv, rfl, rfl, hqv⟩
  refine TO.sub (O' := ([rowI sv svc 3 1 (ints (inrB a b).start), rowI ev evc 54 4 (edsC (inrB a b).edges), rowI tv tvc 22 1 (vals qv), oI bx8 26 [(.int .i64 (unB a b).vars), (.int .i64 (unB a b).states), (.slice su ((unB a b).start.length) suc), (.slice eu ((unB a b).edges.length) euc), (.slice tu ((unB a b).sets.length) tuc)], rowI su suc 3 1 (ints (unB a b).start), rowI eu euc 54 4 (edsC (unB a b).edges), rowI tu tuc 22 1 (vals qu), oI bx7 26 [(.int .i64 (dgB a).vars), (.int .i64 (dgB a).states), (.slice sy ((dgB a).start.length) syc), (.slice ey ((dgB a).edges.length) eyc), (.slice ty ((dgB a).sets.length) tyc)], rowI sy syc 3 1 (ints (dgB a).start), rowI ey eyc 54 4 (edsC (dgB a).edges), rowI ty tyc 22 1 (vals qy), oI bx6 26 [(.int .i64 (trimB a).vars), (.int .i64 (trimB a).states), (.slice sx ((trimB a).start.length) sxc), (.slice ex ((trimB a).edges.length) exc), (.slice tx ((trimB a).sets.length) txc)], rowI sx sxc 3 1 (ints (trimB a).start), rowI ex exc 54 4 (edsC (trimB a).edges), rowI tx txc 22 1 (vals qx), oI bx3 29 (laCells l pb pc lb lc), oI bx2 26 (buCells b sb sc eb ec tb tc), oI bx1 26 (buCells a sA sAc eA eAc tA tAc)] ++ ((itms 3 qv) ++ ((itms 3 qu) ++ ((itms 3 qy) ++ (itms 3 qx)))))) (by exact Sub.swap4 [rowI sv svc 3 1 (ints (inrB a b).start), rowI ev evc 54 4 (edsC (inrB a b).edges), rowI tv tvc 22 1 (vals qv)] [oI bx8 26 [(.int .i64 (unB a b).vars), (.int .i64 (unB a b).states), (.slice su ((unB a b).start.length) suc), (.slice eu ((unB a b).edges.length) euc), (.slice tu ((unB a b).sets.length) tuc)], rowI su suc 3 1 (ints (unB a b).start), rowI eu euc 54 4 (edsC (unB a b).edges), rowI tu tuc 22 1 (vals qu), oI bx7 26 [(.int .i64 (dgB a).vars), (.int .i64 (dgB a).states), (.slice sy ((dgB a).start.length) syc), (.slice ey ((dgB a).edges.length) eyc), (.slice ty ((dgB a).sets.length) tyc)], rowI sy syc 3 1 (ints (dgB a).start), rowI ey eyc 54 4 (edsC (dgB a).edges), rowI ty tyc 22 1 (vals qy), oI bx6 26 [(.int .i64 (trimB a).vars), (.int .i64 (trimB a).states), (.slice sx ((trimB a).start.length) sxc), (.slice ex ((trimB a).edges.length) exc), (.slice tx ((trimB a).sets.length) txc)], rowI sx sxc 3 1 (ints (trimB a).start), rowI ex exc 54 4 (edsC (trimB a).edges), rowI tx txc 22 1 (vals qx), oI bx3 29 (laCells l pb pc lb lc), oI bx2 26 (buCells b sb sc eb ec tb tc), oI bx1 26 (buCells a sA sAc eA eAc tA tAc)] (itms 3 qv) ((itms 3 qu) ++ ((itms 3 qy) ++ (itms 3 qx)))) ?_
  refine TO.quiet (q_move rfl) (TO.quiet (q_extract (vs := _) rfl rfl) (TO.quiet (q_extract (vs := _) rfl rfl) ?_))
  refine TO.loud rfl (l_alloc inf26 rfl (fun bx9 => ?_))
  refine TO.loud rfl (l_store_box (v := (.agg #[(.int .i64 (inrB a b).vars), (.int .i64 (inrB a b).states), (.slice sv ((inrB a b).start.length) svc), (.slice ev ((inrB a b).edges.length) evc), (.slice tv ((inrB a b).sets.length) tvc)])) (vs := [(.int .i64 (inrB a b).vars), (.int .i64 (inrB a b).states), (.slice sv ((inrB a b).start.length) svc), (.slice ev ((inrB a b).edges.length) evc), (.slice tv ((inrB a b).sets.length) tvc)]) 0 inf26 rfl rfl rfl rfl rfl rfl (by simp [putL]) ?_)
  refine TO.quiet (q_assign rfl) ?_
  refine TO.nil (T.seq (T.seq (T.region ?_)))
  refine TO.quiet (q_fieldAddr Try.underlying26 rfl inf3 rfl rfl) (TO.quiet (q_load_box 18 Try.underlying3 rfl rfl rfl rfl) (TO.quiet (q_fieldAddr Try.underlying26 rfl inf3 rfl rfl) (TO.quiet (q_load_box 17 Try.underlying3 rfl rfl rfl rfl) ?_)))
  refine TO.quiet (q_neq rfl rfl) ?_
  refine TO.nil ?_
  refine T.condP rfl (fun hc => ?_) (fun hc => ?_)
  · refine T.seq ?_
    have o3 := ops_ne o1.1 o2.1 (by assumption)
    refine T.region ?_
    refine TO.quiet (q_move rfl) (TO.quiet (QT.toB (q_eql rfl rfl) (decide_eq_true (by have := o3.1; omega))) (TO.quiet (q_move rfl) ?_))
    refine TO.guarded rfl rfl rfl (LT.of_quiet rfl rfl (q_move rfl) ?_)
    refine TO.guarded rfl rfl rfl (LT.of_quiet rfl rfl (QT.toB (q_eql rfl rfl) (decide_eq_true (by have := o3.2; omega))) ?_)
    refine TO.quiet (q_pick1 rfl rfl) (TO.quiet (q_assign rfl) ?_)
    refine TO.nil (T.ret (Res.drop ?_))
    refine Res.one (.bool true) Try.results9 rfl ?_
    exact ⟨[], (by exact Sub.z), rfl, rfl⟩
  refine T.skip (T.seq ?_)
  have o3 := ops_two hna hnb e1 e2 (by omega)
  refine T.region ?_
  refine TO.quiet (q_move rfl) (TO.quiet (QT.toB (q_eql rfl rfl) (decide_eq_true (by have := o3.1; omega))) (TO.quiet (q_move rfl) ?_))
  refine TO.guarded rfl rfl rfl (LT.of_quiet rfl rfl (q_fieldAddr Try.underlying26 rfl inf24 rfl rfl) ?_)
  refine TO.guarded rfl rfl rfl (LT.of_quiet rfl rfl (q_load_box 4 Try.underlying24 rfl rfl rfl rfl) ?_)
  refine TO.guarded rfl rfl rfl (LT.of_quiet rfl rfl (q_len Try.underlying24 rfl) ?_)
  refine TO.guarded rfl rfl rfl (LT.of_quiet rfl rfl (QT.toB (q_eql rfl rfl) (decide_eq_true (by have := o3.2.1; omega))) ?_)
  refine TO.quiet (q_pick1 rfl rfl) (TO.quiet (q_move rfl) ?_)
  refine TO.guarded rfl rfl rfl (LT.of_quiet rfl rfl (q_load_boxAgg 4 Try.underlying26 rfl inf26 rfl rfl rfl) ?_)
  refine TO.guarded rfl rfl rfl (LT.of_quiet rfl rfl (q_load_boxAgg 16 Try.underlying29 rfl inf29 rfl rfl rfl) ?_)
  have hk141 := fun (w1 : World) (hI : Inv w ([oI bx9 26 [(.int .i64 (inrB a b).vars), (.int .i64 (inrB a b).states), (.slice sv ((inrB a b).start.length) svc), (.slice ev ((inrB a b).edges.length) evc), (.slice tv ((inrB a b).sets.length) tvc)], rowI sv svc 3 1 (ints (inrB a b).start), rowI ev evc 54 4 (edsC (inrB a b).edges), rowI tv tvc 22 1 (vals qv), oI bx8 26 [(.int .i64 (unB a b).vars), (.int .i64 (unB a b).states), (.slice su ((unB a b).start.length) suc), (.slice eu ((unB a b).edges.length) euc), (.slice tu ((unB a b).sets.length) tuc)], rowI su suc 3 1 (ints (unB a b).start), rowI eu euc 54 4 (edsC (unB a b).edges), rowI tu tuc 22 1 (vals qu), oI bx7 26 [(.int .i64 (dgB a).vars), (.int .i64 (dgB a).states), (.slice sy ((dgB a).start.length) syc), (.slice ey ((dgB a).edges.length) eyc), (.slice ty ((dgB a).sets.length) tyc)], rowI sy syc 3 1 (ints (dgB a).start), rowI ey eyc 54 4 (edsC (dgB a).edges), rowI ty tyc 22 1 (vals qy), oI bx6 26 [(.int .i64 (trimB a).vars), (.int .i64 (trimB a).states), (.slice sx ((trimB a).start.length) sxc), (.slice ex ((trimB a).edges.length) exc), (.slice tx ((trimB a).sets.length) txc)], rowI sx sxc 3 1 (ints (trimB a).start), rowI ex exc 54 4 (edsC (trimB a).edges), rowI tx txc 22 1 (vals qx), oI bx3 29 (laCells l pb pc lb lc), oI bx2 26 (buCells b sb sc eb ec tb tc), oI bx1 26 (buCells a sA sAc eA eAc tA tAc)] ++ ((itms 3 qv) ++ ((itms 3 qu) ++ ((itms 3 qy) ++ (itms 3 qx))))) w1) => (by
    have h9 := acceptsL w1 (unB a b) su eu tu suc euc tuc (vals qu) (show BuAt w1 (unB a b) su eu tu (vals qu) from ⟨(hI.slOf (List.mem_of_getElem? (i := 5) rfl)), (hI.slOf (List.mem_of_getElem? (i := 6) rfl)), (hI.slOf (List.mem_of_getElem? (i := 7) rfl)), hqu ▸ Inv.recs (E := 3) hI (fun q hq => List.mem_append_right _ (List.mem_append_right _ (List.mem_append_left _ (List.mem_map.2 ⟨q, hq, rfl⟩))))⟩) hux l pb lb pc lc (hI.la h2) hL (by have := edges_un hna hnb hAB hB; omega)
    rw [o3.2.2.1] at h9; exact h9)
  refine TO.guarded rfl rfl rfl (l_call ent30 (CallT.of_pure hk141) rfl ?_)
  clear hk141
  rintro vr O' ⟨N, rfl, rfl, rfl⟩
  refine TO.guarded rfl rfl rfl (LT.of_quiet rfl rfl (q_move rfl) ?_)
  by_cases hs143 : (accV a l) = true
  · refine TO.guarded rfl rfl rfl (LT.of_quiet rfl rfl (QT.toB (q_move rfl) (hs143)) ?_)
    refine TO.passed rfl rfl ?_
    refine TO.guarded rfl rfl rfl (LT.of_quiet rfl rfl (q_pick1 rfl rfl) ?_)
    refine TO.guarded rfl rfl rfl (LT.of_quiet rfl rfl (QT.toB (q_beql Try.underlying4 rfl rfl) (show (_ == _) = true by first | (rw [hs143, Bool.true_or]; rfl) | (rw [Bool.eq_false_iff.2 hs143, Bool.false_or]; exact beq_self_eq_true _))) ?_)
    refine TO.quiet (q_pick1 rfl rfl) (TO.quiet (q_move rfl) ?_)
    refine TO.guarded rfl rfl rfl (LT.of_quiet rfl rfl (q_move rfl) ?_)
    refine TO.guarded rfl rfl rfl (LT.of_quiet rfl rfl (q_eql rfl rfl) ?_)
    by_cases hs151 : ((inE a b : Nat) : Int) = 4
    · refine TO.guarded rfl rfl rfl (LT.of_quiet rfl rfl (QT.toB (q_move rfl) (decide_eq_true hs151)) ?_)
      refine TO.passed rfl rfl ?_
      refine TO.passed rfl rfl ?_
      refine TO.passed rfl rfl ?_
      refine TO.passed rfl rfl ?_
      refine TO.passed rfl rfl ?_
      refine TO.passed rfl rfl ?_
      refine TO.passed rfl rfl ?_
      refine TO.passed rfl rfl ?_
      refine TO.passed rfl rfl ?_
      refine TO.passed rfl rfl ?_
      refine TO.passed rfl rfl ?_
      refine TO.passed rfl rfl ?_
      refine TO.guarded rfl rfl rfl (LT.of_quiet rfl rfl (q_pick1 rfl rfl) ?_)
      refine TO.quiet (q_pick1 rfl rfl) (TO.quiet (q_assign rfl) ?_)
      refine TO.nil (T.ret (Res.drop ?_))
      refine Res.one (.bool true) Try.results9 rfl ?_
      exact ⟨[], (by exact Sub.z), rfl, rfl⟩
    refine TO.guarded rfl rfl rfl (LT.of_quiet rfl rfl (QT.toB (q_move rfl) (decide_eq_false hs151)) ?_)
    refine TO.guarded rfl rfl rfl (LT.of_quiet rfl rfl (q_move rfl) ?_)
    refine TO.guarded rfl rfl rfl (LT.of_quiet rfl rfl (QT.toB (q_eql rfl rfl) (decide_eq_true (by have := o3.2.2.2; omega))) ?_)
    refine TO.guarded rfl rfl rfl (LT.of_quiet rfl rfl (q_move rfl) ?_)
    have hv9 : inE a b = 0 ∧ (accV (inrB a b) l && decide (accE (inrB a b) l = 0)) = (accV a l && accV b l) := o3.2.2.2.resolve_left (by omega)
    refine TO.guarded rfl rfl rfl (LT.of_quiet rfl rfl (q_load_boxAgg 0 Try.underlying26 rfl inf26 rfl rfl rfl) ?_)
    refine TO.guarded rfl rfl rfl (LT.of_quiet rfl rfl (q_load_boxAgg 16 Try.underlying29 rfl inf29 rfl rfl rfl) ?_)
    have hk157 := fun (w1 : World) (hI : Inv w ([oI bx9 26 [(.int .i64 (inrB a b).vars), (.int .i64 (inrB a b).states), (.slice sv ((inrB a b).start.length) svc), (.slice ev ((inrB a b).edges.length) evc), (.slice tv ((inrB a b).sets.length) tvc)], rowI sv svc 3 1 (ints (inrB a b).start), rowI ev evc 54 4 (edsC (inrB a b).edges), rowI tv tvc 22 1 (vals qv), oI bx8 26 [(.int .i64 (unB a b).vars), (.int .i64 (unB a b).states), (.slice su ((unB a b).start.length) suc), (.slice eu ((unB a b).edges.length) euc), (.slice tu ((unB a b).sets.length) tuc)], rowI su suc 3 1 (ints (unB a b).start), rowI eu euc 54 4 (edsC (unB a b).edges), rowI tu tuc 22 1 (vals qu), oI bx7 26 [(.int .i64 (dgB a).vars), (.int .i64 (dgB a).states), (.slice sy ((dgB a).start.length) syc), (.slice ey ((dgB a).edges.length) eyc), (.slice ty ((dgB a).sets.length) tyc)], rowI sy syc 3 1 (ints (dgB a).start), rowI ey eyc 54 4 (edsC (dgB a).edges), rowI ty tyc 22 1 (vals qy), oI bx6 26 [(.int .i64 (trimB a).vars), (.int .i64 (trimB a).states), (.slice sx ((trimB a).start.length) sxc), (.slice ex ((trimB a).edges.length) exc), (.slice tx ((trimB a).sets.length) txc)], rowI sx sxc 3 1 (ints (trimB a).start), rowI ex exc 54 4 (edsC (trimB a).edges), rowI tx txc 22 1 (vals qx), oI bx3 29 (laCells l pb pc lb lc), oI bx2 26 (buCells b sb sc eb ec tb tc), oI bx1 26 (buCells a sA sAc eA eAc tA tAc)] ++ ((itms 3 qv) ++ ((itms 3 qu) ++ ((itms 3 qy) ++ (itms 3 qx))))) w1) => (by
      have h9 := acceptsL w1 (inrB a b) sv ev tv svc evc tvc (vals qv) (show BuAt w1 (inrB a b) sv ev tv (vals qv) from ⟨(hI.slOf (List.mem_of_getElem? (i := 1) rfl)), (hI.slOf (List.mem_of_getElem? (i := 2) rfl)), (hI.slOf (List.mem_of_getElem? (i := 3) rfl)), hqv ▸ Inv.recs (E := 3) hI (fun q hq => List.mem_append_right _ (List.mem_append_left _ (List.mem_map.2 ⟨q, hq, rfl⟩)))⟩) hin l pb lb pc lc (hI.la h2) hL (by have := edges_in hna hnb; omega)
      rw [hv9.2] at h9; exact h9)
    refine TO.guarded rfl rfl rfl (l_call ent30 (CallT.of_pure hk157) rfl ?_)
    clear hk157
    rintro vr O' ⟨N, rfl, rfl, rfl⟩
    refine TO.guarded rfl rfl rfl (LT.of_quiet rfl rfl (q_move rfl) ?_)
    by_cases hs159 : (accV a l) = true
    · refine TO.guarded rfl rfl rfl (LT.of_quiet rfl rfl (QT.toB (q_move rfl) (hs159)) ?_)
      refine TO.guarded rfl rfl rfl (LT.of_quiet rfl rfl (q_move rfl) ?_)
      refine TO.guarded rfl rfl rfl (LT.of_quiet rfl rfl (q_pick1 rfl rfl) ?_)
      refine TO.guarded rfl rfl rfl (LT.of_quiet rfl rfl (QT.toB (q_beql Try.underlying4 rfl rfl) (show (_ == _) = true by first | (rw [hs159, Bool.true_and]; exact beq_self_eq_true _) | (rw [Bool.eq_false_iff.2 hs159, Bool.false_and]; rfl))) ?_)
      refine TO.guarded rfl rfl rfl (LT.of_quiet rfl rfl (q_pick1 rfl rfl) ?_)
      refine TO.guarded rfl rfl rfl (LT.of_quiet rfl rfl (q_pick0 rfl rfl) ?_)
      refine TO.quiet (q_pick1 rfl rfl) (TO.quiet (q_assign rfl) ?_)
      refine TO.nil (T.ret (Res.drop ?_))
      refine Res.one (.bool true) Try.results9 rfl ?_
      exact ⟨[], (by exact Sub.z), rfl, rfl⟩
    refine TO.guarded rfl rfl rfl (LT.of_quiet rfl rfl (QT.toB (q_move rfl) (Bool.eq_false_iff.2 hs159)) ?_)
    refine TO.passed rfl rfl ?_
    refine TO.guarded rfl rfl rfl (LT.of_quiet rfl rfl (q_pick0 rfl rfl) ?_)
    refine TO.guarded rfl rfl rfl (LT.of_quiet rfl rfl (QT.toB (q_beql Try.underlying4 rfl rfl) (show (_ == _) = true by first | (rw [hs159, Bool.true_and]; exact beq_self_eq_true _) | (rw [Bool.eq_false_iff.2 hs159, Bool.false_and]; rfl))) ?_)
    refine TO.guarded rfl rfl rfl (LT.of_quiet rfl rfl (q_pick1 rfl rfl) ?_)
    refine TO.guarded rfl rfl rfl (LT.of_quiet rfl rfl (q_pick0 rfl rfl) ?_)
    refine TO.quiet (q_pick1 rfl rfl) (TO.quiet (q_assign rfl) ?_)
    refine TO.nil (T.ret (Res.drop ?_))
    refine Res.one (.bool true) Try.results9 rfl ?_
    exact ⟨[], (by exact Sub.z), rfl, rfl⟩
  refine TO.guarded rfl rfl rfl (LT.of_quiet rfl rfl (QT.toB (q_move rfl) (Bool.eq_false_iff.2 hs143)) ?_)
  refine TO.guarded rfl rfl rfl (LT.of_quiet rfl rfl (q_move rfl) ?_)
  refine TO.guarded rfl rfl rfl (LT.of_quiet rfl rfl (q_pick0 rfl rfl) ?_)
  refine TO.guarded rfl rfl rfl (LT.of_quiet rfl rfl (QT.toB (q_beql Try.underlying4 rfl rfl) (show (_ == _) = true by first | (rw [hs143, Bool.true_or]; rfl) | (rw [Bool.eq_false_iff.2 hs143, Bool.false_or]; exact beq_self_eq_true _))) ?_)
  refine TO.quiet (q_pick1 rfl rfl) (TO.quiet (q_move rfl) ?_)
  refine TO.guarded rfl rfl rfl (LT.of_quiet rfl rfl (q_move rfl) ?_)
  refine TO.guarded rfl rfl rfl (LT.of_quiet rfl rfl (q_eql rfl rfl) ?_)
  by_cases hs151 : ((inE a b : Nat) : Int) = 4
  · refine TO.guarded rfl rfl rfl (LT.of_quiet rfl rfl (QT.toB (q_move rfl) (decide_eq_true hs151)) ?_)
    refine TO.passed rfl rfl ?_
    refine TO.passed rfl rfl ?_
    refine TO.passed rfl rfl ?_
    refine TO.passed rfl rfl ?_
    refine TO.passed rfl rfl ?_
    refine TO.passed rfl rfl ?_
    refine TO.passed rfl rfl ?_
    refine TO.passed rfl rfl ?_
    refine TO.passed rfl rfl ?_
    refine TO.passed rfl rfl ?_
    refine TO.passed rfl rfl ?_
    refine TO.passed rfl rfl ?_
    refine TO.guarded rfl rfl rfl (LT.of_quiet rfl rfl (q_pick1 rfl rfl) ?_)
    refine TO.quiet (q_pick1 rfl rfl) (TO.quiet (q_assign rfl) ?_)
    refine TO.nil (T.ret (Res.drop ?_))
    refine Res.one (.bool true) Try.results9 rfl ?_
    exact ⟨[], (by exact Sub.z), rfl, rfl⟩
  refine TO.guarded rfl rfl rfl (LT.of_quiet rfl rfl (QT.toB (q_move rfl) (decide_eq_false hs151)) ?_)
  refine TO.guarded rfl rfl rfl (LT.of_quiet rfl rfl (q_move rfl) ?_)
  refine TO.guarded rfl rfl rfl (LT.of_quiet rfl rfl (QT.toB (q_eql rfl rfl) (decide_eq_true (by have := o3.2.2.2; omega))) ?_)
  refine TO.guarded rfl rfl rfl (LT.of_quiet rfl rfl (q_move rfl) ?_)
  have hv9 : inE a b = 0 ∧ (accV (inrB a b) l && decide (accE (inrB a b) l = 0)) = (accV a l && accV b l) := o3.2.2.2.resolve_left (by omega)
  refine TO.guarded rfl rfl rfl (LT.of_quiet rfl rfl (q_load_boxAgg 0 Try.underlying26 rfl inf26 rfl rfl rfl) ?_)
  refine TO.guarded rfl rfl rfl (LT.of_quiet rfl rfl (q_load_boxAgg 16 Try.underlying29 rfl inf29 rfl rfl rfl) ?_)
  have hk157 := fun (w1 : World) (hI : Inv w ([oI bx9 26 [(.int .i64 (inrB a b).vars), (.int .i64 (inrB a b).states), (.slice sv ((inrB a b).start.length) svc), (.slice ev ((inrB a b).edges.length) evc), (.slice tv ((inrB a b).sets.length) tvc)], rowI sv svc 3 1 (ints (inrB a b).start), rowI ev evc 54 4 (edsC (inrB a b).edges), rowI tv tvc 22 1 (vals qv), oI bx8 26 [(.int .i64 (unB a b).vars), (.int .i64 (unB a b).states), (.slice su ((unB a b).start.length) suc), (.slice eu ((unB a b).edges.length) euc), (.slice tu ((unB a b).sets.length) tuc)], rowI su suc 3 1 (ints (unB a b).start), rowI eu euc 54 4 (edsC (unB a b).edges), rowI tu tuc 22 1 (vals qu), oI bx7 26 [(.int .i64 (dgB a).vars), (.int .i64 (dgB a).states), (.slice sy ((dgB a).start.length) syc), (.slice ey ((dgB a).edges.length) eyc), (.slice ty ((dgB a).sets.length) tyc)], rowI sy syc 3 1 (ints (dgB a).start), rowI ey eyc 54 4 (edsC (dgB a).edges), rowI ty tyc 22 1 (vals qy), oI bx6 26 [(.int .i64 (trimB a).vars), (.int .i64 (trimB a).states), (.slice sx ((trimB a).start.length) sxc), (.slice ex ((trimB a).edges.length) exc), (.slice tx ((trimB a).sets.length) txc)], rowI sx sxc 3 1 (ints (trimB a).start), rowI ex exc 54 4 (edsC (trimB a).edges), rowI tx txc 22 1 (vals qx), oI bx3 29 (laCells l pb pc lb lc), oI bx2 26 (buCells b sb sc eb ec tb tc), oI bx1 26 (buCells a sA sAc eA eAc tA tAc)] ++ ((itms 3 qv) ++ ((itms 3 qu) ++ ((itms 3 qy) ++ (itms 3 qx))))) w1) => (by
    have h9 := acceptsL w1 (inrB a b) sv ev tv svc evc tvc (vals qv) (show BuAt w1 (inrB a b) sv ev tv (vals qv) from ⟨(hI.slOf (List.mem_of_getElem? (i := 1) rfl)), (hI.slOf (List.mem_of_getElem? (i := 2) rfl)), (hI.slOf (List.mem_of_getElem? (i := 3) rfl)), hqv ▸ Inv.recs (E := 3) hI (fun q hq => List.mem_append_right _ (List.mem_append_left _ (List.mem_map.2 ⟨q, hq, rfl⟩)))⟩) hin l pb lb pc lc (hI.la h2) hL (by have := edges_in hna hnb; omega)
    rw [hv9.2] at h9; exact h9)
  refine TO.guarded rfl rfl rfl (l_call ent30 (CallT.of_pure hk157) rfl ?_)
  clear hk157
  rintro vr O' ⟨N, rfl, rfl, rfl⟩
  refine TO.guarded rfl rfl rfl (LT.of_quiet rfl rfl (q_move rfl) ?_)
  by_cases hs159 : (accV a l) = true
  · refine TO.guarded rfl rfl rfl (LT.of_quiet rfl rfl (QT.toB (q_move rfl) (hs159)) ?_)
    refine TO.guarded rfl rfl rfl (LT.of_quiet rfl rfl (q_move rfl) ?_)
    refine TO.guarded rfl rfl rfl (LT.of_quiet rfl rfl (q_pick1 rfl rfl) ?_)
    refine TO.guarded rfl rfl rfl (LT.of_quiet rfl rfl (QT.toB (q_beql Try.underlying4 rfl rfl) (show (_ == _) = true by first | (rw [hs159, Bool.true_and]; exact beq_self_eq_true _) | (rw [Bool.eq_false_iff.2 hs159, Bool.false_and]; rfl))) ?_)
    refine TO.guarded rfl rfl rfl (LT.of_quiet rfl rfl (q_pick1 rfl rfl) ?_)
    refine TO.guarded rfl rfl rfl (LT.of_quiet rfl rfl (q_pick0 rfl rfl) ?_)
    refine TO.quiet (q_pick1 rfl rfl) (TO.quiet (q_assign rfl) ?_)
    refine TO.nil (T.ret (Res.drop ?_))
    refine Res.one (.bool true) Try.results9 rfl ?_
    exact ⟨[], (by exact Sub.z), rfl, rfl⟩
  refine TO.guarded rfl rfl rfl (LT.of_quiet rfl rfl (QT.toB (q_move rfl) (Bool.eq_false_iff.2 hs159)) ?_)
  refine TO.passed rfl rfl ?_
  refine TO.guarded rfl rfl rfl (LT.of_quiet rfl rfl (q_pick0 rfl rfl) ?_)
  refine TO.guarded rfl rfl rfl (LT.of_quiet rfl rfl (QT.toB (q_beql Try.underlying4 rfl rfl) (show (_ == _) = true by first | (rw [hs159, Bool.true_and]; exact beq_self_eq_true _) | (rw [Bool.eq_false_iff.2 hs159, Bool.false_and]; rfl))) ?_)
  refine TO.guarded rfl rfl rfl (LT.of_quiet rfl rfl (q_pick1 rfl rfl) ?_)
  refine TO.guarded rfl rfl rfl (LT.of_quiet rfl rfl (q_pick0 rfl rfl) ?_)
  refine TO.quiet (q_pick1 rfl rfl) (TO.quiet (q_assign rfl) ?_)
  refine TO.nil (T.ret (Res.drop ?_))
  refine Res.one (.bool true) Try.results9 rfl ?_
  exact ⟨[], (by exact Sub.z), rfl, rfl⟩
end Go.Proofs.Ytnamoapbienooaa

