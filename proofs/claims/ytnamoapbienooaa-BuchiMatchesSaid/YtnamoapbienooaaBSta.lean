/- Contracts of functions of the program (BAcc, AwB, BAlw, BAwk, BRch, God, BGod, Prd, BRef, BSta): what each call answers and that it leaves memory as it was. Conditions: those each theorem names. -/
import Derived.Test.YtnamoapbienooaaBPth
import Derived.Test.YtnamoapbienooaaBTrm
import Derived.Test.YtnamoapbienooaaBLw0
set_option linter.unusedSectionVars false
set_option linter.unusedSimpArgs false
set_option linter.unusedVariables false
set_option linter.unnecessarySimpa false
namespace Go.Proofs.Ytnamoapbienooaa
open Go.Lx Go.RowKit
set_option linter.unusedVariables false
set_option linter.unusedSimpArgs false
set_option maxHeartbeats 1000000 in
set_option maxRecDepth 20000 in
theorem startLive (base : World) (b1 b2 : Nat) (lb : Option Addr) (lc L : Nat) (ls : List Bool) (s : Int) (h0 : 0 ≤ s) (hs : s.toNat * L < ls.length) (hb : ls.length ≤ 1000000) :
    CallT Try.prog base 57 [.int .i64 s, .pointer (some ⟨b1, 0, none⟩), .pointer (some ⟨b2, 0, none⟩)] [oI b1 39 [(.slice lb ls.length lc)], oI b2 3 [(.int .i64 ((L : Nat) : Int))], rowI lb lc 4 1 (bools ls)] (fun v O' => v = .bool (ls.getD (s.toNat * L) false) ∧ O' = [oI b1 39 [(.slice lb ls.length lc)], oI b2 3 [(.int .i64 ((L : Nat) : Int))], rowI lb lc 4 1 (bools ls)]) := by
  refine CallT.enter Try.func57 rfl Try.ntmps57 rfl ?_
  refine T.seq (T.region ?_)
  refine TO.quiet (q_assign rfl) ?_
  refine TO.nil (T.seq (T.region ?_))
  refine TO.quiet (q_load_box 0 Try.underlying39 rfl rfl rfl rfl) (TO.quiet (QT.cast (q_move rfl) (v' := .int .i64 ((s.toNat : Nat) : Int)) (by show Value.int _ s = _; rw [Int.toNat_of_nonneg h0])) (TO.quiet (q_load_box 1 Try.underlying3 rfl rfl rfl rfl) (TO.quiet (q_mulN (a := s.toNat) (b := L) rfl rfl (by omega)) ?_)))
  refine TO.quiet (q_ix (i := (s.toNat * L)) Try.underlying39 inf4 rfl rfl (rowO (List.mem_of_getElem? (i := 2) rfl))) (TO.quiet (q_ld Try.underlying4 rfl rfl (rowO (List.mem_of_getElem? (i := 2) rfl)) bools_get) (TO.quiet (q_assign rfl) ?_))
  refine TO.nil (T.ret ?_)
  refine Res.one (.bool ls[s.toNat * L]) Try.results57 rfl ?_
  exact ⟨by rw [gb hs], rfl⟩
set_option maxHeartbeats 4000000 in
set_option maxRecDepth 20000 in
theorem acceptsF (w : World) (b : Bu) (sb eb tb : Option Addr) (sc ec tc : Nat) (vs : List Value) (h : BuAt w b sb eb tb vs) (hB : BuB b) (l : La) (pb lb : Option Addr) (pc lc : Nat) (h2 : LaAt w l pb lb pc lc) (hL : LaB l) (hE : b.edges.length ≤ 5000) :
    PureT Try.prog 17 [.agg (buCells b sb sc eb ec tb tc).toArray, .agg (laCells l pb pc lb lc).toArray] w fun v N => v = .tuple #[.bool (accV b l), .int .i64 (accE b l : Int)] ∧ N = [] := by
  refine CallT.enter Try.func17 rfl Try.ntmps17 rfl ?_
  have hst := hB.st; have hed := hB.ed; have hse := hB.se; have hpl := hL.pre; have hll0 := hL.loop
  refine T.seq (T.region ?_)
  refine TO.loud rfl (l_box (v := (.agg (buCells b sb sc eb ec tb tc).toArray)) (cs := (buCells b sb sc eb ec tb tc)) rfl rfl (fun bx1 => ?_))
  refine TO.loud rfl (l_box (v := (.agg (laCells l pb pc lb lc).toArray)) (cs := (laCells l pb pc lb lc)) rfl rfl (fun bx2 => ?_))
  refine TO.quiet (q_assign rfl) (TO.quiet (q_assign rfl) ?_)
  refine TO.nil (T.seq (T.seq (T.region ?_)))
  refine TO.quiet (q_load_boxAgg 1 Try.underlying26 rfl inf26 rfl rfl rfl) ?_
  have hk19 := fun (w1 : World) (hI : Inv w [oI bx2 29 (laCells l pb pc lb lc), oI bx1 26 (buCells b sb sc eb ec tb tc)] w1) => checkF w1 b sb eb tb sc ec tc vs (hI.bu h) hB
  refine TO.loud rfl (l_call ent21 (CallT.of_pure hk19) rfl ?_)
  clear hk19
  rintro vr O' ⟨N, rfl, rfl, rfl⟩
  refine TO.quiet (q_assign rfl) ?_
  refine TO.nil (T.seq (T.region ?_))
  refine TO.quiet (q_move rfl) (TO.quiet (q_neq rfl rfl) ?_)
  refine TO.nil ?_
  refine T.condP rfl (fun hc => ?_) (fun hc => ?_)
  · have hlt21 : checkB b ≠ 0 := by omega
    refine T.seq (T.region ?_)
    refine TO.quiet (q_move rfl) (TO.quiet (q_assign rfl) (TO.quiet (q_assign rfl) ?_))
    refine TO.nil (T.ret (Res.drop ?_))
    refine Res.two (.bool false) (.int .i64 (checkB b : Int)) Try.results17 rfl rfl ?_
    exact ⟨[], Sub.of (List.nil_sublist _), by unfold accV accE; rw [if_neg (by omega), if_neg (by omega)], rfl⟩
  have hge21 : ¬ checkB b ≠ 0 := by omega
  refine T.skip (T.seq (T.seq (T.region ?_)))
  refine TO.quiet (q_load_boxAgg 0 Try.underlying29 rfl inf29 rfl rfl rfl) (TO.quiet (q_fieldAddr Try.underlying26 rfl inf3 rfl rfl) (TO.quiet (q_load_box 1 Try.underlying3 rfl rfl rfl rfl) ?_))
  have hk26 := fun (w1 : World) (hI : Inv w [oI bx2 29 (laCells l pb pc lb lc), oI bx1 26 (buCells b sb sc eb ec tb tc)] w1) => lassoCheckF w1 l pb lb pc lc (hI.la h2) hL b.vars
  refine TO.loud rfl (l_call ent51 (CallT.of_pure hk26) rfl ?_)
  clear hk26
  rintro vr O' ⟨N, rfl, rfl, rfl⟩
  refine TO.quiet (q_assign rfl) ?_
  refine TO.nil (T.seq (T.region ?_))
  refine TO.quiet (q_move rfl) (TO.quiet (q_neq rfl rfl) ?_)
  refine TO.nil ?_
  refine T.condP rfl (fun hc => ?_) (fun hc => ?_)
  · have hlt28 : checkLV b.vars l ≠ 0 := by omega
    refine T.seq (T.region ?_)
    refine TO.quiet (q_move rfl) (TO.quiet (q_assign rfl) (TO.quiet (q_assign rfl) ?_))
    refine TO.nil (T.ret (Res.drop ?_))
    refine Res.two (.bool false) (.int .i64 (checkLV b.vars l : Int)) Try.results17 rfl rfl ?_
    exact ⟨[], Sub.of (List.nil_sublist _), by unfold accV accE; rw [if_neg (by omega), if_pos (by omega)], rfl⟩
  have hge28 : ¬ checkLV b.vars l ≠ 0 := by omega
  refine T.skip (T.seq ?_)
  have he0 : checkB b = 0 := by omega
  have hel0 : checkLV b.vars l = 0 := by omega
  have hv : ValidB b := checkB_zero.1 he0
  have hv0 := hv.n0; have hv4 := hv.n4; have hm8 := hv.m8
  obtain ⟨hl0, hp64, hl64, _, _, hpv, hlv0⟩ := checkL_loop hel0
  obtain ⟨n, hn⟩ : ∃ n : Nat, b.states = (n : Int) := ⟨b.states.toNat, by omega⟩
  have hnn : b.states.toNat = n := by omega
  have hln : l.n = l.pre.length + l.loop.length := rfl
  have hL0 : 0 < l.n := by omega
  have hSL : n * l.n ≤ 524288 := Nat.mul_le_mul (show n ≤ 4096 by omega) (show l.n ≤ 128 by omega)
  have hSL2 : n * l.n ≤ 9223372036854775807 := by omega
  refine T.region ?_
  refine TO.quiet (q_fieldAddr Try.underlying29 rfl inf27 rfl rfl) (TO.quiet (q_load_box 0 Try.underlying27 rfl rfl rfl rfl) (TO.quiet (q_len Try.underlying27 rfl) (TO.quiet (q_fieldAddr Try.underlying29 rfl inf27 rfl rfl) ?_)))
  refine TO.quiet (q_load_box 0 Try.underlying27 rfl rfl rfl rfl) (TO.quiet (q_len Try.underlying27 rfl) (TO.quiet (q_addN (a := l.pre.length) (b := l.loop.length) rfl rfl (by omega)) ?_))
  refine TO.loud rfl (l_alloc inf3 rfl (fun bx3 => ?_))
  refine TO.loud rfl (l_store_box (v := .int .i64 ((l.n : Nat) : Int)) (vs := [(.int .i64 ((l.n : Nat) : Int))]) 0 inf3 rfl rfl rfl rfl rfl rfl (by simp [putL]) ?_)
  refine TO.nil ?_
  refine T.cut (fun ρ O => ∃ (zN zM zG : Nat), O = [oI zG 79 [(.slice (some ⟨zN, 0, none⟩) (n * l.n) (n * l.n)), (.slice (some ⟨zM, 0, none⟩) (n * l.n) (n * l.n)), .int .u64 ((2 ^ b.sets.length - 1 : Nat) : Int)], rowI (some ⟨zN, 0, none⟩) (n * l.n) 22 1 (List.replicate (n * l.n) (.slice none 0 0)), rowI (some ⟨zM, 0, none⟩) (n * l.n) 52 1 (List.replicate (n * l.n) (.int .u64 0)), oI bx3 3 [(.int .i64 ((l.n : Nat) : Int))], oI bx2 29 (laCells l pb pc lb lc), oI bx1 26 (buCells b sb sc eb ec tb tc)] ∧ Heads [(0, (.agg (buCells b sb sc eb ec tb tc).toArray)), (1, (.agg (laCells l pb pc lb lc).toArray)), (2, (.pointer (some ⟨bx1, 0, none⟩))), (3, (.pointer (some ⟨bx2, 0, none⟩))), (4, .bool false), (5, .int .i64 0), (6, .int .i64 (checkB b : Int)), (7, .int .i64 (checkLV b.vars l : Int)), (8, (.pointer (some ⟨bx3, 0, none⟩))), (9, (.pointer (some ⟨zG, 0, none⟩)))] ρ) ?_ ?_
  · refine T.tree [oI bx3 3 [(.int .i64 ((l.n : Nat) : Int))], oI bx1 26 (buCells b sb sc eb ec tb tc)] 18 mixed rfl (Sub.pick [0, 1] rfl) (fun _ _ _ h => h) ?_
    refine RO.quietT 0 rfl (by kernel_rfl) (q_fieldAddr Try.underlying26 rfl inf3 rfl rfl) ?_
    refine RO.quietT 1 rfl (by kernel_rfl) (QT.cast (q_load_box 1 Try.underlying3 rfl rfl rfl rfl) (v' := .int .i64 ((n : Nat) : Int)) (by show Value.int _ b.states = _; rw [hn])) ?_
    refine RO.quietT 2 rfl (by kernel_rfl) (q_load_box 0 Try.underlying3 rfl rfl rfl rfl) ?_
    refine RO.quietT 3 rfl (by kernel_rfl) (q_mulN (a := n) (b := l.n) rfl rfl hSL2) ?_
    refine RO.quietT 5 rfl (by kernel_rfl) (q_fieldAddr Try.underlying26 rfl inf3 rfl rfl) ?_
    refine RO.quietT 6 rfl (by kernel_rfl) (QT.cast (q_load_box 1 Try.underlying3 rfl rfl rfl rfl) (v' := .int .i64 ((n : Nat) : Int)) (by show Value.int _ b.states = _; rw [hn])) ?_
    refine RO.quietT 7 rfl (by kernel_rfl) (q_load_box 0 Try.underlying3 rfl rfl rfl rfl) ?_
    refine RO.quietT 8 rfl (by kernel_rfl) (q_mulN (a := n) (b := l.n) rfl rfl hSL2) ?_
    refine RO.quietT 10 rfl (by kernel_rfl) (q_fieldAddr Try.underlying26 rfl inf24 rfl rfl) ?_
    refine RO.quietT 11 rfl (by kernel_rfl) (q_load_box 1 Try.underlying24 rfl rfl rfl rfl) ?_
    refine RO.quietT 12 rfl (by kernel_rfl) (q_len Try.underlying24 rfl) ?_
    refine RO.quietT 13 rfl (by kernel_rfl) (QT.cast (q_shlU (a := 1) (b := b.sets.length) .u64 rfl rfl (by show _ ≤ 64; omega) (by show _ < 2 ^ 64; rw [Nat.one_mul]; exact Nat.pow_lt_pow_right (by omega) (by omega))) (v' := .int .u64 ((2 ^ b.sets.length : Nat) : Int)) (by rw [Nat.one_mul])) ?_
    refine RO.quietT 14 rfl (by kernel_rfl) (q_subU (a := (2 ^ b.sets.length)) (b := 1) .u64 rfl rfl (by show _ < 2 ^ 64; exact Nat.pow_lt_pow_right (by omega) (by omega)) Nat.one_le_two_pow) ?_
    refine RO.fork [4, 9, 16] (by kernel_rfl) rfl ⟨⟨_, rfl, rfl, l_makeSlice (m := n * l.n) Try.underlying24 inf22 rfl rfl (by omega) (by omega) (fun zN => ⟨Sub.pick [1, 2] rfl, ?_⟩)⟩, ⟨_, rfl, rfl, l_makeSlice (m := n * l.n) Try.underlying77 inf52 rfl rfl (by omega) (by omega) (fun zM => ⟨Sub.pick [1, 2] rfl, ?_⟩)⟩, ⟨_, rfl, rfl, l_alloc inf79 rfl (fun zG => ⟨Sub.pick [1, 2] rfl, ?_⟩)⟩, trivial⟩
    · refine RO.fork [9, 16] (by kernel_rfl) rfl ⟨⟨_, rfl, rfl, l_makeSlice (m := n * l.n) Try.underlying77 inf52 rfl rfl (by omega) (by omega) (fun zM => ⟨Sub.pick [2, 3] rfl, ?_⟩)⟩, ⟨_, rfl, rfl, l_alloc inf79 rfl (fun zG => ⟨Sub.pick [2, 3] rfl, ?_⟩)⟩, trivial⟩
      · refine RO.quietT 15 rfl (by kernel_rfl) (q_build (cs := [(.slice (some ⟨zN, 0, none⟩) (n * l.n) (n * l.n)), (.slice (some ⟨zM, 0, none⟩) (n * l.n) (n * l.n)), .int .u64 ((2 ^ b.sets.length - 1 : Nat) : Int)]) plan79 inf79 (by kernel_rfl)) ?_
        refine RO.fork [16] (by kernel_rfl) rfl ⟨⟨_, rfl, rfl, l_alloc inf79 rfl (fun zG => ⟨Sub.pick [3, 4] rfl, ?_⟩)⟩, trivial⟩
        refine RO.fork [17] (by kernel_rfl) rfl ⟨⟨_, rfl, rfl, l_store_box (v := (.agg #[(.slice (some ⟨zN, 0, none⟩) (n * l.n) (n * l.n)), (.slice (some ⟨zM, 0, none⟩) (n * l.n) (n * l.n)), .int .u64 ((2 ^ b.sets.length - 1 : Nat) : Int)])) (vs := [(.slice (some ⟨zN, 0, none⟩) (n * l.n) (n * l.n)), (.slice (some ⟨zM, 0, none⟩) (n * l.n) (n * l.n)), .int .u64 ((2 ^ b.sets.length - 1 : Nat) : Int)]) 0 inf79 rfl rfl rfl rfl rfl rfl (by simp [putL]) ⟨Sub.pick [3, 4] rfl, ?_⟩⟩, trivial⟩
        exact RO.fin (by kernel_rfl) ⟨zN, zM, zG, rfl, ⟨rfl, rfl, rfl, rfl, rfl, rfl, rfl, rfl, rfl, rfl, trivial⟩⟩ (Sub.pick [0, 1, 0, 0, 0, 0] rfl)
      refine RO.fork [9] (by kernel_rfl) rfl ⟨⟨_, rfl, rfl, l_makeSlice (m := n * l.n) Try.underlying77 inf52 rfl rfl (by omega) (by omega) (fun zM => ⟨Sub.pick [3, 4] rfl, ?_⟩)⟩, trivial⟩
      refine RO.quietT 15 rfl (by kernel_rfl) (q_build (cs := [(.slice (some ⟨zN, 0, none⟩) (n * l.n) (n * l.n)), (.slice (some ⟨zM, 0, none⟩) (n * l.n) (n * l.n)), .int .u64 ((2 ^ b.sets.length - 1 : Nat) : Int)]) plan79 inf79 (by kernel_rfl)) ?_
      refine RO.fork [17] (by kernel_rfl) rfl ⟨⟨_, rfl, rfl, l_store_box (v := (.agg #[(.slice (some ⟨zN, 0, none⟩) (n * l.n) (n * l.n)), (.slice (some ⟨zM, 0, none⟩) (n * l.n) (n * l.n)), .int .u64 ((2 ^ b.sets.length - 1 : Nat) : Int)])) (vs := [(.slice (some ⟨zN, 0, none⟩) (n * l.n) (n * l.n)), (.slice (some ⟨zM, 0, none⟩) (n * l.n) (n * l.n)), .int .u64 ((2 ^ b.sets.length - 1 : Nat) : Int)]) 1 inf79 rfl rfl rfl rfl rfl rfl (by simp [putL]) ⟨Sub.pick [3, 4] rfl, ?_⟩⟩, trivial⟩
      exact RO.fin (by kernel_rfl) ⟨zN, zM, zG, rfl, ⟨rfl, rfl, rfl, rfl, rfl, rfl, rfl, rfl, rfl, rfl, trivial⟩⟩ (Sub.pick [1, 1, 0, 0, 0, 0] rfl)
    · refine RO.fork [4, 16] (by kernel_rfl) rfl ⟨⟨_, rfl, rfl, l_makeSlice (m := n * l.n) Try.underlying24 inf22 rfl rfl (by omega) (by omega) (fun zN => ⟨Sub.pick [2, 3] rfl, ?_⟩)⟩, ⟨_, rfl, rfl, l_alloc inf79 rfl (fun zG => ⟨Sub.pick [2, 3] rfl, ?_⟩)⟩, trivial⟩
      · refine RO.quietT 15 rfl (by kernel_rfl) (q_build (cs := [(.slice (some ⟨zN, 0, none⟩) (n * l.n) (n * l.n)), (.slice (some ⟨zM, 0, none⟩) (n * l.n) (n * l.n)), .int .u64 ((2 ^ b.sets.length - 1 : Nat) : Int)]) plan79 inf79 (by kernel_rfl)) ?_
        refine RO.fork [16] (by kernel_rfl) rfl ⟨⟨_, rfl, rfl, l_alloc inf79 rfl (fun zG => ⟨Sub.pick [3, 4] rfl, ?_⟩)⟩, trivial⟩
        refine RO.fork [17] (by kernel_rfl) rfl ⟨⟨_, rfl, rfl, l_store_box (v := (.agg #[(.slice (some ⟨zN, 0, none⟩) (n * l.n) (n * l.n)), (.slice (some ⟨zM, 0, none⟩) (n * l.n) (n * l.n)), .int .u64 ((2 ^ b.sets.length - 1 : Nat) : Int)])) (vs := [(.slice (some ⟨zN, 0, none⟩) (n * l.n) (n * l.n)), (.slice (some ⟨zM, 0, none⟩) (n * l.n) (n * l.n)), .int .u64 ((2 ^ b.sets.length - 1 : Nat) : Int)]) 0 inf79 rfl rfl rfl rfl rfl rfl (by simp [putL]) ⟨Sub.pick [3, 4] rfl, ?_⟩⟩, trivial⟩
        exact RO.fin (by kernel_rfl) ⟨zN, zM, zG, rfl, ⟨rfl, rfl, rfl, rfl, rfl, rfl, rfl, rfl, rfl, rfl, trivial⟩⟩ (Sub.pick [0, 0, 0, 0, 0, 0] rfl)
      refine RO.fork [4] (by kernel_rfl) rfl ⟨⟨_, rfl, rfl, l_makeSlice (m := n * l.n) Try.underlying24 inf22 rfl rfl (by omega) (by omega) (fun zN => ⟨Sub.pick [3, 4] rfl, ?_⟩)⟩, trivial⟩
      refine RO.quietT 15 rfl (by kernel_rfl) (q_build (cs := [(.slice (some ⟨zN, 0, none⟩) (n * l.n) (n * l.n)), (.slice (some ⟨zM, 0, none⟩) (n * l.n) (n * l.n)), .int .u64 ((2 ^ b.sets.length - 1 : Nat) : Int)]) plan79 inf79 (by kernel_rfl)) ?_
      refine RO.fork [17] (by kernel_rfl) rfl ⟨⟨_, rfl, rfl, l_store_box (v := (.agg #[(.slice (some ⟨zN, 0, none⟩) (n * l.n) (n * l.n)), (.slice (some ⟨zM, 0, none⟩) (n * l.n) (n * l.n)), .int .u64 ((2 ^ b.sets.length - 1 : Nat) : Int)])) (vs := [(.slice (some ⟨zN, 0, none⟩) (n * l.n) (n * l.n)), (.slice (some ⟨zM, 0, none⟩) (n * l.n) (n * l.n)), .int .u64 ((2 ^ b.sets.length - 1 : Nat) : Int)]) 1 inf79 rfl rfl rfl rfl rfl rfl (by simp [putL]) ⟨Sub.pick [3, 4] rfl, ?_⟩⟩, trivial⟩
      exact RO.fin (by kernel_rfl) ⟨zN, zM, zG, rfl, ⟨rfl, rfl, rfl, rfl, rfl, rfl, rfl, rfl, rfl, rfl, trivial⟩⟩ (Sub.pick [1, 0, 0, 0, 0, 0] rfl)
    refine RO.fork [4, 9] (by kernel_rfl) rfl ⟨⟨_, rfl, rfl, l_makeSlice (m := n * l.n) Try.underlying24 inf22 rfl rfl (by omega) (by omega) (fun zN => ⟨Sub.pick [2, 3] rfl, ?_⟩)⟩, ⟨_, rfl, rfl, l_makeSlice (m := n * l.n) Try.underlying77 inf52 rfl rfl (by omega) (by omega) (fun zM => ⟨Sub.pick [2, 3] rfl, ?_⟩)⟩, trivial⟩
    · refine RO.fork [9] (by kernel_rfl) rfl ⟨⟨_, rfl, rfl, l_makeSlice (m := n * l.n) Try.underlying77 inf52 rfl rfl (by omega) (by omega) (fun zM => ⟨Sub.pick [3, 4] rfl, ?_⟩)⟩, trivial⟩
      refine RO.quietT 15 rfl (by kernel_rfl) (q_build (cs := [(.slice (some ⟨zN, 0, none⟩) (n * l.n) (n * l.n)), (.slice (some ⟨zM, 0, none⟩) (n * l.n) (n * l.n)), .int .u64 ((2 ^ b.sets.length - 1 : Nat) : Int)]) plan79 inf79 (by kernel_rfl)) ?_
      refine RO.fork [17] (by kernel_rfl) rfl ⟨⟨_, rfl, rfl, l_store_box (v := (.agg #[(.slice (some ⟨zN, 0, none⟩) (n * l.n) (n * l.n)), (.slice (some ⟨zM, 0, none⟩) (n * l.n) (n * l.n)), .int .u64 ((2 ^ b.sets.length - 1 : Nat) : Int)])) (vs := [(.slice (some ⟨zN, 0, none⟩) (n * l.n) (n * l.n)), (.slice (some ⟨zM, 0, none⟩) (n * l.n) (n * l.n)), .int .u64 ((2 ^ b.sets.length - 1 : Nat) : Int)]) 2 inf79 rfl rfl rfl rfl rfl rfl (by simp [putL]) ⟨Sub.pick [3, 4] rfl, ?_⟩⟩, trivial⟩
      exact RO.fin (by kernel_rfl) ⟨zN, zM, zG, rfl, ⟨rfl, rfl, rfl, rfl, rfl, rfl, rfl, rfl, rfl, rfl, trivial⟩⟩ (Sub.pick [2, 1, 0, 0, 0, 0] rfl)
    refine RO.fork [4] (by kernel_rfl) rfl ⟨⟨_, rfl, rfl, l_makeSlice (m := n * l.n) Try.underlying24 inf22 rfl rfl (by omega) (by omega) (fun zN => ⟨Sub.pick [3, 4] rfl, ?_⟩)⟩, trivial⟩
    refine RO.quietT 15 rfl (by kernel_rfl) (q_build (cs := [(.slice (some ⟨zN, 0, none⟩) (n * l.n) (n * l.n)), (.slice (some ⟨zM, 0, none⟩) (n * l.n) (n * l.n)), .int .u64 ((2 ^ b.sets.length - 1 : Nat) : Int)]) plan79 inf79 (by kernel_rfl)) ?_
    refine RO.fork [17] (by kernel_rfl) rfl ⟨⟨_, rfl, rfl, l_store_box (v := (.agg #[(.slice (some ⟨zN, 0, none⟩) (n * l.n) (n * l.n)), (.slice (some ⟨zM, 0, none⟩) (n * l.n) (n * l.n)), .int .u64 ((2 ^ b.sets.length - 1 : Nat) : Int)])) (vs := [(.slice (some ⟨zN, 0, none⟩) (n * l.n) (n * l.n)), (.slice (some ⟨zM, 0, none⟩) (n * l.n) (n * l.n)), .int .u64 ((2 ^ b.sets.length - 1 : Nat) : Int)]) 2 inf79 rfl rfl rfl rfl rfl rfl (by simp [putL]) ⟨Sub.pick [3, 4] rfl, ?_⟩⟩, trivial⟩
    exact RO.fin (by kernel_rfl) ⟨zN, zM, zG, rfl, ⟨rfl, rfl, rfl, rfl, rfl, rfl, rfl, rfl, rfl, rfl, trivial⟩⟩ (Sub.pick [2, 0, 0, 0, 0, 0] rfl)
  rintro ρ O ⟨zN, zM, zG, rfl, hH⟩
  obtain ⟨ρ0, rfl⟩ := hH.elim
  clear hH
  refine T.seq (T.seq (T.region ?_))
  refine TO.quiet (q_load_boxAgg 5 Try.underlying26 rfl inf26 rfl rfl rfl) ?_
  have hk54 := fun (w1 : World) (hI : Inv w [oI zG 79 [(.slice (some ⟨zN, 0, none⟩) (n * l.n) (n * l.n)), (.slice (some ⟨zM, 0, none⟩) (n * l.n) (n * l.n)), .int .u64 ((2 ^ b.sets.length - 1 : Nat) : Int)], rowI (some ⟨zN, 0, none⟩) (n * l.n) 22 1 (List.replicate (n * l.n) (.slice none 0 0)), rowI (some ⟨zM, 0, none⟩) (n * l.n) 52 1 (List.replicate (n * l.n) (.int .u64 0)), oI bx3 3 [(.int .i64 ((l.n : Nat) : Int))], oI bx2 29 (laCells l pb pc lb lc), oI bx1 26 (buCells b sb sc eb ec tb tc)] w1) => marksF w1 b sb eb tb sc ec tc vs (hI.bu h) hB hm8
  refine TO.loud rfl (l_call ent52 (CallT.of_pure hk54) rfl ?_)
  clear hk54
  rintro vr O' ⟨N, rfl, mm, m9, rfl, rfl, hmp, hin⟩
  refine TO.loud rfl (l_rangeMap 0 Try.underlying80 rfl rfl (fun it4 => ?_))
  refine TO.nil (T.block ?_)
  refine T.loop (fun (left : List (Int × Nat)) ρ O => ∃ (cur : Option (Int × Nat)) (ms : List Nat), O = [iterI KI VU mm it4 m9 left cur, oI zG 79 [(.slice (some ⟨zN, 0, none⟩) (n * l.n) (n * l.n)), (.slice (some ⟨zM, 0, none⟩) (n * l.n) (n * l.n)), .int .u64 ((2 ^ b.sets.length - 1 : Nat) : Int)], rowI (some ⟨zN, 0, none⟩) (n * l.n) 22 1 (List.replicate (n * l.n) (.slice none 0 0)), rowI (some ⟨zM, 0, none⟩) (n * l.n) 52 1 (uns ms), oI bx3 3 [(.int .i64 ((l.n : Nat) : Int))], oI bx2 29 (laCells l pb pc lb lc), oI bx1 26 (buCells b sb sc eb ec tb tc)] ∧ (∀ q ∈ left, q ∈ m9) ∧ (left.map Prod.fst).Nodup ∧ ms.length = n * l.n ∧ (∀ v, v < n * l.n → ms.getD v 0 = if ((v / l.n : Nat) : Int) ∈ left.map Prod.fst then 0 else mkN b.sets ((v / l.n : Nat) : Int)) ∧ Heads [(0, (.agg (buCells b sb sc eb ec tb tc).toArray)), (1, (.agg (laCells l pb pc lb lc).toArray)), (2, (.pointer (some ⟨bx1, 0, none⟩))), (3, (.pointer (some ⟨bx2, 0, none⟩))), (4, .bool false), (5, .int .i64 0), (6, .int .i64 (checkB b : Int)), (7, .int .i64 (checkLV b.vars l : Int)), (8, (.pointer (some ⟨bx3, 0, none⟩))), (9, (.pointer (some ⟨zG, 0, none⟩))), (55, (.pointer (some ⟨it4, 0, none⟩)))] ρ) (fun left => left.length) m9 ?_ ?_
  · refine ⟨none, List.replicate (n * l.n) 0, (by first | (simp only [List.map_replicate]; done) | (simp only [List.map_replicate]; rfl)), fun q hq => hq, hmp.nd, by simp, fun s hs => ?_, ⟨rfl, rfl, rfl, rfl, rfl, rfl, rfl, rfl, rfl, rfl, rfl, trivial⟩⟩
    rw [show (List.replicate (n * l.n) 0).getD s 0 = 0 by simp [hs]]
    split
    · rfl
    · rename_i hs2; exact (hmp.out hs2).symm
  rintro left ρ O ⟨cur, ms, rfl, hsub, hnd, hml, hms, hH⟩
  obtain ⟨ρ0, rfl⟩ := hH.elim
  clear hH
  refine T.seq (T.region ?_)
  refine TO.loud rfl (l_nextMap (K := KI) (V := VU) 0 rfl rfl (fun hleft => ?_) (fun lA le lB hleft => ?_))
  · refine TO.quiet (q_extract (vs := _) rfl rfl) ?_
    refine TO.nil (T.seq ?_)
    refine T.cond0 rfl ?_
    refine T.exit ?_
    refine T.seq (T.seq (T.region ?_))
    refine TO.quiet (q_load_box 4 Try.underlying3 rfl rfl rfl rfl) (TO.quiet (q_move rfl) ?_)
    refine TO.nil (T.block ?_)
    subst hleft
    refine T.sub (O' := [oI zG 79 [(.slice (some ⟨zN, 0, none⟩) (n * l.n) (n * l.n)), (.slice (some ⟨zM, 0, none⟩) (n * l.n) (n * l.n)), .int .u64 ((2 ^ b.sets.length - 1 : Nat) : Int)], rowI (some ⟨zN, 0, none⟩) (n * l.n) 22 1 (List.replicate (n * l.n) (.slice none 0 0)), rowI (some ⟨zM, 0, none⟩) (n * l.n) 52 1 (uns ms), oI bx3 3 [(.int .i64 ((l.n : Nat) : Int))], oI bx2 29 (laCells l pb pc lb lc), oI bx1 26 (buCells b sb sc eb ec tb tc)]) (Sub.pick [1, 1, 1, 1, 1, 1] rfl) ?_
    refine T.nilRows 3 (n * l.n) ?_
    refine T.loopS (fun (i : Nat) ρ O => ∃ (qs : List Rec), O = ([oI zG 79 [(.slice (some ⟨zN, 0, none⟩) (n * l.n) (n * l.n)), (.slice (some ⟨zM, 0, none⟩) (n * l.n) (n * l.n)), .int .u64 ((2 ^ b.sets.length - 1 : Nat) : Int)], rowI (some ⟨zN, 0, none⟩) (n * l.n) 22 1 (vals qs), rowI (some ⟨zM, 0, none⟩) (n * l.n) 52 1 (uns ms), oI bx3 3 [(.int .i64 ((l.n : Nat) : Int))], oI bx2 29 (laCells l pb pc lb lc), oI bx1 26 (buCells b sb sc eb ec tb tc)] ++ (itms 3 qs)) ∧ i ≤ l.n ∧ RowsP (n * l.n) (prodR b.edges l i 0) (5000 * i) (nums qs) ∧ Heads [(0, (.agg (buCells b sb sc eb ec tb tc).toArray)), (1, (.agg (laCells l pb pc lb lc).toArray)), (2, (.pointer (some ⟨bx1, 0, none⟩))), (3, (.pointer (some ⟨bx2, 0, none⟩))), (4, .bool false), (5, .int .i64 0), (6, .int .i64 (checkB b : Int)), (7, .int .i64 (checkLV b.vars l : Int)), (8, (.pointer (some ⟨bx3, 0, none⟩))), (9, (.pointer (some ⟨zG, 0, none⟩))), (75, (.int .i64 ((l.n : Nat) : Int))), (76, .int .i64 (i : Int))] ρ) (fun i => l.n - i) 0 ?_ ?_
    · exact ⟨List.replicate (n * l.n) nilRec, (by simp only [List.map_replicate]; rfl), Nat.zero_le _, RowsP.start (fun u y _ => by rintro (⟨j, hj, _⟩ | ⟨e, he, _⟩); omega; simp at he) _, ⟨rfl, rfl, rfl, rfl, rfl, rfl, rfl, rfl, rfl, rfl, rfl, rfl, trivial⟩⟩
    rintro i ρ O ⟨qs, rfl, hi, hrw, hH⟩
    obtain ⟨ρ0, rfl⟩ := hH.elim
    clear hH
    refine T.seq (T.region ?_)
    refine TO.quiet (q_lss rfl rfl) ?_
    refine TO.nil (T.seq ?_)
    refine T.condP rfl (fun hc => ?_) (fun hc => ?_)
    · have hlt77 : i < l.n := by omega
      refine T.skip (T.seq (T.block (T.seq ?_)))
      have hat : l.at i < 256 := La.at_lt hl0 hL.p8 hL.l8 i
      refine T.region ?_
      refine TO.quiet (q_move rfl) ?_
      refine TO.loud rfl (l_alloc inf3 rfl (fun bx5 => ?_))
      refine TO.loud rfl (l_store_box (v := .int .i64 (i : Int)) (vs := [(.int .i64 (i : Int))]) 0 inf3 rfl rfl rfl rfl rfl rfl (by simp [putL]) ?_)
      refine TO.nil (T.seq ?_)
      refine T.draws _ [(0, 0), (1, 0), (2, 0), (3, 1), (4, 2)] mixed (by kernel_rfl) (Sub.of (List.Sublist.refl _)) (fun _ _ _ h => h) ?_
      refine DO.quiet rfl (q_load_boxAgg 6 Try.underlying26 rfl inf26 rfl rfl rfl) (DO.quiet rfl (q_load_boxAgg 5 Try.underlying29 rfl inf29 rfl rfl rfl) (DO.quiet rfl (q_load_box 0 Try.underlying3 rfl rfl rfl rfl) ?_))
      have hk82 := fun (w1 : World) (hI : Inv w ([oI bx5 3 [(.int .i64 (i : Int))], oI zG 79 [(.slice (some ⟨zN, 0, none⟩) (n * l.n) (n * l.n)), (.slice (some ⟨zM, 0, none⟩) (n * l.n) (n * l.n)), .int .u64 ((2 ^ b.sets.length - 1 : Nat) : Int)], rowI (some ⟨zN, 0, none⟩) (n * l.n) 22 1 (vals qs), rowI (some ⟨zM, 0, none⟩) (n * l.n) 52 1 (uns ms), oI bx3 3 [(.int .i64 ((l.n : Nat) : Int))], oI bx2 29 (laCells l pb pc lb lc), oI bx1 26 (buCells b sb sc eb ec tb tc)] ++ (itms 3 qs)) w1) => atF w1 l pb lb pc lc (hI.la h2) hL hl0 i (by omega)
      refine DO.loud rfl rfl (l_call ent34 (CallT.of_pure hk82) rfl ?_)
      clear hk82
      rintro vr O' ⟨N, rfl, rfl, rfl⟩
      refine ⟨Sub.pickR [0, 0, 0, 0, 0, 0, 0] [oI bx5 3 [(.int .i64 (i : Int))], oI zG 79 [(.slice (some ⟨zN, 0, none⟩) (n * l.n) (n * l.n)), (.slice (some ⟨zM, 0, none⟩) (n * l.n) (n * l.n)), .int .u64 ((2 ^ b.sets.length - 1 : Nat) : Int)], rowI (some ⟨zN, 0, none⟩) (n * l.n) 22 1 (vals qs), rowI (some ⟨zM, 0, none⟩) (n * l.n) 52 1 (uns ms), oI bx3 3 [(.int .i64 ((l.n : Nat) : Int))], oI bx2 29 (laCells l pb pc lb lc), oI bx1 26 (buCells b sb sc eb ec tb tc)] (itms 3 qs) rfl rfl, ?_⟩
      have hk83 := fun (w1 : World) (hI : Inv w ([oI bx5 3 [(.int .i64 (i : Int))], oI zG 79 [(.slice (some ⟨zN, 0, none⟩) (n * l.n) (n * l.n)), (.slice (some ⟨zM, 0, none⟩) (n * l.n) (n * l.n)), .int .u64 ((2 ^ b.sets.length - 1 : Nat) : Int)], rowI (some ⟨zN, 0, none⟩) (n * l.n) 22 1 (vals qs), rowI (some ⟨zM, 0, none⟩) (n * l.n) 52 1 (uns ms), oI bx3 3 [(.int .i64 ((l.n : Nat) : Int))], oI bx2 29 (laCells l pb pc lb lc), oI bx1 26 (buCells b sb sc eb ec tb tc)] ++ (itms 3 qs)) w1) => matchingF w1 b sb eb tb sc ec tc vs (hI.bu h) hB (l.at i)
      refine DO.last rfl rfl (l_call ent53 (CallT.of_pure hk83) rfl ?_)
      clear hk83
      rintro vr O' ⟨N, rfl, bB, cB, rfl, rfl⟩
      refine DO.done ?_
      refine T.block ?_
      refine T.rangeFunc (first := []) (caps := [(.pointer (some ⟨bB, 0, none⟩)), (.pointer (some ⟨cB, 0, none⟩))]) rfl ent99 (fun yl yq yhq => ?_)
      refine CallT.mono (CallT.sub (O' := oI bB 26 (buCells b sb sc eb ec tb tc) :: oI cB 5 [(.int .u8 (l.at i : Int))] :: (objI yl (lp yq none) :: ([oI bx5 3 [(.int .i64 (i : Int))], oI zG 79 [(.slice (some ⟨zN, 0, none⟩) (n * l.n) (n * l.n)), (.slice (some ⟨zM, 0, none⟩) (n * l.n) (n * l.n)), .int .u64 ((2 ^ b.sets.length - 1 : Nat) : Int)], rowI (some ⟨zN, 0, none⟩) (n * l.n) 22 1 (vals qs), rowI (some ⟨zM, 0, none⟩) (n * l.n) 52 1 (uns ms), oI bx3 3 [(.int .i64 ((l.n : Nat) : Int))], oI bx2 29 (laCells l pb pc lb lc), oI bx1 26 (buCells b sb sc eb ec tb tc)] ++ (itms 3 qs)))) (Sub.pickR [1, 1, 0, 0, 0, 0, 0, 0, 0, 0] [objI yl (lp yq none), oI bB 26 (buCells b sb sc eb ec tb tc), oI cB 5 [(.int .u8 (l.at i : Int))], oI bx5 3 [(.int .i64 (i : Int))], oI zG 79 [(.slice (some ⟨zN, 0, none⟩) (n * l.n) (n * l.n)), (.slice (some ⟨zM, 0, none⟩) (n * l.n) (n * l.n)), .int .u64 ((2 ^ b.sets.length - 1 : Nat) : Int)], rowI (some ⟨zN, 0, none⟩) (n * l.n) 22 1 (vals qs), rowI (some ⟨zM, 0, none⟩) (n * l.n) 52 1 (uns ms), oI bx3 3 [(.int .i64 ((l.n : Nat) : Int))], oI bx2 29 (laCells l pb pc lb lc), oI bx1 26 (buCells b sb sc eb ec tb tc)] (itms 3 qs) rfl rfl) (match1 w b sb eb tb sc ec tc vs h hB bB cB (l.at i) hat (.func (.yield yl) #[] #[]) (fun k O => ∃ (qs2 : List Rec), O = objI yl (lp yq none) :: ([oI bx5 3 [(.int .i64 (i : Int))], oI zG 79 [(.slice (some ⟨zN, 0, none⟩) (n * l.n) (n * l.n)), (.slice (some ⟨zM, 0, none⟩) (n * l.n) (n * l.n)), .int .u64 ((2 ^ b.sets.length - 1 : Nat) : Int)], rowI (some ⟨zN, 0, none⟩) (n * l.n) 22 1 (vals qs2), rowI (some ⟨zM, 0, none⟩) (n * l.n) 52 1 (uns ms), oI bx3 3 [(.int .i64 ((l.n : Nat) : Int))], oI bx2 29 (laCells l pb pc lb lc), oI bx1 26 (buCells b sb sc eb ec tb tc)] ++ (itms 3 qs2)) ∧ RowsP (n * l.n) (prodR b.edges l i k) (5000 * i + k) (nums qs2)) (fun _ => False) (fun k hk hm O ⟨qs2, e, h9⟩ => ⟨qs2, e, (h9.same (fun u y _ => by rw [prodR_hit hk]; exact ⟨fun q => q.elim id (fun p => absurd p.1 hm), .inl⟩)).more (by omega)⟩) ?_ _ ?_)) ?_
      · intro k hk O hmt hJ
        obtain ⟨qs2, rfl, hrw2⟩ := hJ
        refine CallV.yield yhq rfl rfl ?_
        obtain ⟨u, hu, hun⟩ : ∃ u : Nat, b.edges[k].fr = (u : Int) ∧ u < n := by
          have := (hv.ed _ (List.getElem_mem hk)).1
          exact ⟨b.edges[k].fr.toNat, by omega, by omega⟩
        obtain ⟨t, ht, htn⟩ : ∃ t : Nat, b.edges[k].to = (t : Int) ∧ t < n := by
          have := (hv.ed _ (List.getElem_mem hk)).2
          exact ⟨b.edges[k].to.toNat, by omega, by omega⟩
        have hq2l := hrw2.ql
        have huL : u * l.n + l.n ≤ n * l.n := by have := Nat.mul_le_mul_right l.n (show u + 1 ≤ n by omega); rwa [Nat.succ_mul] at this
        have htL : t * l.n + l.n ≤ n * l.n := by have := Nat.mul_le_mul_right l.n (show t + 1 ≤ n by omega); rwa [Nat.succ_mul] at this
        have hqu : u * l.n + i < qs2.length := by omega
        have hrq := hrw2.rl hqu
        have hix := La.ix_lt hl0 (i + 1)
        refine T.region ?_
        refine TO.loud rfl (l_alloc inf54 rfl (fun bx6 => ?_))
        refine TO.loud rfl (l_store_box (v := (.agg #[.int .i64 b.edges[k].fr, .int .i64 b.edges[k].to, .int .u8 ((b.edges[k].pos : Nat) : Int), .int .u8 ((b.edges[k].neg : Nat) : Int)])) (vs := [.int .i64 b.edges[k].fr, .int .i64 b.edges[k].to, .int .u8 ((b.edges[k].pos : Nat) : Int), .int .u8 ((b.edges[k].neg : Nat) : Int)]) 0 inf54 rfl rfl rfl rfl rfl rfl (by simp [putL]) ?_)
        refine TO.nil (T.block (T.seq (T.region ?_)))
        refine TO.quiet (q_fieldAddr Try.underlying54 rfl inf3 rfl rfl) (TO.quiet (QT.cast (q_load_box 0 Try.underlying3 rfl rfl rfl rfl) (v' := .int .i64 ((u : Nat) : Int)) (by show Value.int _ _ = _; rw [hu])) (TO.quiet (q_load_box 5 Try.underlying3 rfl rfl rfl rfl) (TO.quiet (q_mulN (a := u) (b := l.n) rfl rfl (by omega)) ?_)))
        refine TO.quiet (q_load_box 1 Try.underlying3 rfl rfl rfl rfl) (TO.quiet (q_addN (a := (u * l.n)) (b := i) rfl rfl (by omega)) (TO.quiet (q_assign rfl) ?_))
        refine TO.nil ?_
        refine T.sub (sub_out hqu [oI bx6 54 [.int .i64 b.edges[k].fr, .int .i64 b.edges[k].to, .int .u8 ((b.edges[k].pos : Nat) : Int), .int .u8 ((b.edges[k].neg : Nat) : Int)], oI bx5 3 [(.int .i64 (i : Int))], oI zG 79 [(.slice (some ⟨zN, 0, none⟩) (n * l.n) (n * l.n)), (.slice (some ⟨zM, 0, none⟩) (n * l.n) (n * l.n)), .int .u64 ((2 ^ b.sets.length - 1 : Nat) : Int)], rowI (some ⟨zN, 0, none⟩) (n * l.n) 22 1 (vals qs2), rowI (some ⟨zM, 0, none⟩) (n * l.n) 52 1 (uns ms), oI bx3 3 [(.int .i64 ((l.n : Nat) : Int))], oI bx2 29 (laCells l pb pc lb lc), oI bx1 26 (buCells b sb sc eb ec tb tc)]) ?_
        refine T.draws [oI bx6 54 [.int .i64 b.edges[k].fr, .int .i64 b.edges[k].to, .int .u8 ((b.edges[k].pos : Nat) : Int), .int .u8 ((b.edges[k].neg : Nat) : Int)], oI bx5 3 [(.int .i64 (i : Int))], oI zG 79 [(.slice (some ⟨zN, 0, none⟩) (n * l.n) (n * l.n)), (.slice (some ⟨zM, 0, none⟩) (n * l.n) (n * l.n)), .int .u64 ((2 ^ b.sets.length - 1 : Nat) : Int)], rowI (some ⟨zN, 0, none⟩) (n * l.n) 22 1 (vals qs2), rowI (some ⟨zM, 0, none⟩) (n * l.n) 52 1 (uns ms), oI bx3 3 [(.int .i64 ((l.n : Nat) : Int))], oI bx2 29 (laCells l pb pc lb lc), oI bx1 26 (buCells b sb sc eb ec tb tc)] [(0, 0), (1, 0), (2, 0), (3, 0), (4, 0), (5, 0), (6, 0), (7, 0), (8, 0), (9, 0), (10, 0), (11, 0), (12, 0), (13, 0), (14, 0), (15, 1), (16, 0), (17, 1), (18, 1), (19, 0), (20, 2)] mixed (by kernel_rfl) (Sub.pick0 [1, 1, 1, 1, 1, 1, 1, 1] [rowI (qs2[u * l.n + i].b) (qs2[u * l.n + i].c) 3 1 (ints qs2[u * l.n + i].xs), oI bx6 54 [.int .i64 b.edges[k].fr, .int .i64 b.edges[k].to, .int .u8 ((b.edges[k].pos : Nat) : Int), .int .u8 ((b.edges[k].neg : Nat) : Int)], oI bx5 3 [(.int .i64 (i : Int))], oI zG 79 [(.slice (some ⟨zN, 0, none⟩) (n * l.n) (n * l.n)), (.slice (some ⟨zM, 0, none⟩) (n * l.n) (n * l.n)), .int .u64 ((2 ^ b.sets.length - 1 : Nat) : Int)], rowI (some ⟨zN, 0, none⟩) (n * l.n) 22 1 (vals qs2), rowI (some ⟨zM, 0, none⟩) (n * l.n) 52 1 (uns ms), oI bx3 3 [(.int .i64 ((l.n : Nat) : Int))], oI bx2 29 (laCells l pb pc lb lc), oI bx1 26 (buCells b sb sc eb ec tb tc)] (itms 3 (qs2.eraseIdx (u * l.n + i))) rfl rfl) (fun _ _ _ h => h) ?_
        refine DO.quiet rfl (q_fieldAddr Try.underlying79 rfl inf24 rfl rfl) (DO.quiet rfl (q_load_box 2 Try.underlying24 rfl rfl rfl rfl) (DO.quiet rfl (q_move rfl) (DO.quiet rfl (q_fieldAddr Try.underlying79 rfl inf24 rfl rfl) ?_)))
        refine DO.quiet rfl (q_load_box 2 Try.underlying24 rfl rfl rfl rfl) (DO.quiet rfl (q_move rfl) (DO.quiet rfl (q_ix (i := ((u * l.n) + i)) Try.underlying24 inf22 rfl rfl (rowO (List.mem_of_getElem? (i := 3) rfl))) (DO.quiet rfl (q_ld Try.underlying22 rfl rfl (rowO (List.mem_of_getElem? (i := 3) rfl)) (vals_at hqu)) ?_)))
        refine DO.quiet rfl (q_fieldAddr Try.underlying54 rfl inf3 rfl rfl) (DO.quiet rfl (QT.cast (q_load_box 0 Try.underlying3 rfl rfl rfl rfl) (v' := .int .i64 ((t : Nat) : Int)) (by show Value.int _ _ = _; rw [ht])) (DO.quiet rfl (q_load_box 5 Try.underlying3 rfl rfl rfl rfl) (DO.quiet rfl (q_mulN (a := t) (b := l.n) rfl rfl (by omega)) ?_)))
        refine DO.quiet rfl (q_load_boxAgg 6 Try.underlying29 rfl inf29 rfl rfl rfl) (DO.quiet rfl (q_load_box 1 Try.underlying3 rfl rfl rfl rfl) (DO.quiet rfl (q_addN (a := i) (b := 1) rfl rfl (by omega)) ?_))
        have hk106 := fun (w1 : World) (hI : Inv w ([rowI (qs2[u * l.n + i].b) (qs2[u * l.n + i].c) 3 1 (ints qs2[u * l.n + i].xs), oI bx6 54 [.int .i64 b.edges[k].fr, .int .i64 b.edges[k].to, .int .u8 ((b.edges[k].pos : Nat) : Int), .int .u8 ((b.edges[k].neg : Nat) : Int)], oI bx5 3 [(.int .i64 (i : Int))], oI zG 79 [(.slice (some ⟨zN, 0, none⟩) (n * l.n) (n * l.n)), (.slice (some ⟨zM, 0, none⟩) (n * l.n) (n * l.n)), .int .u64 ((2 ^ b.sets.length - 1 : Nat) : Int)], rowI (some ⟨zN, 0, none⟩) (n * l.n) 22 1 (vals qs2), rowI (some ⟨zM, 0, none⟩) (n * l.n) 52 1 (uns ms), oI bx3 3 [(.int .i64 ((l.n : Nat) : Int))], oI bx2 29 (laCells l pb pc lb lc), oI bx1 26 (buCells b sb sc eb ec tb tc)] ++ (itms 3 (qs2.eraseIdx (u * l.n + i)))) w1) => indexF w1 l pb lb pc lc (hI.la h2) hL (i + 1) (by omega)
        refine DO.loud rfl rfl (l_call ent54 (CallT.of_pure hk106) rfl ?_)
        clear hk106
        rintro vr O' ⟨N, rfl, rfl, rfl⟩
        refine ⟨Sub.pick0 [1, 1, 1, 1, 1, 1, 1, 1] [rowI (qs2[u * l.n + i].b) (qs2[u * l.n + i].c) 3 1 (ints qs2[u * l.n + i].xs), oI bx6 54 [.int .i64 b.edges[k].fr, .int .i64 b.edges[k].to, .int .u8 ((b.edges[k].pos : Nat) : Int), .int .u8 ((b.edges[k].neg : Nat) : Int)], oI bx5 3 [(.int .i64 (i : Int))], oI zG 79 [(.slice (some ⟨zN, 0, none⟩) (n * l.n) (n * l.n)), (.slice (some ⟨zM, 0, none⟩) (n * l.n) (n * l.n)), .int .u64 ((2 ^ b.sets.length - 1 : Nat) : Int)], rowI (some ⟨zN, 0, none⟩) (n * l.n) 22 1 (vals qs2), rowI (some ⟨zM, 0, none⟩) (n * l.n) 52 1 (uns ms), oI bx3 3 [(.int .i64 ((l.n : Nat) : Int))], oI bx2 29 (laCells l pb pc lb lc), oI bx1 26 (buCells b sb sc eb ec tb tc)] (itms 3 (qs2.eraseIdx (u * l.n + i))) rfl rfl, ?_⟩
        refine DO.quiet rfl (q_addN (a := (t * l.n)) (b := (l.ix (i + 1))) rfl rfl (by omega)) ?_
        refine DO.loud rfl rfl (l_build1 (v := .int .i64 (((t * l.n) + (l.ix (i + 1)) : Nat) : Int)) Try.underlying22 inf3 rfl rfl rfl (fun bx7 => ⟨Sub.pick0 [2, 2, 2, 2, 2, 2, 2, 2] [rowI (some ⟨bx7, 0, none⟩) 1 3 1 [.int .i64 (((t * l.n) + (l.ix (i + 1)) : Nat) : Int)], rowI (qs2[u * l.n + i].b) (qs2[u * l.n + i].c) 3 1 (ints qs2[u * l.n + i].xs), oI bx6 54 [.int .i64 b.edges[k].fr, .int .i64 b.edges[k].to, .int .u8 ((b.edges[k].pos : Nat) : Int), .int .u8 ((b.edges[k].neg : Nat) : Int)], oI bx5 3 [(.int .i64 (i : Int))], oI zG 79 [(.slice (some ⟨zN, 0, none⟩) (n * l.n) (n * l.n)), (.slice (some ⟨zM, 0, none⟩) (n * l.n) (n * l.n)), .int .u64 ((2 ^ b.sets.length - 1 : Nat) : Int)], rowI (some ⟨zN, 0, none⟩) (n * l.n) 22 1 (vals qs2), rowI (some ⟨zM, 0, none⟩) (n * l.n) 52 1 (uns ms), oI bx3 3 [(.int .i64 ((l.n : Nat) : Int))], oI bx2 29 (laCells l pb pc lb lc), oI bx1 26 (buCells b sb sc eb ec tb tc)] (itms 3 (qs2.eraseIdx (u * l.n + i))) rfl rfl, ?_⟩))
        refine DO.loud rfl rfl (l_append 1 Try.underlying22 Try.underlying22 inf3 rfl rfl rfl rfl (by simp) (by decide) (Src.row (j := 0) rfl (by simp)) (by simp [oneB]) (by omega) (by decide) (by decide) (fun bx8 c9 => ⟨Sub.pick0 [2, 2, 2, 2, 2, 2, 2, 2] [rowI (some ⟨bx7, 0, none⟩) 1 3 1 [.int .i64 (((t * l.n) + (l.ix (i + 1)) : Nat) : Int)], rowI bx8 c9 3 1 ((ints qs2[u * l.n + i].xs) ++ [.int .i64 (((t * l.n) + (l.ix (i + 1)) : Nat) : Int)]), oI bx6 54 [.int .i64 b.edges[k].fr, .int .i64 b.edges[k].to, .int .u8 ((b.edges[k].pos : Nat) : Int), .int .u8 ((b.edges[k].neg : Nat) : Int)], oI bx5 3 [(.int .i64 (i : Int))], oI zG 79 [(.slice (some ⟨zN, 0, none⟩) (n * l.n) (n * l.n)), (.slice (some ⟨zM, 0, none⟩) (n * l.n) (n * l.n)), .int .u64 ((2 ^ b.sets.length - 1 : Nat) : Int)], rowI (some ⟨zN, 0, none⟩) (n * l.n) 22 1 (vals qs2), rowI (some ⟨zM, 0, none⟩) (n * l.n) 52 1 (uns ms), oI bx3 3 [(.int .i64 ((l.n : Nat) : Int))], oI bx2 29 (laCells l pb pc lb lc), oI bx1 26 (buCells b sb sc eb ec tb tc)] (itms 3 (qs2.eraseIdx (u * l.n + i))) rfl rfl, ?_⟩))
        refine DO.quiet rfl (q_ix (i := ((u * l.n) + i)) Try.underlying24 inf22 rfl rfl (rowO (List.mem_of_getElem? (i := 3) rfl))) ?_
        refine DO.last rfl rfl (l_st (j := ((u * l.n) + i)) (v := (.slice bx8 ((qs2[u * l.n + i].xs.length) + 1) c9)) (vs := [(.slice bx8 ((qs2[u * l.n + i].xs.length) + 1) c9)]) (cs := vals qs2) 5 inf22 rfl rfl rfl rfl rfl (by simp) rfl (by first | (simp; omega) | (simp_all; omega)) ?_)
        refine DO.sub (O' := ([rowI (some ⟨bx7, 0, none⟩) 1 3 1 [.int .i64 (((t * l.n) + (l.ix (i + 1)) : Nat) : Int)], rowI bx8 c9 3 1 ((ints qs2[u * l.n + i].xs) ++ [.int .i64 (((t * l.n) + (l.ix (i + 1)) : Nat) : Int)]), oI bx6 54 [.int .i64 b.edges[k].fr, .int .i64 b.edges[k].to, .int .u8 ((b.edges[k].pos : Nat) : Int), .int .u8 ((b.edges[k].neg : Nat) : Int)], oI bx5 3 [(.int .i64 (i : Int))], oI zG 79 [(.slice (some ⟨zN, 0, none⟩) (n * l.n) (n * l.n)), (.slice (some ⟨zM, 0, none⟩) (n * l.n) (n * l.n)), .int .u64 ((2 ^ b.sets.length - 1 : Nat) : Int)], rowI (some ⟨zN, 0, none⟩) (n * l.n) 22 1 (vals (qs2.set (u * l.n + i) ⟨bx8, c9, qs2[u * l.n + i].xs ++ [((t * l.n + l.ix (i + 1) : Nat) : Int)]⟩)), rowI (some ⟨zM, 0, none⟩) (n * l.n) 52 1 (uns ms), oI bx3 3 [(.int .i64 ((l.n : Nat) : Int))], oI bx2 29 (laCells l pb pc lb lc), oI bx1 26 (buCells b sb sc eb ec tb tc)] ++ (itms 3 (qs2.eraseIdx (u * l.n + i))))) (by rw [show putL (vals qs2) ((u * l.n) + i) [(.slice bx8 ((qs2[u * l.n + i].xs.length) + 1) c9)] = vals (qs2.set (u * l.n + i) ⟨bx8, c9, qs2[u * l.n + i].xs ++ [((t * l.n + l.ix (i + 1) : Nat) : Int)]⟩) from (by simp [putL, Rec.val])]; exact Sub.of (List.Sublist.refl _)) ?_
        refine DO.sub (O' := [rowI bx8 c9 3 1 ((ints qs2[u * l.n + i].xs) ++ [.int .i64 (((t * l.n) + (l.ix (i + 1)) : Nat) : Int)]), oI bx5 3 [(.int .i64 (i : Int))], oI zG 79 [(.slice (some ⟨zN, 0, none⟩) (n * l.n) (n * l.n)), (.slice (some ⟨zM, 0, none⟩) (n * l.n) (n * l.n)), .int .u64 ((2 ^ b.sets.length - 1 : Nat) : Int)], rowI (some ⟨zN, 0, none⟩) (n * l.n) 22 1 (vals (qs2.set (u * l.n + i) ⟨bx8, c9, qs2[u * l.n + i].xs ++ [((t * l.n + l.ix (i + 1) : Nat) : Int)]⟩)), rowI (some ⟨zM, 0, none⟩) (n * l.n) 52 1 (uns ms), oI bx3 3 [(.int .i64 ((l.n : Nat) : Int))], oI bx2 29 (laCells l pb pc lb lc), oI bx1 26 (buCells b sb sc eb ec tb tc)] ++ (itms 3 (qs2.eraseIdx (u * l.n + i)))) (Sub.pickR [1, 2, 2, 2, 2, 2, 2, 2] [rowI (some ⟨bx7, 0, none⟩) 1 3 1 [.int .i64 (((t * l.n) + (l.ix (i + 1)) : Nat) : Int)], rowI bx8 c9 3 1 ((ints qs2[u * l.n + i].xs) ++ [.int .i64 (((t * l.n) + (l.ix (i + 1)) : Nat) : Int)]), oI bx6 54 [.int .i64 b.edges[k].fr, .int .i64 b.edges[k].to, .int .u8 ((b.edges[k].pos : Nat) : Int), .int .u8 ((b.edges[k].neg : Nat) : Int)], oI bx5 3 [(.int .i64 (i : Int))], oI zG 79 [(.slice (some ⟨zN, 0, none⟩) (n * l.n) (n * l.n)), (.slice (some ⟨zM, 0, none⟩) (n * l.n) (n * l.n)), .int .u64 ((2 ^ b.sets.length - 1 : Nat) : Int)], rowI (some ⟨zN, 0, none⟩) (n * l.n) 22 1 (vals (qs2.set (u * l.n + i) ⟨bx8, c9, qs2[u * l.n + i].xs ++ [((t * l.n + l.ix (i + 1) : Nat) : Int)]⟩)), rowI (some ⟨zM, 0, none⟩) (n * l.n) 52 1 (uns ms), oI bx3 3 [(.int .i64 ((l.n : Nat) : Int))], oI bx2 29 (laCells l pb pc lb lc), oI bx1 26 (buCells b sb sc eb ec tb tc)] (itms 3 (qs2.eraseIdx (u * l.n + i))) rfl rfl) ?_
        refine DO.sub (O' := [oI bx5 3 [(.int .i64 (i : Int))], oI zG 79 [(.slice (some ⟨zN, 0, none⟩) (n * l.n) (n * l.n)), (.slice (some ⟨zM, 0, none⟩) (n * l.n) (n * l.n)), .int .u64 ((2 ^ b.sets.length - 1 : Nat) : Int)], rowI (some ⟨zN, 0, none⟩) (n * l.n) 22 1 (vals (qs2.set (u * l.n + i) ⟨bx8, c9, qs2[u * l.n + i].xs ++ [((t * l.n + l.ix (i + 1) : Nat) : Int)]⟩)), rowI (some ⟨zM, 0, none⟩) (n * l.n) 52 1 (uns ms), oI bx3 3 [(.int .i64 ((l.n : Nat) : Int))], oI bx2 29 (laCells l pb pc lb lc), oI bx1 26 (buCells b sb sc eb ec tb tc)] ++ (itms 3 (qs2.set (u * l.n + i) ⟨bx8, c9, qs2[u * l.n + i].xs ++ [((t * l.n + l.ix (i + 1) : Nat) : Int)]⟩))) (sub_in hqu [oI bx5 3 [(.int .i64 (i : Int))], oI zG 79 [(.slice (some ⟨zN, 0, none⟩) (n * l.n) (n * l.n)), (.slice (some ⟨zM, 0, none⟩) (n * l.n) (n * l.n)), .int .u64 ((2 ^ b.sets.length - 1 : Nat) : Int)], rowI (some ⟨zN, 0, none⟩) (n * l.n) 22 1 (vals (qs2.set (u * l.n + i) ⟨bx8, c9, qs2[u * l.n + i].xs ++ [((t * l.n + l.ix (i + 1) : Nat) : Int)]⟩)), rowI (some ⟨zM, 0, none⟩) (n * l.n) 52 1 (uns ms), oI bx3 3 [(.int .i64 ((l.n : Nat) : Int))], oI bx2 29 (laCells l pb pc lb lc), oI bx1 26 (buCells b sb sc eb ec tb tc)] ⟨bx8, c9, qs2[u * l.n + i].xs ++ [((t * l.n + l.ix (i + 1) : Nat) : Int)]⟩ (by simp)) ?_
        refine DO.done ?_
        exact .inl ⟨rfl, qs2.set (u * l.n + i) ⟨bx8, c9, qs2[u * l.n + i].xs ++ [((t * l.n + l.ix (i + 1) : Nat) : Int)]⟩, rfl, hrw2.push hqu _ (fun w9 y hw => by
          rw [prodR_hit hk]
          have e1 : b.edges[k].fr * (l.n : Int) = ((u * l.n : Nat) : Int) := by rw [hu, Int.natCast_mul]
          have e2 : b.edges[k].to * (l.n : Int) = ((t * l.n : Nat) : Int) := by rw [ht, Int.natCast_mul]
          unfold prodP; rw [e1, e2]
          constructor
          · rintro (h9 | ⟨_, h9, h8⟩)
            · exact .inl h9
            · exact .inr ⟨by omega, by omega⟩
          · rintro (h9 | ⟨h9, h8⟩)
            · exact .inl h9
            · exact .inr ⟨hmt, by omega, by omega⟩) _ _⟩
      · exact ⟨qs, rfl, hrw⟩
      rintro vr O' (⟨qs2, rfl, hrw2⟩ | hF)
      rotate_left
      · exact hF.elim
      refine ⟨none, _, rfl, ?_⟩
      refine T.region ?_
      refine TO.quiet (q_addN (a := i) (b := 1) rfl rfl (by omega)) (TO.quiet (q_move rfl) ?_)
      refine TO.nil ?_
      exact ⟨i + 1, by omega, ([oI zG 79 [(.slice (some ⟨zN, 0, none⟩) (n * l.n) (n * l.n)), (.slice (some ⟨zM, 0, none⟩) (n * l.n) (n * l.n)), .int .u64 ((2 ^ b.sets.length - 1 : Nat) : Int)], rowI (some ⟨zN, 0, none⟩) (n * l.n) 22 1 (vals qs2), rowI (some ⟨zM, 0, none⟩) (n * l.n) 52 1 (uns ms), oI bx3 3 [(.int .i64 ((l.n : Nat) : Int))], oI bx2 29 (laCells l pb pc lb lc), oI bx1 26 (buCells b sb sc eb ec tb tc)] ++ (itms 3 qs2)), (Sub.pickR [1, 1, 1, 1, 1, 1] [oI bx5 3 [(.int .i64 (i : Int))], oI zG 79 [(.slice (some ⟨zN, 0, none⟩) (n * l.n) (n * l.n)), (.slice (some ⟨zM, 0, none⟩) (n * l.n) (n * l.n)), .int .u64 ((2 ^ b.sets.length - 1 : Nat) : Int)], rowI (some ⟨zN, 0, none⟩) (n * l.n) 22 1 (vals qs2), rowI (some ⟨zM, 0, none⟩) (n * l.n) 52 1 (uns ms), oI bx3 3 [(.int .i64 ((l.n : Nat) : Int))], oI bx2 29 (laCells l pb pc lb lc), oI bx1 26 (buCells b sb sc eb ec tb tc)] (itms 3 qs2) rfl rfl), qs2, rfl, by omega, (hrw2.same (fun u y _ => prodR_row)).more (by omega), ⟨rfl, rfl, rfl, rfl, rfl, rfl, rfl, rfl, rfl, rfl, rfl, rfl, trivial⟩⟩
    have hge77 : ¬ i < l.n := by omega
    refine T.exit ?_
    refine T.seq ?_
    have hml8 := hml
    have hie : i = l.n := by omega
    subst hie
    have hg : ProdG b l (nums qs) ms := ⟨⟨5000 * l.n, by omega, by rw [hnn]; exact hrw⟩, by rw [hnn]; exact hml, fun v hv9 => by rw [hms v (by rw [hnn] at hv9; exact hv9)]; simp⟩
    refine T.region ?_
    refine TO.quiet (q_load_boxAgg 0 Try.underlying79 rfl inf79 rfl rfl rfl) ?_
    have hk114 := fun (w1 : World) (hI : Inv w ([oI zG 79 [(.slice (some ⟨zN, 0, none⟩) (n * l.n) (n * l.n)), (.slice (some ⟨zM, 0, none⟩) (n * l.n) (n * l.n)), .int .u64 ((2 ^ b.sets.length - 1 : Nat) : Int)], rowI (some ⟨zN, 0, none⟩) (n * l.n) 22 1 (vals qs), rowI (some ⟨zM, 0, none⟩) (n * l.n) 52 1 (uns ms), oI bx3 3 [(.int .i64 ((l.n : Nat) : Int))], oI bx2 29 (laCells l pb pc lb lc), oI bx1 26 (buCells b sb sc eb ec tb tc)] ++ (itms 3 qs)) w1) => (by
      have hL := liveF w1 (some ⟨zN, 0, none⟩) (some ⟨zM, 0, none⟩) (n * l.n) (n * l.n) (vals qs) (nums qs) ms b.sets.length (hI.slOf (List.mem_of_getElem? (i := 1) rfl)) (Inv.recs (E := 3) hI (fun q hq => List.mem_append_right _ (List.mem_map.2 ⟨q, hq, rfl⟩))) (by rw [hrw.l]; omega) (fun r hr => by obtain ⟨i, hi9, rfl⟩ := List.mem_iff_getElem.1 hr; have h9 := hrw.b i; rw [getD_at hi9] at h9; omega) (hg.ok hv hl0) (hI.slOf (List.mem_of_getElem? (i := 2) rfl)) (by rw [hml, hrw.l]) hg.lt hv.m8
      rw [hrw.l, hml] at hL; exact hL)
    refine TO.loud rfl (l_call ent55 (CallT.of_pure hk114) rfl ?_)
    clear hk114
    rintro vr O' ⟨N, rfl, lb2, lc2, kb2, kc2, ls, co, rfl, rfl, hll, hlc, hlv⟩
    refine TO.quiet (q_move rfl) (TO.quiet (q_extract (vs := _) rfl rfl) (TO.quiet (q_extract (vs := _) rfl rfl) ?_))
    refine TO.loud rfl (l_alloc inf39 rfl (fun bx10 => ?_))
    refine TO.loud rfl (l_store_box (v := (.slice lb2 (n * l.n) lc2)) (vs := [(.slice lb2 (n * l.n) lc2)]) 0 inf39 rfl rfl rfl rfl rfl rfl (by simp [putL]) ?_)
    refine TO.quiet (q_assign rfl) ?_
    refine TO.nil (T.seq ?_)
    have hll2 : ls.length = n * l.n := hll
    refine T.region ?_
    refine TO.quiet (q_fieldAddr Try.underlying26 rfl inf22 rfl rfl) (TO.quiet (q_load_box 8 Try.underlying22 rfl rfl rfl rfl) (TO.quiet (q_makeFunc) ?_))
    have hk120 := CallT.under (A := [oI bx10 39 [(.slice lb2 (n * l.n) lc2)], oI bx3 3 [(.int .i64 ((l.n : Nat) : Int))], rowI lb2 lc2 4 1 (bools ls)]) (B := []) (O := ([oI bx10 39 [(.slice lb2 (n * l.n) lc2)], rowI lb2 lc2 4 1 (bools ls), rowI kb2 kc2 4 1 (bools co), oI zG 79 [(.slice (some ⟨zN, 0, none⟩) (n * l.n) (n * l.n)), (.slice (some ⟨zM, 0, none⟩) (n * l.n) (n * l.n)), .int .u64 ((2 ^ b.sets.length - 1 : Nat) : Int)], rowI (some ⟨zN, 0, none⟩) (n * l.n) 22 1 (vals qs), rowI (some ⟨zM, 0, none⟩) (n * l.n) 52 1 (uns ms), oI bx3 3 [(.int .i64 ((l.n : Nat) : Int))], oI bx2 29 (laCells l pb pc lb lc), oI bx1 26 (buCells b sb sc eb ec tb tc)] ++ (itms 3 qs))) ((containsFuncI w sb sc b.start [oI bx10 39 [(.slice lb2 (n * l.n) lc2)], oI bx3 3 [(.int .i64 ((l.n : Nat) : Int))], rowI lb2 lc2 4 1 (bools ls)] (Sl.o h.st) (by have := hB.st; omega) (.func (.func 57) #[] #[.pointer (some ⟨bx10, 0, none⟩), .pointer (some ⟨bx3, 0, none⟩)]) (fun s => ls.getD (s.toNat * l.n) false) (fun s hs => CallV.of_fn (first := []) (args := [.int .i64 s]) (caps := [.pointer (some ⟨bx10, 0, none⟩), .pointer (some ⟨bx3, 0, none⟩)]) ent57 (by
      have h7 := hv.st s hs
      have h8 : s.toNat * l.n + l.n ≤ n * l.n := by have h9 := Nat.mul_le_mul_right l.n (show s.toNat + 1 ≤ n by omega); rwa [Nat.succ_mul] at h9
      have h9 := startLive w bx10 bx3 lb2 lc2 l.n ls s h7.1 (by omega) (by omega)
      rw [hll2] at h9; exact h9)))) (Sub.pick0 [0, 5, 0] [oI bx10 39 [(.slice lb2 (n * l.n) lc2)], rowI lb2 lc2 4 1 (bools ls), rowI kb2 kc2 4 1 (bools co), oI zG 79 [(.slice (some ⟨zN, 0, none⟩) (n * l.n) (n * l.n)), (.slice (some ⟨zM, 0, none⟩) (n * l.n) (n * l.n)), .int .u64 ((2 ^ b.sets.length - 1 : Nat) : Int)], rowI (some ⟨zN, 0, none⟩) (n * l.n) 22 1 (vals qs), rowI (some ⟨zM, 0, none⟩) (n * l.n) 52 1 (uns ms), oI bx3 3 [(.int .i64 ((l.n : Nat) : Int))], oI bx2 29 (laCells l pb pc lb lc), oI bx1 26 (buCells b sb sc eb ec tb tc)] (itms 3 qs) rfl rfl)
    refine TO.loud rfl (l_call ent56 hk120 rfl ?_)
    clear hk120
    rintro vr O' ⟨A1, rfl, rfl, rfl⟩
    refine TO.quiet (q_assign rfl) (TO.quiet (q_assign rfl) ?_)
    refine TO.nil (T.ret (Res.drop ?_))
    refine Res.two (.bool (b.start.any fun s => ls.getD (s.toNat * l.n) false)) (.int .i64 0) Try.results17 rfl rfl ?_
    have hA := acc_any he0 hel0 (ls := ls) (fun s hs => by
      have h7 := hv.st s hs
      have h8 : s.toNat * l.n + l.n ≤ n * l.n := by have h9 := Nat.mul_le_mul_right l.n (show s.toNat + 1 ≤ n by omega); rwa [Nat.succ_mul] at h9
      exact (hlv _ (by omega)).1.trans (hg.liv hv hl0 _))
    exact ⟨[], Sub.of (List.nil_sublist _), by rw [hA]; unfold accE; rw [if_pos he0, hel0]; rfl, rfl⟩
  refine TO.quiet (q_extract (vs := _) rfl rfl) ?_
  refine TO.nil (T.seq ?_)
  refine T.cond1 rfl ?_
  refine T.skip (T.block (T.seq ?_))
  obtain ⟨x, hx, hxn⟩ : ∃ x : Nat, le.1 = (x : Int) ∧ x < n := by
    obtain ⟨S, hS, hS2⟩ := hin le (hsub le (by rw [hleft]; simp))
    have := hv.se S hS _ hS2
    exact ⟨le.1.toNat, by omega, by omega⟩
  refine T.region ?_
  refine TO.quiet (q_entryMap (K := KI) (V := VU) rfl (List.mem_of_getElem? (i := 0) rfl)) (TO.quiet (QT.cast (q_extract (vs := _) rfl rfl) (v' := .int .i64 ((x : Nat) : Int)) (by show Value.int _ _ = _; rw [hx])) (TO.quiet (q_extract (vs := _) rfl rfl) (TO.quiet (q_assign rfl) ?_)))
  refine TO.quiet (q_assign rfl) ?_
  refine TO.nil (T.seq (T.region ?_))
  refine TO.quiet (q_load_box 4 Try.underlying3 rfl rfl rfl rfl) (TO.quiet (q_move rfl) ?_)
  refine TO.nil (T.block ?_)
  refine T.loop (fun (i : Nat) ρ O => ∃ (ms2 : List Nat), O = [iterI KI VU mm it4 m9 (lA ++ lB) (some le), oI zG 79 [(.slice (some ⟨zN, 0, none⟩) (n * l.n) (n * l.n)), (.slice (some ⟨zM, 0, none⟩) (n * l.n) (n * l.n)), .int .u64 ((2 ^ b.sets.length - 1 : Nat) : Int)], rowI (some ⟨zN, 0, none⟩) (n * l.n) 22 1 (List.replicate (n * l.n) (.slice none 0 0)), rowI (some ⟨zM, 0, none⟩) (n * l.n) 52 1 (uns ms2), oI bx3 3 [(.int .i64 ((l.n : Nat) : Int))], oI bx2 29 (laCells l pb pc lb lc), oI bx1 26 (buCells b sb sc eb ec tb tc)] ∧ i ≤ l.n ∧ ms2.length = n * l.n ∧ (∀ v, v < n * l.n → ms2.getD v 0 = if v / l.n = x ∧ v % l.n < i then le.2 else ms.getD v 0) ∧ Heads [(0, (.agg (buCells b sb sc eb ec tb tc).toArray)), (1, (.agg (laCells l pb pc lb lc).toArray)), (2, (.pointer (some ⟨bx1, 0, none⟩))), (3, (.pointer (some ⟨bx2, 0, none⟩))), (4, .bool false), (5, .int .i64 0), (6, .int .i64 (checkB b : Int)), (7, .int .i64 (checkLV b.vars l : Int)), (8, (.pointer (some ⟨bx3, 0, none⟩))), (9, (.pointer (some ⟨zG, 0, none⟩))), (10, .int .i64 ((x : Nat) : Int)), (11, .int .u64 ((le.2 : Nat) : Int)), (55, (.pointer (some ⟨it4, 0, none⟩))), (61, (.int .i64 ((l.n : Nat) : Int))), (62, .int .i64 (i : Int))] ρ) (fun i => l.n - i) 0 ?_ ?_
  · exact ⟨ms, rfl, Nat.zero_le _, hml, (fun v hv9 => by rw [if_neg (by omega)]), ⟨rfl, rfl, rfl, rfl, rfl, rfl, rfl, rfl, rfl, rfl, rfl, rfl, rfl, rfl, rfl, trivial⟩⟩
  rintro i ρ O ⟨ms2, rfl, hi, hml2, hms2, hH⟩
  obtain ⟨ρ0, rfl⟩ := hH.elim
  clear hH
  refine T.seq (T.region ?_)
  refine TO.quiet (q_lss rfl rfl) ?_
  refine TO.nil (T.seq ?_)
  refine T.condP rfl (fun hc => ?_) (fun hc => ?_)
  · have hlt63 : i < l.n := by omega
    have hpm := prod_marks hml2 hlt63 hxn hms2
    refine T.skip (T.seq (T.block (T.seq (T.region ?_))))
    refine TO.quiet (q_move rfl) (TO.quiet (q_assign rfl) ?_)
    refine TO.nil (T.region ?_)
    refine TO.quiet (q_fieldAddr Try.underlying79 rfl inf77 rfl rfl) (TO.quiet (q_load_box 1 Try.underlying77 rfl rfl rfl rfl) (TO.quiet (q_move rfl) (TO.quiet (q_load_box 4 Try.underlying3 rfl rfl rfl rfl) ?_)))
    refine TO.quiet (q_mulN (a := x) (b := l.n) rfl rfl (by have := Nat.mul_le_mul_right l.n (Nat.le_of_lt hxn); omega)) (TO.quiet (q_move rfl) (TO.quiet (q_addN (a := (x * l.n)) (b := i) rfl rfl (by omega)) (TO.quiet (q_move rfl) ?_)))
    refine TO.quiet (q_ix (i := ((x * l.n) + i)) Try.underlying77 inf52 rfl rfl (rowO (List.mem_of_getElem? (i := 3) rfl))) ?_
    refine TO.loud rfl (l_st (j := ((x * l.n) + i)) (v := .int .u64 ((le.2 : Nat) : Int)) (vs := [(.int .u64 ((le.2 : Nat) : Int))]) (cs := uns ms2) 3 inf52 rfl rfl rfl rfl rfl (by simp) rfl (by first | (simp; omega) | (simp_all; omega)) ?_)
    refine TO.sub (O' := [iterI KI VU mm it4 m9 (lA ++ lB) (some le), oI zG 79 [(.slice (some ⟨zN, 0, none⟩) (n * l.n) (n * l.n)), (.slice (some ⟨zM, 0, none⟩) (n * l.n) (n * l.n)), .int .u64 ((2 ^ b.sets.length - 1 : Nat) : Int)], rowI (some ⟨zN, 0, none⟩) (n * l.n) 22 1 (List.replicate (n * l.n) (.slice none 0 0)), rowI (some ⟨zM, 0, none⟩) (n * l.n) 52 1 (uns (ms2.set (x * l.n + i) le.2)), oI bx3 3 [(.int .i64 ((l.n : Nat) : Int))], oI bx2 29 (laCells l pb pc lb lc), oI bx1 26 (buCells b sb sc eb ec tb tc)]) (by rw [show putL (uns ms2) ((x * l.n) + i) [(.int .u64 ((le.2 : Nat) : Int))] = uns (ms2.set (x * l.n + i) le.2) from (by simp [putL])]; exact Sub.of (List.Sublist.refl _)) ?_
    refine TO.nil (T.region ?_)
    refine TO.quiet (q_addN (a := i) (b := 1) rfl rfl (by omega)) (TO.quiet (q_move rfl) ?_)
    refine TO.nil ?_
    exact ⟨i + 1, by omega, ms2.set (x * l.n + i) le.2, rfl, by omega, by simp [hml2], hpm.2, ⟨rfl, rfl, rfl, rfl, rfl, rfl, rfl, rfl, rfl, rfl, rfl, rfl, rfl, rfl, rfl, trivial⟩⟩
  have hge63 : ¬ i < l.n := by omega
  refine T.exit ?_
  subst hleft
  exact ⟨lA ++ lB, by simp, some le, ms2, rfl, fun q hq => hsub q (by rcases List.mem_append.1 hq with h | h <;> simp [h]), nodup_mid hnd, hml2, fun v hv9 => by
    rw [hms2 v hv9, ← marks_stepG hnd (hmp.val (hsub le (by simp))) hx (hms v hv9)]
    have := Nat.mod_lt v hL0
    by_cases e : v / l.n = x
    · rw [if_pos ⟨e, by omega⟩, if_pos e]
    · rw [if_neg (fun q => e q.1), if_neg e], ⟨rfl, rfl, rfl, rfl, rfl, rfl, rfl, rfl, rfl, rfl, rfl, trivial⟩⟩
end Go.Proofs.Ytnamoapbienooaa

namespace Go.Lx
open Go.RowKit
set_option linter.unusedVariables false
open Classical in
theorem accV_iff {b : Bu} {l : La} (he : checkB b = 0) (hel : checkLV b.vars l = 0) : accV b l = true ↔ Acc b l.at := by
  unfold accV
  rw [if_pos ⟨he, hel⟩, decide_eq_true_iff, accL_iff (checkB_zero.1 he) (checkL_loop hel).1]
theorem checkLV_of {v : Int} {l : La} (h0 : 0 ≤ v ∧ v ≤ 6) (hl : 0 < l.loop.length) (h1 : l.pre.length ≤ 64) (h2 : l.loop.length ≤ 64) (h3 : ∀ x ∈ l.pre, x < 2 ^ v.toNat) (h4 : ∀ x ∈ l.loop, x < 2 ^ v.toNat) : checkLV v l = 0 := by
  unfold checkLV checkL
  rw [if_neg (fun q => q h0), if_neg (by omega), if_neg (by omega), if_pos]
  exact ⟨List.all_eq_true.2 (fun x hx => decide_eq_true (h3 x hx)), List.all_eq_true.2 (fun x hx => decide_eq_true (h4 x hx))⟩
def alwB : Bu := { vars := 1, states := 2, start := [0], edges := [⟨0, 0, 0, 0⟩, ⟨0, 1, 1, 0⟩, ⟨1, 1, 1, 0⟩], sets := [[1]] }
def alwC : Bu := { alwB with sets := [[1], [0]] }
theorem alwB_check : checkB alwB = 0 := by decide
theorem alwC_check : checkB alwC = 0 := by decide
theorem alwB_valid : ValidB alwB := checkB_zero.1 alwB_check
def la1 : La := ⟨[0], [1]⟩
def la2 : La := ⟨[], [0, 1]⟩
theorem la1_check : checkLV alwB.vars la1 = 0 := by decide
theorem la2_check : checkLV alwB.vars la2 = 0 := by decide
theorem la1_at (i : Nat) : la1.at i = if i = 0 then 0 else 1 := by
  cases i with
  | zero => rfl
  | succ i => show (if i + 1 < 1 then _ else [1].getD ((i + 1 - 1) % max 1 1) 0) = _; rw [if_neg (by omega), if_neg (by omega), show max 1 1 = 1 from rfl, Nat.mod_one]; rfl
theorem la2_at (i : Nat) : la2.at i = i % 2 := by
  show (if i < 0 then _ else [0, 1].getD ((i - 0) % max 2 1) 0) = _
  rw [if_neg (by omega), Nat.sub_zero, show max 2 1 = 2 from rfl]
  have : i % 2 < 2 := Nat.mod_lt _ (by omega)
  generalize i % 2 = j at this ⊢
  match j, this with
  | 0, _ => rfl
  | 1, _ => rfl
theorem alw_edges {e : Ed} (h : e ∈ alwB.edges) : e = ⟨0, 0, 0, 0⟩ ∨ e = ⟨0, 1, 1, 0⟩ ∨ e = ⟨1, 1, 1, 0⟩ := by
  simpa [alwB] using h
theorem la1_acc : Acc alwB la1.at := by
  refine ⟨0, by simp [alwB], fun i => if i ≤ 1 then 0 else 1, rfl, fun i => ?_, fun S hS N => ?_⟩
  · rw [la1_at]
    show ∃ e ∈ alwB.edges, e.fr = ((if i ≤ 1 then 0 else 1 : Nat) : Int) ∧ e.to = ((if i + 1 ≤ 1 then 0 else 1 : Nat) : Int) ∧ _
    by_cases h0 : i = 0
    · subst h0; exact ⟨⟨0, 0, 0, 0⟩, by simp [alwB], rfl, rfl, by constructor <;> rfl⟩
    · by_cases h1 : i = 1
      · subst h1; exact ⟨⟨0, 1, 1, 0⟩, by simp [alwB], rfl, rfl, by constructor <;> rfl⟩
      · refine ⟨⟨1, 1, 1, 0⟩, by simp [alwB], ?_, ?_, ?_⟩
        · rw [if_neg (by omega)]; rfl
        · rw [if_neg (by omega)]; rfl
        · rw [if_neg h0]; constructor <;> rfl
  · have : S = [1] := by simpa [alwB] using hS
    subst this
    refine ⟨N + 2, by omega, ?_⟩
    show ((if N + 2 ≤ 1 then 0 else 1 : Nat) : Int) ∈ [(1 : Int)]
    rw [if_neg (by omega)]; simp
theorem la2_rej : ¬ Acc alwB la2.at := by
  rintro ⟨s, _, r, h⟩
  have stay : ∀ i, r i = 1 → r (i + 1) = 1 ∧ i % 2 = 1 := fun i hi => by
    obtain ⟨e, he, h1, h2, h3, _⟩ := h.st i
    rw [la2_at] at h3
    rcases alw_edges he with rfl | rfl | rfl
    · rw [hi] at h1; simp at h1
    · rw [hi] at h1; simp at h1
    · refine ⟨by have : (1 : Int) = r (i + 1) := h2; omega, ?_⟩
      have : i % 2 < 2 := Nat.mod_lt _ (by omega)
      by_cases e : i % 2 = 1
      · exact e
      · have e0 : i % 2 = 0 := by omega
        rw [e0] at h3; simp at h3
  obtain ⟨i, _, hi⟩ := h.inf [1] (by simp [alwB]) 0
  have hi' : r i = 1 := by simp at hi; omega
  have h1 := stay i hi'
  have h2 := stay (i + 1) h1.1
  omega
theorem alw_core : coreB alwB 1 := by
  refine ⟨⟨1, ⟨⟨1, 1, 1, 0⟩, by simp [alwB], rfl, rfl⟩, .refl _⟩, fun k hk => ?_⟩
  have hk' : k < 1 := hk
  have : k = 0 := by omega
  subst this
  exact ⟨1, ⟨by decide, [1], rfl, by simp⟩, .refl _, .refl _⟩
theorem alw_live1 : liveB alwB 1 := ⟨1, .refl _, alw_core⟩
theorem alw_live0 : liveB alwB 0 := ⟨1, .one ⟨⟨0, 1, 1, 0⟩, by simp [alwB], rfl, rfl⟩, alw_core⟩
theorem alw_lives : livesB alwB = [true, true] := by
  symm
  apply livesB_of alwB_check rfl
  intro v hv
  have hv' : v < 2 := hv
  match v, hv' with
  | 0, _ => exact ⟨fun _ => alw_live0, fun _ => rfl⟩
  | 1, _ => exact ⟨fun _ => alw_live1, fun _ => rfl⟩
theorem alw_wit : witE alwB = 0 := by
  unfold witE
  rw [if_neg (by rw [alwB_check]; exact fun h => h rfl), if_pos ⟨0, by simp [alwB], alw_live0⟩]
theorem alwC_stay {u v : Nat} (h : Rch (autE alwC) u v) : u = 1 → v = 1 := by
  induction h with
  | refl => exact id
  | step e h ih =>
    intro hu
    obtain ⟨ed, he, h1, h2⟩ := e
    apply ih
    rcases alw_edges he with rfl | rfl | rfl
    · rw [hu] at h1; simp at h1
    · rw [hu] at h1; simp at h1
    · have : (1 : Int) = _ := h2; omega
theorem alwC_nocore (u : Nat) : ¬ coreB alwC u := by
  rintro ⟨_, h⟩
  obtain ⟨x, ⟨_, S, h1, h2⟩, h3, h4⟩ := h 0 (by decide)
  obtain ⟨y, ⟨_, S', h5, h6⟩, h7, h8⟩ := h 1 (by decide)
  have e1 : S = [1] := by simpa [alwC] using h1.symm
  have e2 : S' = [0] := by simpa [alwC] using h5.symm
  subst e1; subst e2
  have hx : x = 1 := by simp at h2; omega
  have hy : y = 0 := by simp at h6; omega
  have := alwC_stay (h4.trans h7) hx
  omega
theorem alwC_dead (u : Nat) : ¬ liveB alwC u := fun ⟨x, _, h⟩ => alwC_nocore x h
theorem alwC_wit : witE alwC = 9 := by
  unfold witE
  rw [if_neg (by rw [alwC_check]; exact fun h => h rfl), if_neg (fun ⟨s, _, h⟩ => alwC_dead s h)]
theorem alwC_trim : (trimB alwC).states = 0 ∧ (trimB alwC).sets.length = 2 := by
  have hk : keepB alwC = [false, false] := by
    symm
    apply keepB_of rfl
    intro v hv
    constructor
    · intro h
      have hv' : v < 2 := hv
      match v, hv', h with
      | 0, _, h => cases h
      | 1, _, h => cases h
    · exact fun h => absurd h.1 (alwC_dead v)
  unfold trimB
  rw [if_pos alwC_check, hk]
  exact ⟨rfl, rfl⟩
theorem WitOf.chk {b : Bu} {c : La} (h : WitOf b c) (hv : ValidB b) (h1 : c.pre.length ≤ 64) (h2 : c.loop.length ≤ 64) : checkLV b.vars c = 0 :=
  checkLV_of ⟨hv.v0, hv.v6⟩ h.can.pos h1 h2 (fun x hx => by obtain ⟨e, he, rfl⟩ := h.mem x (.inl hx); exact (hv.cu e he).1) (fun x hx => by obtain ⟨e, he, rfl⟩ := h.mem x (.inr hx); exact (hv.cu e he).1)
theorem alw_witacc {c : La} (h : WitOf alwB c) : accV alwB c = true ∧ accE alwB c = 0 := by
  have hp : c.pre.length ≤ 2 := h.pre
  have hl : c.loop.length ≤ 2 * (1 + 1) := h.loop
  have hc := h.chk alwB_valid (by omega) (by omega)
  exact ⟨(accV_iff alwB_check hc).2 h.acc, by unfold accE; rw [if_pos alwB_check]; exact hc⟩
theorem WitOf.lab {b : Bu} {c : La} (h : WitOf b c) (hB : BuB b) (hv : ValidB b) : LaB c := by
  have h3 : b.states.toNat * (b.sets.length + 1) ≤ 4096 * 9 := Nat.mul_le_mul (by have := hv.n4; omega) (by have := hv.m8; omega)
  exact ⟨by have := h.pre; have := hv.n4; omega, by have := h.loop; omega, fun x hx => by obtain ⟨e, he, rfl⟩ := h.mem x (.inl hx); exact (hB.pn e he).1, fun x hx => by obtain ⟨e, he, rfl⟩ := h.mem x (.inr hx); exact (hB.pn e he).1⟩
theorem alwB_B : BuB alwB := ⟨by decide, by decide, by decide, by decide, by decide⟩
theorem alwC_B : BuB alwC := ⟨by decide, by decide, by decide, by decide, by decide⟩
end Go.Lx

namespace Go.Proofs.Ytnamoapbienooaa
open Go.Lx Go.RowKit
set_option linter.unusedVariables false
set_option linter.unusedSimpArgs false
set_option maxHeartbeats 1000000 in
set_option maxRecDepth 20000 in
theorem alwaysF (w : World) :
    PureT Try.prog 44 [] w fun v N => ∃ sb eb tb qb, v = .agg (buCells alwB sb 1 eb 3 tb 1).toArray ∧ N = [rowI sb 1 3 1 (ints alwB.start), rowI eb 3 54 4 (edsC alwB.edges), rowI tb 1 22 1 [.slice qb 1 1], rowI qb 1 3 1 (ints [1])] := by
  refine CallT.enter Try.func44 rfl Try.ntmps44 rfl ?_
  refine T.seq (T.region ?_)
  refine TO.loud rfl (l_alloc inf26 rfl (fun bx1 => ?_))
  refine TO.nil (T.seq (T.region ?_))
  refine TO.loud rfl (l_build1 (v := .int .i64 0) Try.underlying22 inf3 rfl rfl rfl (fun bx2 => ?_))
  refine TO.quiet (q_build (cs := [.int .i64 0, .int .i64 0, (.int .u8 0), (.int .u8 0)]) plan54 inf54 (by kernel_rfl)) (TO.quiet (q_build (cs := [.int .i64 0, .int .i64 1, .int .u8 1, (.int .u8 0)]) plan54 inf54 (by kernel_rfl)) (TO.quiet (q_build (cs := [.int .i64 1, .int .i64 1, .int .u8 1, (.int .u8 0)]) plan54 inf54 (by kernel_rfl)) ?_))
  refine TO.loud rfl (l_buildSlice (m := 3) (parts := [(0, _), (1, _), (2, _)]) (cs := [.int .i64 0, .int .i64 0, (.int .u8 0), (.int .u8 0), .int .i64 0, .int .i64 1, .int .u8 1, (.int .u8 0), .int .i64 1, .int .i64 1, .int .u8 1, (.int .u8 0)]) Try.underlying23 inf54 (by decide) (by kernel_rfl) rfl (fun bx3 => ?_))
  refine TO.loud rfl (l_build1 (v := .int .i64 1) Try.underlying22 inf3 rfl rfl rfl (fun bx4 => ?_))
  refine TO.loud rfl (l_build1 (v := (.slice (some ⟨bx4, 0, none⟩) 1 1)) Try.underlying24 inf22 rfl rfl rfl (fun bx5 => ?_))
  refine TO.quiet (q_build (cs := [.int .i64 1, .int .i64 2, (.slice (some ⟨bx2, 0, none⟩) 1 1), (.slice (some ⟨bx3, 0, none⟩) 3 3), (.slice (some ⟨bx5, 0, none⟩) 1 1)]) plan26 inf26 (by kernel_rfl)) ?_
  refine TO.loud rfl (l_store_box (v := (.agg #[.int .i64 1, .int .i64 2, (.slice (some ⟨bx2, 0, none⟩) 1 1), (.slice (some ⟨bx3, 0, none⟩) 3 3), (.slice (some ⟨bx5, 0, none⟩) 1 1)])) (vs := [.int .i64 1, .int .i64 2, (.slice (some ⟨bx2, 0, none⟩) 1 1), (.slice (some ⟨bx3, 0, none⟩) 3 3), (.slice (some ⟨bx5, 0, none⟩) 1 1)]) 4 inf26 rfl rfl rfl rfl rfl rfl (by simp [putL]) ?_)
  refine TO.nil (T.ret (Res.drop ?_))
  refine Res.cell1 (i := 4) Try.results44 Try.underlying26 rfl inf26 rfl rfl rfl ?_
  exact ⟨[rowI (some ⟨bx2, 0, none⟩) 1 3 1 [.int .i64 0], rowI (some ⟨bx3, 0, none⟩) 3 54 4 [.int .i64 0, .int .i64 0, (.int .u8 0), (.int .u8 0), .int .i64 0, .int .i64 1, .int .u8 1, (.int .u8 0), .int .i64 1, .int .i64 1, .int .u8 1, (.int .u8 0)], rowI (some ⟨bx5, 0, none⟩) 1 22 1 [(.slice (some ⟨bx4, 0, none⟩) 1 1)], rowI (some ⟨bx4, 0, none⟩) 1 3 1 [.int .i64 1]], (Sub.pick [3, 2, 0, 0] rfl), _, _, _, _, rfl, rfl⟩
theorem accAlw1 (w : World) (sb eb tb : Option Addr) (sc ec tc : Nat) (vs : List Value) (h : BuAt w alwB sb eb tb vs) (pb lb : Option Addr) (pc lc : Nat) (h2 : LaAt w la1 pb lb pc lc) :
    PureT Try.prog 17 [.agg (buCells alwB sb sc eb ec tb tc).toArray, .agg (laCells la1 pb pc lb lc).toArray] w fun v N => v = .tuple #[.bool true, .int .i64 0] ∧ N = [] := by
  have h9 := acceptsF w alwB sb eb tb sc ec tc vs h alwB_B la1 pb lb pc lc h2 ⟨by decide, by decide, by decide, by decide⟩ (by decide)
  rw [(accV_iff alwB_check la1_check).2 la1_acc, show accE alwB la1 = 0 from rfl] at h9
  exact h9
theorem accAlw2 (w : World) (sb eb tb : Option Addr) (sc ec tc : Nat) (vs : List Value) (h : BuAt w alwB sb eb tb vs) (pb lb : Option Addr) (pc lc : Nat) (h2 : LaAt w la2 pb lb pc lc) :
    PureT Try.prog 17 [.agg (buCells alwB sb sc eb ec tb tc).toArray, .agg (laCells la2 pb pc lb lc).toArray] w fun v N => v = .tuple #[.bool false, .int .i64 0] ∧ N = [] := by
  have h9 := acceptsF w alwB sb eb tb sc ec tc vs h alwB_B la2 pb lb pc lc h2 ⟨by decide, by decide, by decide, by decide⟩ (by decide)
  rw [show accV alwB la2 = false by rw [← Bool.not_eq_true]; exact fun q => la2_rej ((accV_iff alwB_check la2_check).1 q), show accE alwB la2 = 0 from rfl] at h9
  exact h9
theorem livAlw (w : World) (sb eb tb : Option Addr) (sc ec tc : Nat) (vs : List Value) (h : BuAt w alwB sb eb tb vs) :
    PureT Try.prog 19 [.agg (buCells alwB sb sc eb ec tb tc).toArray] w fun v N => ∃ lb lc, v = .tuple #[.slice lb 2 lc, .int .i64 0] ∧ N = [rowI lb lc 4 1 (bools [true, true])] := by
  have h9 := livesF w alwB sb eb tb sc ec tc vs h alwB_B
  rw [alw_lives, alwB_check] at h9
  exact h9
theorem witAlw (w : World) (sb eb tb : Option Addr) (sc ec tc : Nat) (vs : List Value) (h : BuAt w alwB sb eb tb vs) :
    PureT Try.prog 27 [.agg (buCells alwB sb sc eb ec tb tc).toArray] w fun v N => ∃ (c : La) (pb lb : Option Addr) (pc lc : Nat), v = .tuple #[.agg (laCells c pb pc lb lc).toArray, .int .i64 0] ∧ N = [rowI pb pc 5 1 (byts c.pre), rowI lb lc 5 1 (byts c.loop)] ∧ WitOf alwB c :=
  (witnessF w alwB sb eb tb sc ec tc vs h alwB_B).mono fun v N ⟨c, pb, lb, pc, lc, e, h1, h2, h3, h4, h5⟩ => ⟨c, pb, lb, pc, lc, by rw [h1, h3, alw_wit]; rfl, h2, h5 (by rw [h3, alw_wit])⟩
theorem witAlwC (w : World) (sb eb tb : Option Addr) (sc ec tc : Nat) (vs : List Value) (h : BuAt w alwC sb eb tb vs) :
    PureT Try.prog 27 [.agg (buCells alwC sb sc eb ec tb tc).toArray] w fun v N => ∃ (pb lb : Option Addr) (pc lc : Nat), v = .tuple #[.agg (laCells ⟨[], []⟩ pb pc lb lc).toArray, .int .i64 9] ∧ N = [rowI pb pc 5 1 [], rowI lb lc 5 1 []] :=
  (witnessF w alwC sb eb tb sc ec tc vs h alwC_B).mono fun v N ⟨c, pb, lb, pc, lc, e, h1, h2, h3, h4, h5⟩ => by
    have he : e = 9 := by rw [h3, alwC_wit]
    have hc := h4 (by omega)
    subst he; subst hc
    exact ⟨pb, lb, pc, lc, h1, h2⟩
theorem trmAlwC (w : World) (sb eb tb : Option Addr) (sc ec tc : Nat) (vs : List Value) (h : BuAt w alwC sb eb tb vs) :
    PureT Try.prog 28 [.agg (buCells alwC sb sc eb ec tb tc).toArray] w fun v N => ∃ (z0 : Int) (sb2 : Option Addr) (n1 sc2 : Nat) (eb2 : Option Addr) (n2 ec2 : Nat) (tb2 : Option Addr) (tc2 : Nat), v = .tuple #[.agg #[.int .i64 z0, .int .i64 0, .slice sb2 n1 sc2, .slice eb2 n2 ec2, .slice tb2 2 tc2], .int .i64 0] :=
  (trimF w alwC sb eb tb sc ec tc vs h alwC_B).mono fun v N ⟨sb2, eb2, tb2, sc2, ec2, tc2, qs, h1, h2, h3⟩ => ⟨(trimB alwC).vars, sb2, (trimB alwC).start.length, sc2, eb2, (trimB alwC).edges.length, ec2, tb2, tc2, by rw [h1, alwC_check]; show Value.tuple #[.agg (buCells (trimB alwC) sb2 sc2 eb2 ec2 tb2 tc2).toArray, _] = _; simp only [buCells, alwC_trim.1, alwC_trim.2]; rfl⟩
theorem accWit (w : World) (sb eb tb : Option Addr) (sc ec tc : Nat) (vs : List Value) (h : BuAt w alwB sb eb tb vs) (c : La) (hw : WitOf alwB c) (pb lb : Option Addr) (pc lc : Nat) (h2 : LaAt w c pb lb pc lc) :
    PureT Try.prog 17 [.agg (buCells alwB sb sc eb ec tb tc).toArray, .agg (laCells c pb pc lb lc).toArray] w fun v N => v = .tuple #[.bool true, .int .i64 0] ∧ N = [] := by
  have h9 := acceptsF w alwB sb eb tb sc ec tc vs h alwB_B c pb lb pc lc h2 (hw.lab alwB_B alwB_valid) (by decide)
  rw [(alw_witacc hw).1, (alw_witacc hw).2] at h9
  exact h9
end Go.Proofs.Ytnamoapbienooaa

namespace Go.Proofs.Ytnamoapbienooaa
open Go.Lx Go.RowKit
set_option linter.unusedVariables false
set_option linter.unusedSimpArgs false
set_option maxHeartbeats 4000000 in
set_option maxRecDepth 20000 in
theorem awakeF (w : World) : PureT Try.prog 14 [] w fun v N => v = .bool true ∧ N = [] := by
  refine CallT.enter Try.func14 rfl Try.ntmps14 rfl ?_
  refine T.seq (T.region ?_)
  refine TO.quiet (q_assign rfl) ?_
  refine TO.nil (T.seq (T.region ?_))
  have hk17 := fun (w1 : World) (hI : Inv w [] w1) => alwaysF w1
  refine TO.loud rfl (l_call ent44 (CallT.of_pure hk17) rfl ?_)
  clear hk17
  rintro vr O' ⟨N, rfl, sb1, eb1, tb1, qb1, rfl, rfl⟩
  have hk18 := fun (w1 : World) (hI : Inv w [rowI sb1 1 3 1 (ints alwB.start), rowI eb1 3 54 4 (edsC alwB.edges), rowI tb1 1 22 1 [(.slice qb1 1 1)], rowI qb1 1 3 1 (ints [1])] w1) => alwaysF w1
  refine TO.loud rfl (l_call ent44 (CallT.of_pure hk18) rfl ?_)
  clear hk18
  rintro vr O' ⟨N, rfl, sb2, eb2, tb2, qb2, rfl, rfl⟩
  refine TO.loud rfl (l_alloc inf26 rfl (fun bx1 => ?_))
  refine TO.loud rfl (l_alloc inf26 rfl (fun bx2 => ?_))
  refine TO.loud rfl (l_store_box (v := (.agg #[(.int .i64 1), (.int .i64 2), (.slice sb1 1 1), (.slice eb1 3 3), (.slice tb1 1 1)])) (vs := [(.int .i64 1), (.int .i64 2), (.slice sb1 1 1), (.slice eb1 3 3), (.slice tb1 1 1)]) 1 inf26 rfl rfl rfl rfl rfl rfl (by simp [putL]) ?_)
  refine TO.loud rfl (l_store_box (v := (.agg #[(.int .i64 1), (.int .i64 2), (.slice sb2 1 1), (.slice eb2 3 3), (.slice tb2 1 1)])) (vs := [(.int .i64 1), (.int .i64 2), (.slice sb2 1 1), (.slice eb2 3 3), (.slice tb2 1 1)]) 0 inf26 rfl rfl rfl rfl rfl rfl (by simp [putL]) ?_)
  refine TO.nil (T.seq (T.region ?_))
  refine TO.quiet (q_fieldAddr Try.underlying26 rfl inf24 rfl rfl) (TO.quiet (q_load_box 0 Try.underlying24 rfl rfl rfl rfl) ?_)
  refine TO.loud rfl (l_build1 (v := .int .i64 0) Try.underlying22 inf3 rfl rfl rfl (fun bx3 => ?_))
  refine TO.loud rfl (l_build1 (v := (.slice (some ⟨bx3, 0, none⟩) 1 1)) Try.underlying24 inf22 rfl rfl rfl (fun bx4 => ?_))
  refine TO.loud rfl (l_append 6 Try.underlying24 Try.underlying24 inf22 rfl rfl rfl rfl (by simp) (by decide) (Src.row (j := 0) rfl (by simp)) (by simp [oneB]) (by omega) (by decide) (by decide) (fun bx5 c6 => ?_))
  refine TO.quiet (q_fieldAddr Try.underlying26 rfl inf24 rfl rfl) ?_
  refine TO.loud rfl (l_store_box (v := (.slice bx5 (1 + 1) c6)) (vs := [(.slice bx5 (1 + 1) c6)]) 2 inf24 rfl rfl rfl rfl rfl rfl (by simp [putL]) ?_)
  refine TO.sub (O' := [rowI (some ⟨bx4, 0, none⟩) 1 22 1 [(.slice (some ⟨bx3, 0, none⟩) 1 1)], rowI (some ⟨bx3, 0, none⟩) 1 3 1 [.int .i64 0], oI bx2 26 [(.int .i64 1), (.int .i64 2), (.slice sb2 1 1), (.slice eb2 3 3), (.slice bx5 (1 + 1) c6)], oI bx1 26 [(.int .i64 1), (.int .i64 2), (.slice sb1 1 1), (.slice eb1 3 3), (.slice tb1 1 1)], rowI sb2 1 3 1 (ints alwB.start), rowI eb2 3 54 4 (edsC alwB.edges), rowI bx5 c6 22 1 ([(.slice qb2 1 1)] ++ [(.slice (some ⟨bx3, 0, none⟩) 1 1)]), rowI qb2 1 3 1 (ints [1]), rowI sb1 1 3 1 (ints alwB.start), rowI eb1 3 54 4 (edsC alwB.edges), rowI tb1 1 22 1 [(.slice qb1 1 1)], rowI qb1 1 3 1 (ints [1])]) (Sub.pick [0, 0, 0, 0, 0, 0, 0, 0, 0, 0, 0, 0] rfl) ?_
  refine TO.nil (T.seq ?_)
  
  refine T.region ?_
  refine TO.quiet (q_load_boxAgg 3 Try.underlying26 rfl inf26 rfl rfl rfl) ?_
  refine TO.loud rfl (l_build1 (v := .int .u8 0) Try.underlying27 inf5 rfl rfl rfl (fun bx7 => ?_))
  refine TO.loud rfl (l_build1 (v := .int .u8 1) Try.underlying27 inf5 rfl rfl rfl (fun bx8 => ?_))
  refine TO.quiet (q_build (cs := [(.slice (some ⟨bx7, 0, none⟩) 1 1), (.slice (some ⟨bx8, 0, none⟩) 1 1)]) plan29 inf29 (by kernel_rfl)) ?_
  have hk30 := fun (w1 : World) (hI : Inv w [rowI (some ⟨bx8, 0, none⟩) 1 5 1 [.int .u8 1], rowI (some ⟨bx7, 0, none⟩) 1 5 1 [.int .u8 0], rowI (some ⟨bx4, 0, none⟩) 1 22 1 [(.slice (some ⟨bx3, 0, none⟩) 1 1)], rowI (some ⟨bx3, 0, none⟩) 1 3 1 [.int .i64 0], oI bx2 26 [(.int .i64 1), (.int .i64 2), (.slice sb2 1 1), (.slice eb2 3 3), (.slice bx5 (1 + 1) c6)], oI bx1 26 [(.int .i64 1), (.int .i64 2), (.slice sb1 1 1), (.slice eb1 3 3), (.slice tb1 1 1)], rowI sb2 1 3 1 (ints alwB.start), rowI eb2 3 54 4 (edsC alwB.edges), rowI bx5 c6 22 1 ([(.slice qb2 1 1)] ++ [(.slice (some ⟨bx3, 0, none⟩) 1 1)]), rowI qb2 1 3 1 (ints [1]), rowI sb1 1 3 1 (ints alwB.start), rowI eb1 3 54 4 (edsC alwB.edges), rowI tb1 1 22 1 [(.slice qb1 1 1)], rowI qb1 1 3 1 (ints [1])] w1) => accAlw1 w1 sb1 eb1 tb1 1 3 1 [.slice qb1 1 1] ⟨(hI.slOf (List.mem_of_getElem? (i := 10) rfl)), (hI.slOf (List.mem_of_getElem? (i := 11) rfl)), (hI.slOf (List.mem_of_getElem? (i := 12) rfl)), (RowsR.cons (⟨rfl, fun i r h9 => by simp at h9⟩ : RowsR w1 [] []) (b := qb1) (c := 1) (hI.slOf (List.mem_of_getElem? (i := 13) rfl)))⟩ (some ⟨bx7, 0, none⟩) (some ⟨bx8, 0, none⟩) 1 1 ⟨(hI.slOf (List.mem_of_getElem? (i := 1) rfl)), (hI.slOf (List.mem_of_getElem? (i := 0) rfl)), Nat.le_refl _, Nat.le_refl _⟩
  refine TO.loud rfl (l_call ent17 (CallT.of_pure hk30) rfl ?_)
  clear hk30
  rintro vr O' ⟨N, rfl, rfl, rfl⟩
  refine TO.quiet (q_move rfl) (TO.quiet (q_extract (vs := _) rfl rfl) (TO.quiet (q_extract (vs := _) rfl rfl) (TO.quiet (q_assign rfl) ?_)))
  refine TO.quiet (q_assign rfl) ?_
  refine TO.nil (T.seq (T.region ?_))
  refine TO.quiet (q_load_boxAgg 5 Try.underlying26 rfl inf26 rfl rfl rfl) ?_
  refine TO.loud rfl (l_buildSlice (m := 2) (parts := [(0, .const (.int .u8 0)), (1, .const (.int .u8 1))]) (cs := [.int .u8 0, .int .u8 1]) Try.underlying27 inf5 (by decide) (by kernel_rfl) rfl (fun bx9 => ?_))
  refine TO.quiet (q_build (cs := [(.slice none 0 0), (.slice (some ⟨bx9, 0, none⟩) 2 2)]) plan29 inf29 (by kernel_rfl)) ?_
  have hk37 := fun (w1 : World) (hI : Inv w [rowI (some ⟨bx9, 0, none⟩) 2 5 1 [.int .u8 0, .int .u8 1], rowI (some ⟨bx8, 0, none⟩) 1 5 1 [.int .u8 1], rowI (some ⟨bx7, 0, none⟩) 1 5 1 [.int .u8 0], rowI (some ⟨bx4, 0, none⟩) 1 22 1 [(.slice (some ⟨bx3, 0, none⟩) 1 1)], rowI (some ⟨bx3, 0, none⟩) 1 3 1 [.int .i64 0], oI bx2 26 [(.int .i64 1), (.int .i64 2), (.slice sb2 1 1), (.slice eb2 3 3), (.slice bx5 (1 + 1) c6)], oI bx1 26 [(.int .i64 1), (.int .i64 2), (.slice sb1 1 1), (.slice eb1 3 3), (.slice tb1 1 1)], rowI sb2 1 3 1 (ints alwB.start), rowI eb2 3 54 4 (edsC alwB.edges), rowI bx5 c6 22 1 ([(.slice qb2 1 1)] ++ [(.slice (some ⟨bx3, 0, none⟩) 1 1)]), rowI qb2 1 3 1 (ints [1]), rowI sb1 1 3 1 (ints alwB.start), rowI eb1 3 54 4 (edsC alwB.edges), rowI tb1 1 22 1 [(.slice qb1 1 1)], rowI qb1 1 3 1 (ints [1])] w1) => accAlw2 w1 sb1 eb1 tb1 1 3 1 [.slice qb1 1 1] ⟨(hI.slOf (List.mem_of_getElem? (i := 11) rfl)), (hI.slOf (List.mem_of_getElem? (i := 12) rfl)), (hI.slOf (List.mem_of_getElem? (i := 13) rfl)), (RowsR.cons (⟨rfl, fun i r h9 => by simp at h9⟩ : RowsR w1 [] []) (b := qb1) (c := 1) (hI.slOf (List.mem_of_getElem? (i := 14) rfl)))⟩ none (some ⟨bx9, 0, none⟩) 0 2 ⟨Sl.nil _ _, (hI.slOf (List.mem_of_getElem? (i := 0) rfl)), Nat.le_refl _, Nat.le_refl _⟩
  refine TO.loud rfl (l_call ent17 (CallT.of_pure hk37) rfl ?_)
  clear hk37
  rintro vr O' ⟨N, rfl, rfl, rfl⟩
  refine TO.quiet (q_move rfl) (TO.quiet (q_extract (vs := _) rfl rfl) (TO.quiet (q_extract (vs := _) rfl rfl) (TO.quiet (q_assign rfl) ?_)))
  refine TO.quiet (q_assign rfl) ?_
  refine TO.nil (T.seq (T.region ?_))
  refine TO.quiet (q_load_boxAgg 6 Try.underlying26 rfl inf26 rfl rfl rfl) ?_
  have hk42 := fun (w1 : World) (hI : Inv w [rowI (some ⟨bx9, 0, none⟩) 2 5 1 [.int .u8 0, .int .u8 1], rowI (some ⟨bx8, 0, none⟩) 1 5 1 [.int .u8 1], rowI (some ⟨bx7, 0, none⟩) 1 5 1 [.int .u8 0], rowI (some ⟨bx4, 0, none⟩) 1 22 1 [(.slice (some ⟨bx3, 0, none⟩) 1 1)], rowI (some ⟨bx3, 0, none⟩) 1 3 1 [.int .i64 0], oI bx2 26 [(.int .i64 1), (.int .i64 2), (.slice sb2 1 1), (.slice eb2 3 3), (.slice bx5 (1 + 1) c6)], oI bx1 26 [(.int .i64 1), (.int .i64 2), (.slice sb1 1 1), (.slice eb1 3 3), (.slice tb1 1 1)], rowI sb2 1 3 1 (ints alwB.start), rowI eb2 3 54 4 (edsC alwB.edges), rowI bx5 c6 22 1 ([(.slice qb2 1 1)] ++ [(.slice (some ⟨bx3, 0, none⟩) 1 1)]), rowI qb2 1 3 1 (ints [1]), rowI sb1 1 3 1 (ints alwB.start), rowI eb1 3 54 4 (edsC alwB.edges), rowI tb1 1 22 1 [(.slice qb1 1 1)], rowI qb1 1 3 1 (ints [1])] w1) => livAlw w1 sb1 eb1 tb1 1 3 1 [.slice qb1 1 1] ⟨(hI.slOf (List.mem_of_getElem? (i := 11) rfl)), (hI.slOf (List.mem_of_getElem? (i := 12) rfl)), (hI.slOf (List.mem_of_getElem? (i := 13) rfl)), (RowsR.cons (⟨rfl, fun i r h9 => by simp at h9⟩ : RowsR w1 [] []) (b := qb1) (c := 1) (hI.slOf (List.mem_of_getElem? (i := 14) rfl)))⟩
  refine TO.loud rfl (l_call ent19 (CallT.of_pure hk42) rfl ?_)
  clear hk42
  rintro vr O' ⟨N, rfl, lb, lc, rfl, rfl⟩
  refine TO.quiet (q_move rfl) (TO.quiet (q_extract (vs := _) rfl rfl) (TO.quiet (q_extract (vs := _) rfl rfl) (TO.quiet (q_assign rfl) ?_)))
  refine TO.quiet (q_assign rfl) ?_
  refine TO.nil (T.seq (T.region ?_))
  refine TO.quiet (q_load_boxAgg 7 Try.underlying26 rfl inf26 rfl rfl rfl) ?_
  have hk47 := fun (w1 : World) (hI : Inv w [rowI lb lc 4 1 (bools [true, true]), rowI (some ⟨bx9, 0, none⟩) 2 5 1 [.int .u8 0, .int .u8 1], rowI (some ⟨bx8, 0, none⟩) 1 5 1 [.int .u8 1], rowI (some ⟨bx7, 0, none⟩) 1 5 1 [.int .u8 0], rowI (some ⟨bx4, 0, none⟩) 1 22 1 [(.slice (some ⟨bx3, 0, none⟩) 1 1)], rowI (some ⟨bx3, 0, none⟩) 1 3 1 [.int .i64 0], oI bx2 26 [(.int .i64 1), (.int .i64 2), (.slice sb2 1 1), (.slice eb2 3 3), (.slice bx5 (1 + 1) c6)], oI bx1 26 [(.int .i64 1), (.int .i64 2), (.slice sb1 1 1), (.slice eb1 3 3), (.slice tb1 1 1)], rowI sb2 1 3 1 (ints alwB.start), rowI eb2 3 54 4 (edsC alwB.edges), rowI bx5 c6 22 1 ([(.slice qb2 1 1)] ++ [(.slice (some ⟨bx3, 0, none⟩) 1 1)]), rowI qb2 1 3 1 (ints [1]), rowI sb1 1 3 1 (ints alwB.start), rowI eb1 3 54 4 (edsC alwB.edges), rowI tb1 1 22 1 [(.slice qb1 1 1)], rowI qb1 1 3 1 (ints [1])] w1) => witAlw w1 sb1 eb1 tb1 1 3 1 [.slice qb1 1 1] ⟨(hI.slOf (List.mem_of_getElem? (i := 12) rfl)), (hI.slOf (List.mem_of_getElem? (i := 13) rfl)), (hI.slOf (List.mem_of_getElem? (i := 14) rfl)), (RowsR.cons (⟨rfl, fun i r h9 => by simp at h9⟩ : RowsR w1 [] []) (b := qb1) (c := 1) (hI.slOf (List.mem_of_getElem? (i := 15) rfl)))⟩
  refine TO.loud rfl (l_call ent27 (CallT.of_pure hk47) rfl ?_)
  clear hk47
  rintro vr O' ⟨N, rfl, c, wp, wl, wpc, wlc, rfl, rfl, hw⟩
  refine TO.quiet (q_move rfl) (TO.quiet (q_extract (vs := _) rfl rfl) (TO.quiet (q_extract (vs := _) rfl rfl) ?_))
  refine TO.loud rfl (l_alloc inf29 rfl (fun bx10 => ?_))
  refine TO.loud rfl (l_store_box (v := (.agg (laCells c wp wpc wl wlc).toArray)) (vs := (laCells c wp wpc wl wlc)) 0 inf29 rfl rfl rfl rfl rfl rfl (by simp [putL]) ?_)
  refine TO.quiet (q_assign rfl) ?_
  refine TO.nil (T.seq (T.region ?_))
  refine TO.quiet (q_load_boxAgg 9 Try.underlying26 rfl inf26 rfl rfl rfl) ?_
  have hk52 := fun (w1 : World) (hI : Inv w [oI bx10 29 (laCells c wp wpc wl wlc), rowI wp wpc 5 1 (byts c.pre), rowI wl wlc 5 1 (byts c.loop), rowI lb lc 4 1 (bools [true, true]), rowI (some ⟨bx9, 0, none⟩) 2 5 1 [.int .u8 0, .int .u8 1], rowI (some ⟨bx8, 0, none⟩) 1 5 1 [.int .u8 1], rowI (some ⟨bx7, 0, none⟩) 1 5 1 [.int .u8 0], rowI (some ⟨bx4, 0, none⟩) 1 22 1 [(.slice (some ⟨bx3, 0, none⟩) 1 1)], rowI (some ⟨bx3, 0, none⟩) 1 3 1 [.int .i64 0], oI bx2 26 [(.int .i64 1), (.int .i64 2), (.slice sb2 1 1), (.slice eb2 3 3), (.slice bx5 (1 + 1) c6)], oI bx1 26 [(.int .i64 1), (.int .i64 2), (.slice sb1 1 1), (.slice eb1 3 3), (.slice tb1 1 1)], rowI sb2 1 3 1 (ints alwB.start), rowI eb2 3 54 4 (edsC alwB.edges), rowI bx5 c6 22 1 ([(.slice qb2 1 1)] ++ [(.slice (some ⟨bx3, 0, none⟩) 1 1)]), rowI qb2 1 3 1 (ints [1]), rowI sb1 1 3 1 (ints alwB.start), rowI eb1 3 54 4 (edsC alwB.edges), rowI tb1 1 22 1 [(.slice qb1 1 1)], rowI qb1 1 3 1 (ints [1])] w1) => witAlwC w1 sb2 eb2 bx5 1 3 c6 [.slice qb2 1 1, .slice (some ⟨bx3, 0, none⟩) 1 1] ⟨(hI.slOf (List.mem_of_getElem? (i := 11) rfl)), (hI.slOf (List.mem_of_getElem? (i := 12) rfl)), (hI.slOf (List.mem_of_getElem? (i := 13) rfl)), (RowsR.cons (RowsR.cons (⟨rfl, fun i r h9 => by simp at h9⟩ : RowsR w1 [] []) (b := (some ⟨bx3, 0, none⟩)) (c := 1) (hI.slOf (List.mem_of_getElem? (i := 8) rfl))) (b := qb2) (c := 1) (hI.slOf (List.mem_of_getElem? (i := 14) rfl)))⟩
  refine TO.loud rfl (l_call ent27 (CallT.of_pure hk52) rfl ?_)
  clear hk52
  rintro vr O' ⟨N, rfl, xp, xl, xpc, xlc, rfl, rfl⟩
  refine TO.quiet (q_move rfl) (TO.quiet (q_extract (vs := _) rfl rfl) (TO.quiet (q_extract (vs := _) rfl rfl) ?_))
  refine TO.loud rfl (l_alloc inf29 rfl (fun bx11 => ?_))
  refine TO.loud rfl (l_store_box (v := (.agg #[(.slice xp 0 xpc), (.slice xl 0 xlc)])) (vs := [(.slice xp 0 xpc), (.slice xl 0 xlc)]) 0 inf29 rfl rfl rfl rfl rfl rfl (by simp [putL]) ?_)
  refine TO.quiet (q_assign rfl) ?_
  refine TO.nil (T.seq (T.region ?_))
  refine TO.quiet (q_load_boxAgg 12 Try.underlying26 rfl inf26 rfl rfl rfl) ?_
  have hk57 := fun (w1 : World) (hI : Inv w [oI bx11 29 [(.slice xp 0 xpc), (.slice xl 0 xlc)], rowI xp xpc 5 1 [], rowI xl xlc 5 1 [], oI bx10 29 (laCells c wp wpc wl wlc), rowI wp wpc 5 1 (byts c.pre), rowI wl wlc 5 1 (byts c.loop), rowI lb lc 4 1 (bools [true, true]), rowI (some ⟨bx9, 0, none⟩) 2 5 1 [.int .u8 0, .int .u8 1], rowI (some ⟨bx8, 0, none⟩) 1 5 1 [.int .u8 1], rowI (some ⟨bx7, 0, none⟩) 1 5 1 [.int .u8 0], rowI (some ⟨bx4, 0, none⟩) 1 22 1 [(.slice (some ⟨bx3, 0, none⟩) 1 1)], rowI (some ⟨bx3, 0, none⟩) 1 3 1 [.int .i64 0], oI bx2 26 [(.int .i64 1), (.int .i64 2), (.slice sb2 1 1), (.slice eb2 3 3), (.slice bx5 (1 + 1) c6)], oI bx1 26 [(.int .i64 1), (.int .i64 2), (.slice sb1 1 1), (.slice eb1 3 3), (.slice tb1 1 1)], rowI sb2 1 3 1 (ints alwB.start), rowI eb2 3 54 4 (edsC alwB.edges), rowI bx5 c6 22 1 ([(.slice qb2 1 1)] ++ [(.slice (some ⟨bx3, 0, none⟩) 1 1)]), rowI qb2 1 3 1 (ints [1]), rowI sb1 1 3 1 (ints alwB.start), rowI eb1 3 54 4 (edsC alwB.edges), rowI tb1 1 22 1 [(.slice qb1 1 1)], rowI qb1 1 3 1 (ints [1])] w1) => trmAlwC w1 sb2 eb2 bx5 1 3 c6 [.slice qb2 1 1, .slice (some ⟨bx3, 0, none⟩) 1 1] ⟨(hI.slOf (List.mem_of_getElem? (i := 14) rfl)), (hI.slOf (List.mem_of_getElem? (i := 15) rfl)), (hI.slOf (List.mem_of_getElem? (i := 16) rfl)), (RowsR.cons (RowsR.cons (⟨rfl, fun i r h9 => by simp at h9⟩ : RowsR w1 [] []) (b := (some ⟨bx3, 0, none⟩)) (c := 1) (hI.slOf (List.mem_of_getElem? (i := 11) rfl))) (b := qb2) (c := 1) (hI.slOf (List.mem_of_getElem? (i := 17) rfl)))⟩
  refine TO.loud rfl (l_call ent28 (CallT.of_pure hk57) rfl ?_)
  clear hk57
  rintro vr O' ⟨N, rfl, z0, s3, n1, c3, e3, n2, d3, t3, f3, rfl⟩
  refine TO.sub (O' := ([oI bx11 29 [(.slice xp 0 xpc), (.slice xl 0 xlc)], rowI xp xpc 5 1 [], rowI xl xlc 5 1 [], oI bx10 29 (laCells c wp wpc wl wlc), rowI wp wpc 5 1 (byts c.pre), rowI wl wlc 5 1 (byts c.loop), rowI lb lc 4 1 (bools [true, true]), rowI (some ⟨bx9, 0, none⟩) 2 5 1 [.int .u8 0, .int .u8 1], rowI (some ⟨bx8, 0, none⟩) 1 5 1 [.int .u8 1], rowI (some ⟨bx7, 0, none⟩) 1 5 1 [.int .u8 0], rowI (some ⟨bx4, 0, none⟩) 1 22 1 [(.slice (some ⟨bx3, 0, none⟩) 1 1)], rowI (some ⟨bx3, 0, none⟩) 1 3 1 [.int .i64 0], oI bx2 26 [(.int .i64 1), (.int .i64 2), (.slice sb2 1 1), (.slice eb2 3 3), (.slice bx5 (1 + 1) c6)], oI bx1 26 [(.int .i64 1), (.int .i64 2), (.slice sb1 1 1), (.slice eb1 3 3), (.slice tb1 1 1)], rowI sb2 1 3 1 (ints alwB.start), rowI eb2 3 54 4 (edsC alwB.edges), rowI bx5 c6 22 1 ([(.slice qb2 1 1)] ++ [(.slice (some ⟨bx3, 0, none⟩) 1 1)]), rowI qb2 1 3 1 (ints [1]), rowI sb1 1 3 1 (ints alwB.start), rowI eb1 3 54 4 (edsC alwB.edges), rowI tb1 1 22 1 [(.slice qb1 1 1)], rowI qb1 1 3 1 (ints [1])] ++ N)) (Sub.cnt [] (by intro a; simp only [itms, oI, List.set_cons_zero, List.set_cons_succ, putL, List.cons_append, List.nil_append, List.append_nil, List.append_assoc, List.map_append, List.map_cons, List.map_nil, cnt_append, cnt_cons, cnt_nil, buCells, laCells] <;> omega)) ?_
  refine TO.quiet (q_move rfl) (TO.quiet (q_extract (vs := _) rfl rfl) (TO.quiet (q_extract (vs := _) rfl rfl) ?_))
  refine TO.loud rfl (l_alloc inf26 rfl (fun bx12 => ?_))
  refine TO.loud rfl (l_store_box (v := (.agg #[(.int .i64 z0), (.int .i64 0), (.slice s3 n1 c3), (.slice e3 n2 d3), (.slice t3 2 f3)])) (vs := [(.int .i64 z0), (.int .i64 0), (.slice s3 n1 c3), (.slice e3 n2 d3), (.slice t3 2 f3)]) 0 inf26 rfl rfl rfl rfl rfl rfl (by simp [putL]) ?_)
  refine TO.quiet (q_assign rfl) ?_
  refine TO.nil (T.seq (T.region ?_))
  refine TO.quiet (q_load_boxAgg 14 Try.underlying26 rfl inf26 rfl rfl rfl) (TO.quiet (q_load_boxAgg 4 Try.underlying29 rfl inf29 rfl rfl rfl) ?_)
  have hk63 := fun (w1 : World) (hI : Inv w ([oI bx12 26 [(.int .i64 z0), (.int .i64 0), (.slice s3 n1 c3), (.slice e3 n2 d3), (.slice t3 2 f3)], oI bx11 29 [(.slice xp 0 xpc), (.slice xl 0 xlc)], rowI xp xpc 5 1 [], rowI xl xlc 5 1 [], oI bx10 29 (laCells c wp wpc wl wlc), rowI wp wpc 5 1 (byts c.pre), rowI wl wlc 5 1 (byts c.loop), rowI lb lc 4 1 (bools [true, true]), rowI (some ⟨bx9, 0, none⟩) 2 5 1 [.int .u8 0, .int .u8 1], rowI (some ⟨bx8, 0, none⟩) 1 5 1 [.int .u8 1], rowI (some ⟨bx7, 0, none⟩) 1 5 1 [.int .u8 0], rowI (some ⟨bx4, 0, none⟩) 1 22 1 [(.slice (some ⟨bx3, 0, none⟩) 1 1)], rowI (some ⟨bx3, 0, none⟩) 1 3 1 [.int .i64 0], oI bx2 26 [(.int .i64 1), (.int .i64 2), (.slice sb2 1 1), (.slice eb2 3 3), (.slice bx5 (1 + 1) c6)], oI bx1 26 [(.int .i64 1), (.int .i64 2), (.slice sb1 1 1), (.slice eb1 3 3), (.slice tb1 1 1)], rowI sb2 1 3 1 (ints alwB.start), rowI eb2 3 54 4 (edsC alwB.edges), rowI bx5 c6 22 1 ([(.slice qb2 1 1)] ++ [(.slice (some ⟨bx3, 0, none⟩) 1 1)]), rowI qb2 1 3 1 (ints [1]), rowI sb1 1 3 1 (ints alwB.start), rowI eb1 3 54 4 (edsC alwB.edges), rowI tb1 1 22 1 [(.slice qb1 1 1)], rowI qb1 1 3 1 (ints [1])] ++ N) w1) => accWit w1 sb1 eb1 tb1 1 3 1 [.slice qb1 1 1] ⟨(hI.slOf (List.mem_of_getElem? (i := 19) rfl)), (hI.slOf (List.mem_of_getElem? (i := 20) rfl)), (hI.slOf (List.mem_of_getElem? (i := 21) rfl)), (RowsR.cons (⟨rfl, fun i r h9 => by simp at h9⟩ : RowsR w1 [] []) (b := qb1) (c := 1) (hI.slOf (List.mem_of_getElem? (i := 22) rfl)))⟩ c hw wp wl wpc wlc ⟨(hI.slOf (List.mem_of_getElem? (i := 5) rfl)), (hI.slOf (List.mem_of_getElem? (i := 6) rfl)), by have h9 := rowP.cap (hI.row (i := 5) rfl); simpa using h9, by have h9 := rowP.cap (hI.row (i := 6) rfl); simpa using h9⟩
  refine TO.loud rfl (l_call ent17 (CallT.of_pure hk63) rfl ?_)
  clear hk63
  rintro vr O' ⟨N, rfl, rfl, rfl⟩
  refine TO.quiet (q_move rfl) (TO.quiet (q_extract (vs := _) rfl rfl) (TO.quiet (q_extract (vs := _) rfl rfl) (TO.quiet (q_assign rfl) ?_)))
  refine TO.quiet (q_assign rfl) ?_
  refine TO.nil (T.seq (T.region ?_))
  refine TO.quiet (q_move rfl) (TO.quiet (q_move rfl) ?_)
  refine TO.guarded rfl rfl rfl (LT.of_quiet rfl rfl (q_move rfl) ?_)
  refine TO.guarded rfl rfl rfl (LT.of_quiet rfl rfl (q_not rfl) ?_)
  refine TO.quiet (q_pick1 rfl rfl) (TO.quiet (q_move rfl) ?_)
  refine TO.guarded rfl rfl rfl (LT.of_quiet rfl rfl (q_move rfl) ?_)
  refine TO.guarded rfl rfl rfl (LT.of_quiet rfl rfl (q_eql rfl rfl) ?_)
  refine TO.quiet (q_pick1 rfl rfl) (TO.quiet (q_move rfl) ?_)
  refine TO.guarded rfl rfl rfl (LT.of_quiet rfl rfl (q_move rfl) ?_)
  refine TO.guarded rfl rfl rfl (LT.of_quiet rfl rfl (q_eql rfl rfl) ?_)
  refine TO.quiet (q_pick1 rfl rfl) (TO.quiet (q_move rfl) ?_)
  refine TO.guarded rfl rfl rfl (LT.of_quiet rfl rfl (q_move rfl) ?_)
  refine TO.guarded rfl rfl rfl (LT.of_quiet rfl rfl (q_eql rfl rfl) ?_)
  refine TO.quiet (q_pick1 rfl rfl) (TO.quiet (q_move rfl) ?_)
  refine TO.guarded rfl rfl rfl (LT.of_quiet rfl rfl (q_move rfl) ?_)
  refine TO.guarded rfl rfl rfl (l_buildSlice (m := 2) (parts := [(0, .const (.bool true)), (1, .const (.bool true))]) (cs := [.bool true, .bool true]) Try.underlying39 inf4 (by decide) (by kernel_rfl) rfl (fun bx13 => ?_))
  have hk86 := fun (w1 : World) (hI : Inv w ([rowI (some ⟨bx13, 0, none⟩) 2 4 1 [.bool true, .bool true], oI bx12 26 [(.int .i64 z0), (.int .i64 0), (.slice s3 n1 c3), (.slice e3 n2 d3), (.slice t3 2 f3)], oI bx11 29 [(.slice xp 0 xpc), (.slice xl 0 xlc)], rowI xp xpc 5 1 [], rowI xl xlc 5 1 [], oI bx10 29 (laCells c wp wpc wl wlc), rowI wp wpc 5 1 (byts c.pre), rowI wl wlc 5 1 (byts c.loop), rowI lb lc 4 1 (bools [true, true]), rowI (some ⟨bx9, 0, none⟩) 2 5 1 [.int .u8 0, .int .u8 1], rowI (some ⟨bx8, 0, none⟩) 1 5 1 [.int .u8 1], rowI (some ⟨bx7, 0, none⟩) 1 5 1 [.int .u8 0], rowI (some ⟨bx4, 0, none⟩) 1 22 1 [(.slice (some ⟨bx3, 0, none⟩) 1 1)], rowI (some ⟨bx3, 0, none⟩) 1 3 1 [.int .i64 0], oI bx2 26 [(.int .i64 1), (.int .i64 2), (.slice sb2 1 1), (.slice eb2 3 3), (.slice bx5 (1 + 1) c6)], oI bx1 26 [(.int .i64 1), (.int .i64 2), (.slice sb1 1 1), (.slice eb1 3 3), (.slice tb1 1 1)], rowI sb2 1 3 1 (ints alwB.start), rowI eb2 3 54 4 (edsC alwB.edges), rowI bx5 c6 22 1 ([(.slice qb2 1 1)] ++ [(.slice (some ⟨bx3, 0, none⟩) 1 1)]), rowI qb2 1 3 1 (ints [1]), rowI sb1 1 3 1 (ints alwB.start), rowI eb1 3 54 4 (edsC alwB.edges), rowI tb1 1 22 1 [(.slice qb1 1 1)], rowI qb1 1 3 1 (ints [1])] ++ N) w1) => equalBools w1 lb (some ⟨bx13, 0, none⟩) lc 2 [true, true] [true, true] (hI.slOf (List.mem_of_getElem? (i := 8) rfl)) (hI.slOf (List.mem_of_getElem? (i := 0) rfl)) (by decide)
  refine TO.guarded rfl rfl rfl (l_call ent23 (CallT.of_pure hk86) rfl ?_)
  clear hk86
  rintro vr O' ⟨N, rfl, rfl, rfl⟩
  refine TO.quiet (q_pick1 rfl rfl) (TO.quiet (q_move rfl) ?_)
  refine TO.guarded rfl rfl rfl (LT.of_quiet rfl rfl (q_move rfl) ?_)
  refine TO.guarded rfl rfl rfl (LT.of_quiet rfl rfl (q_eql rfl rfl) ?_)
  refine TO.quiet (q_pick1 rfl rfl) (TO.quiet (q_move rfl) ?_)
  refine TO.guarded rfl rfl rfl (LT.of_quiet rfl rfl (q_move rfl) ?_)
  refine TO.quiet (q_pick1 rfl rfl) (TO.quiet (q_move rfl) ?_)
  refine TO.guarded rfl rfl rfl (LT.of_quiet rfl rfl (q_move rfl) ?_)
  refine TO.guarded rfl rfl rfl (LT.of_quiet rfl rfl (q_eql rfl rfl) ?_)
  refine TO.quiet (q_pick1 rfl rfl) (TO.quiet (q_move rfl) ?_)
  refine TO.guarded rfl rfl rfl (LT.of_quiet rfl rfl (q_move rfl) ?_)
  refine TO.guarded rfl rfl rfl (LT.of_quiet rfl rfl (q_eql rfl rfl) ?_)
  refine TO.quiet (q_pick1 rfl rfl) (TO.quiet (q_move rfl) ?_)
  refine TO.guarded rfl rfl rfl (LT.of_quiet rfl rfl (q_move rfl) ?_)
  refine TO.guarded rfl rfl rfl (LT.of_quiet rfl rfl (q_eql rfl rfl) ?_)
  refine TO.quiet (q_pick1 rfl rfl) (TO.quiet (q_move rfl) ?_)
  refine TO.guarded rfl rfl rfl (LT.of_quiet rfl rfl (q_fieldAddr Try.underlying26 rfl inf3 rfl rfl) ?_)
  refine TO.guarded rfl rfl rfl (LT.of_quiet rfl rfl (q_load_box 1 Try.underlying3 rfl rfl rfl rfl) ?_)
  refine TO.guarded rfl rfl rfl (LT.of_quiet rfl rfl (q_eql rfl rfl) ?_)
  refine TO.quiet (q_pick1 rfl rfl) (TO.quiet (q_move rfl) ?_)
  refine TO.guarded rfl rfl rfl (LT.of_quiet rfl rfl (q_fieldAddr Try.underlying26 rfl inf24 rfl rfl) ?_)
  refine TO.guarded rfl rfl rfl (LT.of_quiet rfl rfl (q_load_box 1 Try.underlying24 rfl rfl rfl rfl) ?_)
  refine TO.guarded rfl rfl rfl (LT.of_quiet rfl rfl (q_len Try.underlying24 rfl) ?_)
  refine TO.guarded rfl rfl rfl (LT.of_quiet rfl rfl (q_eql rfl rfl) ?_)
  refine TO.quiet (q_pick1 rfl rfl) (TO.quiet (q_assign rfl) ?_)
  refine TO.nil (T.ret (Res.drop ?_))
  refine Res.one (.bool true) Try.results14 rfl ?_
  exact ⟨[], (Sub.pick0 [] [rowI (some ⟨bx13, 0, none⟩) 2 4 1 [.bool true, .bool true], oI bx12 26 [(.int .i64 z0), (.int .i64 0), (.slice s3 n1 c3), (.slice e3 n2 d3), (.slice t3 2 f3)], oI bx11 29 [(.slice xp 0 xpc), (.slice xl 0 xlc)], rowI xp xpc 5 1 [], rowI xl xlc 5 1 [], oI bx10 29 (laCells c wp wpc wl wlc), rowI wp wpc 5 1 (byts c.pre), rowI wl wlc 5 1 (byts c.loop), rowI lb lc 4 1 (bools [true, true]), rowI (some ⟨bx9, 0, none⟩) 2 5 1 [.int .u8 0, .int .u8 1], rowI (some ⟨bx8, 0, none⟩) 1 5 1 [.int .u8 1], rowI (some ⟨bx7, 0, none⟩) 1 5 1 [.int .u8 0], rowI (some ⟨bx4, 0, none⟩) 1 22 1 [(.slice (some ⟨bx3, 0, none⟩) 1 1)], rowI (some ⟨bx3, 0, none⟩) 1 3 1 [.int .i64 0], oI bx2 26 [(.int .i64 1), (.int .i64 2), (.slice sb2 1 1), (.slice eb2 3 3), (.slice bx5 (1 + 1) c6)], oI bx1 26 [(.int .i64 1), (.int .i64 2), (.slice sb1 1 1), (.slice eb1 3 3), (.slice tb1 1 1)], rowI sb2 1 3 1 (ints alwB.start), rowI eb2 3 54 4 (edsC alwB.edges), rowI bx5 c6 22 1 ([(.slice qb2 1 1)] ++ [(.slice (some ⟨bx3, 0, none⟩) 1 1)]), rowI qb2 1 3 1 (ints [1]), rowI sb1 1 3 1 (ints alwB.start), rowI eb1 3 54 4 (edsC alwB.edges), rowI tb1 1 22 1 [(.slice qb1 1 1)], rowI qb1 1 3 1 (ints [1])] N rfl rfl), rfl, rfl⟩
end Go.Proofs.Ytnamoapbienooaa

namespace Go.Proofs.Ytnamoapbienooaa
open Go.Lx Go.RowKit
set_option linter.unusedVariables false
set_option linter.unusedSimpArgs false
set_option maxHeartbeats 1000000 in
set_option maxRecDepth 20000 in
theorem reachF (w : World) (b : Bu) (sb eb tb : Option Addr) (sc ec tc : Nat) (ab nb : Option Addr) (ac nc : Nat) (vs : List Value) (nx : List (List Int)) (hS : Sl w nb vs) (hR : RowsR w vs nx) (hn : nx.length ≤ 1000000) (hrl : ∀ r ∈ nx, r.length ≤ 1000000) (hval : okRows nx) (v0 : Nat) (hv0 : v0 < nx.length) :
    PureT Try.prog 83 [.agg #[(.int .i64 b.vars), (.int .i64 b.states), (.slice sb b.start.length sc), (.slice eb b.edges.length ec), (.slice tb b.sets.length tc), (.slice ab nx.length ac), (.slice nb nx.length nc)], .int .i64 (v0 : Int)] w fun v N => ∃ rb rc rs, v = .slice rb nx.length rc ∧ N = [rowI rb rc 4 1 (bools rs)] ∧ rs.length = nx.length ∧ ∀ x, x < nx.length → (rs.getD x false = true ↔ ∃ u, adjE nx v0 u ∧ Rch (adjE nx) u x) := by
  refine CallT.enter Try.func83 rfl Try.ntmps83 rfl ?_
  refine T.seq (T.region ?_)
  refine TO.loud rfl (l_box (v := (.agg #[(.int .i64 b.vars), (.int .i64 b.states), (.slice sb b.start.length sc), (.slice eb b.edges.length ec), (.slice tb b.sets.length tc), (.slice ab nx.length ac), (.slice nb nx.length nc)])) (cs := [(.int .i64 b.vars), (.int .i64 b.states), (.slice sb b.start.length sc), (.slice eb b.edges.length ec), (.slice tb b.sets.length tc), (.slice ab nx.length ac), (.slice nb nx.length nc)]) rfl rfl (fun bx1 => ?_))
  refine TO.quiet (q_assign rfl) ?_
  refine TO.nil (T.seq (T.region ?_))
  refine TO.quiet (q_fieldAddr Try.underlying91 rfl inf22 rfl rfl) (TO.quiet (q_load_box 0 Try.underlying22 rfl rfl rfl rfl) (TO.quiet (q_len Try.underlying22 rfl) ?_))
  refine TO.loud rfl (l_makeSlice (m := nx.length) Try.underlying39 inf4 rfl rfl (by omega) (by omega) (fun bx2 => ?_))
  refine TO.quiet (q_assign rfl) ?_
  refine TO.nil (T.seq (T.region ?_))
  refine TO.quiet (q_move rfl) ?_
  refine TO.loud rfl (l_build1 (v := .int .i64 (v0 : Int)) Try.underlying22 inf3 rfl rfl rfl (fun bx3 => ?_))
  refine TO.quiet (q_assign rfl) ?_
  refine TO.nil (T.seq (T.block ?_))
  refine T.sub (O' := [rowI (some ⟨bx2, 0, none⟩) nx.length 4 1 (List.replicate nx.length (.bool false)), rowI (some ⟨bx3, 0, none⟩) 1 3 1 [.int .i64 (v0 : Int)], oI bx1 91 [(.int .i64 b.vars), (.int .i64 b.states), (.slice sb b.start.length sc), (.slice eb b.edges.length ec), (.slice tb b.sets.length tc), (.slice ab nx.length ac), (.slice nb nx.length nc)]]) (Sub.pick [1, 0, 0] rfl) ?_
  refine T.loop (fun (M : Nat) ρ O => ∃ (ks : List Bool) (todo : List Nat) (qb : Option Addr) (qc cur jl : Nat), O = [rowI (some ⟨bx2, 0, none⟩) nx.length 4 1 (bools ks), rowI qb qc 3 1 (nats todo), oI bx1 91 [(.int .i64 b.vars), (.int .i64 b.states), (.slice sb b.start.length sc), (.slice eb b.edges.length ec), (.slice tb b.sets.length tc), (.slice ab nx.length ac), (.slice nb nx.length nc)]] ∧ SeaP nx (fun _ => true) [] (fun u => u = v0) ks todo 0 cur jl ∧ (∀ r, nx[cur]? = some r → r.length ≤ jl) ∧ todo.length + ks.count false = M ∧ Heads [(0, (.agg #[(.int .i64 b.vars), (.int .i64 b.states), (.slice sb b.start.length sc), (.slice eb b.edges.length ec), (.slice tb b.sets.length tc), (.slice ab nx.length ac), (.slice nb nx.length nc)])), (1, .int .i64 (v0 : Int)), (2, (.pointer (some ⟨bx1, 0, none⟩))), (4, (.slice none 0 0)), (5, (.slice (some ⟨bx2, 0, none⟩) nx.length nx.length)), (6, (.slice qb todo.length qc))] ρ) (fun M => M) (1 + (List.replicate nx.length false).count false) ?_ ?_
  · exact ⟨List.replicate nx.length false, [v0], (some ⟨bx3, 0, none⟩), 1, nx.length, 0, by simp only [List.map_replicate]; rfl, SeaP.start0 (fun u => u = v0) (fun u hu => by rw [hu]; simp) (fun u hu => by have h9 := List.mem_singleton.1 hu; exact ⟨by rw [h9]; exact hv0, h9⟩) (Nat.le_refl _), (fun r hr => by rw [List.getElem?_eq_none (Nat.le_refl _)] at hr; cases hr), rfl, ⟨rfl, rfl, rfl, rfl, rfl, rfl, trivial⟩⟩
  rintro M ρ O ⟨ks, todo, qb, qc, cur, jl, rfl, hsb, hjl, hM, hH⟩
  obtain ⟨ρ0, rfl⟩ := hH.elim
  clear hH
  have hkb : ks.length = nx.length := hsb.l
  have hmb := hsb.mu
  refine T.seq (T.seq (T.region ?_))
  refine TO.quiet (q_move rfl) (TO.quiet (q_len Try.underlying22 rfl) (TO.quiet (q_gtr rfl rfl) ?_))
  refine TO.nil ?_
  refine T.condP rfl (fun hc => ?_) (fun hc => ?_)
  · have hlt17 : todo.length > 0 := by omega
    obtain ⟨u, rest, htd⟩ : ∃ u rest, todo = u :: rest := List.exists_cons_of_length_pos (by omega)
    refine T.skip (T.block (T.seq (T.region ?_)))
    refine TO.quiet (q_move rfl) (TO.quiet (q_ix (i := 0) Try.underlying22 inf3 rfl rfl (rowO (List.mem_of_getElem? (i := 1) rfl))) (TO.quiet (q_ld Try.underlying3 rfl rfl (rowO (List.mem_of_getElem? (i := 1) rfl)) (show (nats todo)[0]? = some (.int .i64 ((u : Nat) : Int)) by rw [htd]; rfl)) (TO.quiet (q_assign rfl) ?_)))
    refine TO.nil (T.seq (T.region ?_))
    refine TO.quiet (q_move rfl) ?_
    refine TO.loud rfl (l_tail 1 Try.underlying22 inf3 (by decide) rfl rfl rfl (by simp) (by omega) (fun bx4 => ?_))
    refine TO.quiet (q_assign rfl) ?_
    refine TO.nil (T.seq (T.region ?_))
    refine TO.quiet (q_assign rfl) ?_
    refine TO.nil (T.block ?_)
    have hun : u < nx.length := (hsb.td u (by rw [htd]; simp)).1
    have hku : u = v0 ∨ ks.getD u false = true := (hsb.td u (by rw [htd]; simp)).2
    have htl : todo.length = todo.tail.length + 1 := by rw [htd]; rfl
    have hp : SeaP nx (fun _ => true) [] (fun u => u = v0) ks todo.tail 0 u 0 := by
      rw [htd] at hsb ⊢; exact hsb.pop hjl
    obtain ⟨rb1, rc1, g1, s1⟩ := hR.get hun
    have hrl1 := hrl _ (List.getElem_mem hun)
    refine T.loopS (fun (j : Nat) ρ O => ∃ (k3 : List Bool) (t3 : List Nat) (tb3 : Option Addr) (tc3 : Nat), O = [rowI (some ⟨bx2, 0, none⟩) nx.length 4 1 (bools k3), rowI tb3 tc3 3 1 (nats t3), oI bx1 91 [(.int .i64 b.vars), (.int .i64 b.states), (.slice sb b.start.length sc), (.slice eb b.edges.length ec), (.slice tb b.sets.length tc), (.slice ab nx.length ac), (.slice nb nx.length nc)]] ∧ j ≤ nx[u].length ∧ SeaP nx (fun _ => true) [] (fun u => u = v0) k3 t3 0 u j ∧ t3.length + k3.count false + 1 = M ∧ (u = v0 ∨ k3.getD u false = true) ∧ Heads [(0, (.agg #[(.int .i64 b.vars), (.int .i64 b.states), (.slice sb b.start.length sc), (.slice eb b.edges.length ec), (.slice tb b.sets.length tc), (.slice ab nx.length ac), (.slice nb nx.length nc)])), (1, .int .i64 (v0 : Int)), (2, (.pointer (some ⟨bx1, 0, none⟩))), (4, (.slice none 0 0)), (5, (.slice (some ⟨bx2, 0, none⟩) nx.length nx.length)), (6, (.slice tb3 t3.length tc3)), (7, .int .i64 ((u : Nat) : Int)), (8, .int .i64 (j : Int))] ρ) (fun j => nx[u].length - j) 0 ?_ ?_
    · exact ⟨ks, todo.tail, bx4, qc - 1, (by rw [show nats todo.tail = (nats todo).drop 1 by cases todo <;> rfl]; rfl), Nat.zero_le _, hp, by omega, hku, ⟨rfl, rfl, rfl, rfl, rfl, (by rw [List.length_tail]; rfl), rfl, rfl, trivial⟩⟩
    rintro j ρ O ⟨k3, t3, tb3, tc3, rfl, hj, hs3, hM3, hk3, hH⟩
    obtain ⟨ρ0, rfl⟩ := hH.elim
    clear hH
    have hkc : k3.length = nx.length := hs3.l
    have hmc := hs3.mu
    refine T.seq (T.seq (T.region ?_))
    refine TO.quiet (q_move rfl) (TO.quiet (q_fieldAddr Try.underlying91 rfl inf24 rfl rfl) (TO.quiet (q_load_box 2 Try.underlying24 rfl rfl rfl rfl) (TO.quiet (q_move rfl) ?_)))
    refine TO.quiet (q_ix (i := u) Try.underlying24 inf22 rfl rfl (Sl.o hS) (by first | assumption | omega | (simp; omega) | simp_all) (by rw [hR.1]; exact hun)) (TO.quiet (q_ld Try.underlying22 rfl rfl (Sl.o hS) g1) (TO.quiet (q_len Try.underlying22 rfl) (TO.quiet (q_lss rfl rfl) ?_)))
    refine TO.nil ?_
    refine T.condP rfl (fun hc => ?_) (fun hc => ?_)
    · have hlt30 : j < nx[u].length := by omega
      obtain ⟨y, hy, hyn⟩ : ∃ y : Nat, nx[u][j] = (y : Int) ∧ y < nx.length := by
        have h9 := hval _ (List.getElem_mem hun) _ (List.getElem_mem hlt30)
        exact ⟨nx[u][j].toNat, by omega, by omega⟩
      refine T.skip (T.seq (T.block (T.seq (T.region ?_))))
      refine TO.quiet (q_move rfl) (TO.quiet (q_fieldAddr Try.underlying91 rfl inf24 rfl rfl) (TO.quiet (q_load_box 2 Try.underlying24 rfl rfl rfl rfl) (TO.quiet (q_move rfl) ?_)))
      refine TO.quiet (q_ix (i := u) Try.underlying24 inf22 rfl rfl (Sl.o hS) (by first | assumption | omega | (simp; omega) | simp_all) (by rw [hR.1]; exact hun)) (TO.quiet (q_ld Try.underlying22 rfl rfl (Sl.o hS) g1) (TO.quiet (q_move rfl) (TO.quiet (q_ix (i := j) Try.underlying22 inf3 rfl rfl (Sl.o s1)) ?_)))
      refine TO.quiet (q_ld Try.underlying3 rfl rfl (Sl.o s1) (show (ints nx[u])[j]? = _ by rw [ints_get hlt30, hy])) (TO.quiet (q_ix (i := y) Try.underlying39 inf4 rfl rfl (rowO (List.mem_of_getElem? (i := 0) rfl))) (TO.quiet (q_ld Try.underlying4 rfl rfl (rowO (List.mem_of_getElem? (i := 0) rfl)) bools_get) (TO.quiet (q_not rfl) ?_)))
      refine TO.nil ?_
      refine T.cond rfl (fun hc => ?_) (fun hc => ?_)
      · refine T.seq ?_
        refine T.region ?_
        refine TO.quiet (q_move rfl) (TO.quiet (q_fieldAddr Try.underlying91 rfl inf24 rfl rfl) (TO.quiet (q_load_box 2 Try.underlying24 rfl rfl rfl rfl) (TO.quiet (q_move rfl) ?_)))
        refine TO.quiet (q_ix (i := u) Try.underlying24 inf22 rfl rfl (Sl.o hS) (by first | assumption | omega | (simp; omega) | simp_all) (by rw [hR.1]; exact hun)) (TO.quiet (q_ld Try.underlying22 rfl rfl (Sl.o hS) g1) (TO.quiet (q_move rfl) (TO.quiet (q_ix (i := j) Try.underlying22 inf3 rfl rfl (Sl.o s1)) ?_)))
        refine TO.quiet (q_ld Try.underlying3 rfl rfl (Sl.o s1) (show (ints nx[u])[j]? = _ by rw [ints_get hlt30, hy])) (TO.quiet (q_ix (i := y) Try.underlying39 inf4 rfl rfl (rowO (List.mem_of_getElem? (i := 0) rfl))) ?_)
        refine TO.loud rfl (l_st (j := y) (v := .bool true) (vs := [(.bool true)]) (cs := bools k3) 0 inf4 rfl rfl rfl rfl rfl (by simp) rfl (by first | (simp; omega) | (simp_all; omega)) ?_)
        refine TO.sub (O' := [rowI (some ⟨bx2, 0, none⟩) nx.length 4 1 (bools (k3.set y true)), rowI tb3 tc3 3 1 (nats t3), oI bx1 91 [(.int .i64 b.vars), (.int .i64 b.states), (.slice sb b.start.length sc), (.slice eb b.edges.length ec), (.slice tb b.sets.length tc), (.slice ab nx.length ac), (.slice nb nx.length nc)]]) (by rw [show putL (bools k3) y [(.bool true)] = bools (k3.set y true) from (by simp [putL])]; exact Sub.of (List.Sublist.refl _)) ?_
        refine TO.nil (T.region ?_)
        refine TO.quiet (q_move rfl) (TO.quiet (q_fieldAddr Try.underlying91 rfl inf24 rfl rfl) (TO.quiet (q_load_box 2 Try.underlying24 rfl rfl rfl rfl) (TO.quiet (q_move rfl) ?_)))
        refine TO.quiet (q_ix (i := u) Try.underlying24 inf22 rfl rfl (Sl.o hS) (by first | assumption | omega | (simp; omega) | simp_all) (by rw [hR.1]; exact hun)) (TO.quiet (q_ld Try.underlying22 rfl rfl (Sl.o hS) g1) (TO.quiet (q_move rfl) (TO.quiet (q_ix (i := j) Try.underlying22 inf3 rfl rfl (Sl.o s1)) ?_)))
        refine TO.quiet (q_ld Try.underlying3 rfl rfl (Sl.o s1) (show (ints nx[u])[j]? = _ by rw [ints_get hlt30, hy])) ?_
        refine TO.loud rfl (l_build1 (v := .int .i64 ((y : Nat) : Int)) Try.underlying22 inf3 rfl rfl rfl (fun bx5 => ?_))
        refine TO.loud rfl (l_append 2 Try.underlying22 Try.underlying22 inf3 rfl rfl rfl rfl (by simp) (by decide) (Src.row (j := 0) rfl (by simp)) (by simp [oneB]) (by omega) (by decide) (by decide) (fun bx6 c7 => ?_))
        refine TO.quiet (q_assign rfl) ?_
        refine TO.nil (T.region ?_)
        refine TO.quiet (q_move rfl) (TO.quiet (q_addN (a := j) (b := 1) rfl rfl (by omega)) (TO.quiet (q_assign rfl) ?_))
        refine TO.nil ?_
        have hed3 := hs3.edge hun hk3 hlt30 hy hyn
        have hvis := vis_hit (al := fun _ => true) (keep := k3) (todo := t3) (v := y) rfl (by rw [gb (by omega)]; simp_all)
        rw [hvis.1, hvis.2] at hed3
        exact ⟨j + 1, by omega, [rowI (some ⟨bx2, 0, none⟩) nx.length 4 1 (bools (k3.set y true)), rowI bx6 c7 3 1 ((nats t3) ++ [.int .i64 ((y : Nat) : Int)]), oI bx1 91 [(.int .i64 b.vars), (.int .i64 b.states), (.slice sb b.start.length sc), (.slice eb b.edges.length ec), (.slice tb b.sets.length tc), (.slice ab nx.length ac), (.slice nb nx.length nc)]], (Sub.pick [1, 1, 1] rfl), k3.set y true, t3 ++ [y], bx6, c7, (by rw [show nats (t3 ++ [y]) = nats t3 ++ [.int .i64 ((y : Nat) : Int)] from List.map_append]), by omega, hed3.1, by have := hed3.2; omega, hk3.imp id (fun q => by have h9 := SeaP.edge_mono (fun _ => true) (v := y) q; rw [hvis.1] at h9; exact h9), ⟨rfl, rfl, rfl, rfl, rfl, (by rw [List.length_append]; rfl), rfl, rfl, trivial⟩⟩
      refine T.skip (T.region ?_)
      refine TO.quiet (q_move rfl) (TO.quiet (q_addN (a := j) (b := 1) rfl rfl (by omega)) (TO.quiet (q_assign rfl) ?_))
      refine TO.nil ?_
      have hed3 := hs3.edge hun hk3 hlt30 hy hyn
      have hvis := vis_miss (al := fun _ => true) (keep := k3) (todo := t3) (v := y) (by rw [gb (by omega)]; simp_all)
      rw [hvis.1, hvis.2] at hed3
      exact ⟨j + 1, by omega, [rowI (some ⟨bx2, 0, none⟩) nx.length 4 1 (bools k3), rowI tb3 tc3 3 1 (nats t3), oI bx1 91 [(.int .i64 b.vars), (.int .i64 b.states), (.slice sb b.start.length sc), (.slice eb b.edges.length ec), (.slice tb b.sets.length tc), (.slice ab nx.length ac), (.slice nb nx.length nc)]], (Sub.pick [0, 0, 0] rfl), k3, t3, tb3, tc3, rfl, by omega, hed3.1, by omega, hk3, ⟨rfl, rfl, rfl, rfl, rfl, rfl, rfl, rfl, trivial⟩⟩
    have hge30 : ¬ j < nx[u].length := by omega
    refine T.exit ?_
    exact ⟨M - 1, by omega, k3, t3, tb3, tc3, u, j, rfl, hs3, (fun r hr => by rw [List.getElem?_eq_getElem hun] at hr; cases hr; omega), by omega, ⟨rfl, rfl, rfl, rfl, rfl, rfl, trivial⟩⟩
  have hge17 : ¬ todo.length > 0 := by omega
  refine T.exit ?_
  refine T.seq (T.region ?_)
  refine TO.quiet (q_move rfl) (TO.quiet (q_assign rfl) ?_)
  refine TO.nil (T.ret (Res.drop ?_))
  refine Res.one (.slice (some ⟨bx2, 0, none⟩) nx.length nx.length) Try.results83 rfl ?_
  have htn : todo = [] := List.eq_nil_of_length_eq_zero (by omega)
  exact ⟨[rowI (some ⟨bx2, 0, none⟩) nx.length 4 1 (bools ks)], (Sub.pick [0] rfl), _, _, ks, rfl, rfl, hkb, fun x hx => by
    rw [htn] at hsb
    have h9 := hsb.done hval (Nat.zero_le _) hjl x
    rw [h9, ← rea_all]
    simp only [List.not_mem_nil]⟩
end Go.Proofs.Ytnamoapbienooaa

namespace Go.Lx
open Go.RowKit
set_option linter.unusedVariables false
structure BR where
  b : Option Addr
  c : Nat
  xs : List Bool
def BR.val (q : BR) : Value := .slice q.b q.xs.length q.c
def BR.itm (E : TypeId) (q : BR) : Item := rowI q.b q.c E 1 (bools q.xs)
abbrev bvs (qs : List BR) : List Value := qs.map BR.val
abbrev bis (E : TypeId) (qs : List BR) : List Item := qs.map (BR.itm E)
theorem bvs_at {qs : List BR} {c : Nat} (h : c < qs.length) : (bvs qs)[c]? = some (.slice qs[c].b qs[c].xs.length qs[c].c) := by simp [h, BR.val]
theorem bis_at {E : TypeId} {qs : List BR} {c : Nat} (h : c < qs.length) {X : List Item} : rowI qs[c].b qs[c].c E 1 (bools qs[c].xs) ∈ X ++ bis E qs := List.mem_append_right _ (List.mem_map.2 ⟨qs[c], List.getElem_mem h, rfl⟩)
theorem fill_row {A : List Value} {n k : Nat} {z v : Value} (hA : A.length = k) (hk : k < n) : putL (A ++ List.replicate (n - k) z) k [v] = (A ++ [v]) ++ List.replicate (n - (k + 1)) z := by
  show (A ++ List.replicate (n - k) z).set k v = _
  rw [List.set_append, if_neg (by omega), hA, Nat.sub_self, show n - k = (n - (k + 1)) + 1 by omega, List.replicate_succ, List.set_cons_zero, List.append_assoc]
  rfl
theorem bvs_fill {qs : List BR} {n k : Nat} {b : Option Addr} {c : Nat} {rs : List Bool} {z : Value} (hA : qs.length = k) (hk : k < n) : putL (bvs qs ++ List.replicate (n - k) z) k [.slice b rs.length c] = (bvs (qs ++ [⟨b, c, rs⟩])) ++ List.replicate (n - (k + 1)) z := by
  rw [fill_row (by simpa using hA) hk]; simp [bvs, BR.val]
def RP (E : Nat → Nat → Prop) (v x : Nat) : Prop := ∃ u, E v u ∧ Rch E u x
structure AllP (nx : List (List Int)) (k : Nat) (qs : List BR) : Prop where
  l : qs.length = k
  h : ∀ i (h : i < qs.length), qs[i].xs.length = nx.length ∧ ∀ x, x < nx.length → (qs[i].xs.getD x false = true ↔ RP (adjE nx) i x)
theorem AllP.snoc {nx : List (List Int)} {k : Nat} {qs : List BR} (h : AllP nx k qs) {b : Option Addr} {c : Nat} {rs : List Bool} (hl : rs.length = nx.length) (hr : ∀ x, x < nx.length → (rs.getD x false = true ↔ RP (adjE nx) k x)) : AllP nx (k + 1) (qs ++ [⟨b, c, rs⟩]) := by
  have hl9 := h.l
  refine ⟨by simp [h.l], fun i hi => ?_⟩
  by_cases e : i < qs.length
  · rw [List.getElem_append_left e]; exact h.h i e
  · have : i = k := by rw [List.length_append, List.length_singleton] at hi; omega
    subst this
    rw [List.getElem_append_right (by omega)]
    simp only [hl9, Nat.sub_self, List.getElem_cons_zero]
    exact ⟨hl, hr⟩
theorem AllP.ln {nx : List (List Int)} {k : Nat} {qs : List BR} (h : AllP nx k qs) {i : Nat} (hi : i < qs.length) : qs[i].xs.length = nx.length := (h.h i hi).1
theorem AllP.at {nx : List (List Int)} {k : Nat} {qs : List BR} (h : AllP nx k qs) {i x : Nat} (hi : i < qs.length) (hx : x < qs[i].xs.length) : qs[i].xs[x] = true ↔ RP (adjE nx) i x := by
  have h1 := h.h i hi
  rw [← h1.2 x (by rw [← h1.1]; exact hx), gb hx]
section
variable {E : Nat → Nat → Prop} {M : Nat → Nat → Prop} {m : Nat}
def HasK (E : Nat → Nat → Prop) (M : Nat → Nat → Prop) (v k x : Nat) : Prop := M k x ∧ (x = v ∨ RP E v x ∧ RP E x v)
theorem RP.rch {u v : Nat} (h : RP E u v) : Rch E u v := by obtain ⟨x, h1, h2⟩ := h; exact .step h1 h2
theorem rch_rp {u v : Nat} (h : Rch E u v) : u = v ∨ RP E u v := by
  cases h with
  | refl => exact .inl rfl
  | step e h => exact .inr ⟨_, e, h⟩
theorem core_rp {v : Nat} : Core E m M v ↔ RP E v v ∧ ∀ k, k < m → ∃ x, HasK E M v k x := by
  unfold Core
  constructor
  · rintro ⟨h1, h2⟩
    refine ⟨h1, fun k hk => ?_⟩
    obtain ⟨u, h3, h4, h5⟩ := h2 k hk
    refine ⟨u, h3, ?_⟩
    rcases rch_rp h4 with e | e
    · exact .inl e.symm
    · rcases rch_rp h5 with e2 | e2
      · exact .inl e2
      · exact .inr ⟨e, e2⟩
  · rintro ⟨h1, h2⟩
    refine ⟨h1, fun k hk => ?_⟩
    obtain ⟨u, h3, h4⟩ := h2 k hk
    rcases h4 with rfl | ⟨h4, h5⟩
    · exact ⟨u, h3, .refl _, .refl _⟩
    · exact ⟨u, h3, h4.rch, h5.rch⟩
theorem live_rp {v : Nat} : LiveG E m M v ↔ Core E m M v ∨ ∃ x, RP E v x ∧ Core E m M x := by
  unfold LiveG
  constructor
  · rintro ⟨u, h1, h2⟩
    rcases rch_rp h1 with rfl | e
    · exact .inl h2
    · exact .inr ⟨u, e, h2⟩
  · rintro (h | ⟨x, h1, h2⟩)
    · exact ⟨v, .refl _, h⟩
    · exact ⟨x, h1.rch, h2⟩
end
def refM (b : Bu) (sa : List Nat) (n : Nat) (k u : Nat) : Prop := u < n ∧ ∃ S, b.sets[k]? = some S ∧ ((sa.getD u 0 : Nat) : Int) ∈ S
theorem RP.lt {nx : List (List Int)} (hok : okRows nx) {u v : Nat} (h : RP (adjE nx) u v) : v < nx.length := by
  obtain ⟨x, h1, h2⟩ := h
  have h3 := (adjE_lt hok h1).2
  clear h1
  induction h2 with
  | refl => exact h3
  | step e h ih => exact ih (adjE_lt hok e).2
section
variable {b : Bu} {sa : List Nat} {nx : List (List Int)} {qs : List BR}
abbrev coreR (b : Bu) (sa : List Nat) (nx : List (List Int)) (v : Nat) : Prop := Core (adjE nx) b.sets.length (refM b sa nx.length) v
abbrev liveR (b : Bu) (sa : List Nat) (nx : List (List Int)) (v : Nat) : Prop := LiveG (adjE nx) b.sets.length (refM b sa nx.length) v
def FoP (b : Bu) (sa : List Nat) (nx : List (List Int)) (v i u : Nat) (fo : Bool) : Prop := fo = true ↔ ∃ x, x < u ∧ HasK (adjE nx) (refM b sa nx.length) v i x
theorem FoP.start {v i : Nat} : FoP b sa nx v i 0 false := ⟨fun h => (by cases h), fun ⟨x, h, _⟩ => by omega⟩
theorem has_iff (ha : AllP nx nx.length qs) (hsl : sa.length = nx.length) {v i u : Nat} (hv : v < qs.length) (hu : u < qs.length) (hi : i < b.sets.length) (h1 : u < qs[v].xs.length) (h2 : v < qs[u].xs.length) (h3 : u < sa.length) : HasK (adjE nx) (refM b sa nx.length) v i u ↔ ((sa[u] : Nat) : Int) ∈ b.sets[i] ∧ (u = v ∨ (qs[v].xs[u] = true ∧ qs[u].xs[v] = true)) := by
  unfold HasK refM
  rw [ha.at hv h1, ha.at hu h2, List.getElem?_eq_getElem hi, gd h3]
  constructor
  · rintro ⟨⟨_, S, h, h4⟩, h5⟩; cases h; exact ⟨h4, h5⟩
  · rintro ⟨h4, h5⟩; exact ⟨⟨by omega, _, rfl, h4⟩, h5⟩
theorem FoP.step {v i u : Nat} {fo fo' : Bool} (h : FoP b sa nx v i u fo) (hf : ¬ fo = true) (hn : fo' = true ↔ HasK (adjE nx) (refM b sa nx.length) v i u) : FoP b sa nx v i (u + 1) fo' := by
  unfold FoP at h ⊢
  rw [hn]
  constructor
  · intro q; exact ⟨u, by omega, q⟩
  · rintro ⟨x, h1, h2⟩
    by_cases e : x = u
    · subst e; exact h2
    · exact absurd (h.2 ⟨x, by omega, h2⟩) hf
theorem FoP.done {v i u : Nat} {fo : Bool} (h : FoP b sa nx v i u fo) (he : fo = true ∨ nx.length ≤ u) : fo = true ↔ ∃ x, HasK (adjE nx) (refM b sa nx.length) v i x := by
  constructor
  · intro q; obtain ⟨x, _, h2⟩ := h.1 q; exact ⟨x, h2⟩
  · rintro ⟨x, h2⟩
    rcases he with he | he
    · exact he
    · exact h.2 ⟨x, by have := h2.1.1; omega, h2⟩
def CoP (b : Bu) (sa : List Nat) (nx : List (List Int)) (v i : Nat) (co : Bool) : Prop := co = true ↔ RP (adjE nx) v v ∧ ∀ k, k < i → ∃ x, HasK (adjE nx) (refM b sa nx.length) v k x
theorem CoP.start {v : Nat} {c : Bool} (h : c = true ↔ RP (adjE nx) v v) : CoP b sa nx v 0 c := h.trans ⟨fun q => ⟨q, fun k hk => by omega⟩, fun q => q.1⟩
theorem CoP.step {v i : Nat} {co fo : Bool} (h : CoP b sa nx v i co) (hc : co = true) (hf : fo = true ↔ ∃ x, HasK (adjE nx) (refM b sa nx.length) v i x) : CoP b sa nx v (i + 1) fo := by
  have h1 := h.1 hc
  unfold CoP
  rw [hf]
  constructor
  · intro q
    refine ⟨h1.1, fun k hk => ?_⟩
    by_cases e : k = i
    · subst e; exact q
    · exact h1.2 k (by omega)
  · intro q; exact q.2 i (by omega)
theorem CoP.done {v i : Nat} {co : Bool} (h : CoP b sa nx v i co) (hi : i ≤ b.sets.length) (he : ¬ co = true ∨ b.sets.length ≤ i) : co = true ↔ coreR b sa nx v := by
  unfold coreR
  rw [core_rp]
  constructor
  · intro q
    obtain ⟨h1, h2⟩ := h.1 q
    refine ⟨h1, fun k hk => h2 k ?_⟩
    rcases he with he | he
    · exact absurd q he
    · omega
  · rintro ⟨h1, h2⟩; exact h.2 ⟨h1, fun k hk => h2 k (by omega)⟩
def LiP (b : Bu) (sa : List Nat) (nx : List (List Int)) (v u : Nat) (li : Bool) : Prop := li = true ↔ coreR b sa nx v ∨ ∃ x, x < u ∧ RP (adjE nx) v x ∧ coreR b sa nx x
theorem LiP.start {v : Nat} {c : Bool} (h : c = true ↔ coreR b sa nx v) : LiP b sa nx v 0 c := h.trans ⟨.inl, fun q => q.elim id (fun ⟨x, h, _⟩ => by omega)⟩
theorem LiP.step {v u : Nat} {li li' : Bool} (h : LiP b sa nx v u li) (hf : ¬ li = true) (hn : li' = true ↔ RP (adjE nx) v u ∧ coreR b sa nx u) : LiP b sa nx v (u + 1) li' := by
  unfold LiP at h ⊢
  rw [hn]
  constructor
  · intro q; exact .inr ⟨u, by omega, q⟩
  · rintro (q | ⟨x, h1, h2⟩)
    · exact absurd (h.2 (.inl q)) hf
    · by_cases e : x = u
      · subst e; exact h2
      · exact absurd (h.2 (.inr ⟨x, by omega, h2⟩)) hf
theorem LiP.done (hok : okRows nx) {v u : Nat} {li : Bool} (h : LiP b sa nx v u li) (he : li = true ∨ nx.length ≤ u) : li = true ↔ liveR b sa nx v := by
  unfold liveR
  rw [live_rp]
  constructor
  · intro q; exact (h.1 q).imp id (fun ⟨x, _, h2⟩ => ⟨x, h2⟩)
  · intro q
    rcases he with he | he
    · exact he
    · exact h.2 (q.imp id (fun ⟨x, h1, h2⟩ => ⟨x, by have := h1.lt hok; omega, h1, h2⟩))
def TabP (n k : Nat) (P : Nat → Prop) (cs : List Bool) : Prop := cs.length = n ∧ ∀ v, v < k → (cs.getD v false = true ↔ P v)
theorem TabP.start {n : Nat} {P : Nat → Prop} : TabP n 0 P (List.replicate n false) := ⟨by simp, fun v h => by omega⟩
theorem TabP.step {n k : Nat} {P : Nat → Prop} {cs : List Bool} (h : TabP n k P cs) (hk : k < n) {c : Bool} (hc : c = true ↔ P k) : TabP n (k + 1) P (cs.set k c) := by
  refine ⟨by simp [h.1], fun v hv => ?_⟩
  rw [getB_set (by rw [h.1]; exact hk)]
  by_cases e : v = k
  · subst e; rw [if_pos rfl]; exact hc
  · rw [if_neg e]; exact h.2 v (by omega)
theorem TabP.at {n k : Nat} {P : Nat → Prop} {cs : List Bool} (h : TabP n k P cs) {v : Nat} (hv : v < k) (hl : v < cs.length) : cs[v] = true ↔ P v := by rw [← h.2 v hv, gb hl]
end
end Go.Lx

namespace Go.Proofs.Ytnamoapbienooaa
open Go.Lx Go.RowKit
set_option linter.unusedVariables false
set_option linter.unusedSimpArgs false
set_option maxHeartbeats 4000000 in
set_option maxRecDepth 20000 in
theorem goodF (w : World) (b : Bu) (sb eb tb : Option Addr) (sc ec tc : Nat) (vs : List Value) (h : BuAt w b sb eb tb vs) (hB : BuB b) (ab nb : Option Addr) (ac nc : Nat) (vx : List Value) (nx : List (List Int)) (sa : List Nat) (hS : Sl w nb vx) (hR : RowsR w vx nx) (hSA : Sl w ab (nats sa)) (hsal : sa.length = nx.length) (hn : nx.length ≤ 1000000) (hrl : ∀ r ∈ nx, r.length ≤ 1000000) (hval : okRows nx) :
    PureT Try.prog 61 [.agg #[(.int .i64 b.vars), (.int .i64 b.states), (.slice sb b.start.length sc), (.slice eb b.edges.length ec), (.slice tb b.sets.length tc), (.slice ab nx.length ac), (.slice nb nx.length nc)]] w fun v N => ∃ rb rc rs, v = .slice rb nx.length rc ∧ N = [rowI rb rc 4 1 (bools rs)] ∧ TabP nx.length nx.length (liveR b sa nx) rs := by
  refine CallT.enter Try.func61 rfl Try.ntmps61 rfl ?_
  have hse := hB.se
  refine T.seq (T.region ?_)
  refine TO.loud rfl (l_box (v := (.agg #[(.int .i64 b.vars), (.int .i64 b.states), (.slice sb b.start.length sc), (.slice eb b.edges.length ec), (.slice tb b.sets.length tc), (.slice ab nx.length ac), (.slice nb nx.length nc)])) (cs := [(.int .i64 b.vars), (.int .i64 b.states), (.slice sb b.start.length sc), (.slice eb b.edges.length ec), (.slice tb b.sets.length tc), (.slice ab nx.length ac), (.slice nb nx.length nc)]) rfl rfl (fun bx1 => ?_))
  refine TO.quiet (q_assign rfl) ?_
  refine TO.nil (T.seq (T.region ?_))
  refine TO.quiet (q_fieldAddr Try.underlying91 rfl inf22 rfl rfl) (TO.quiet (q_load_box 0 Try.underlying22 rfl rfl rfl rfl) (TO.quiet (q_len Try.underlying22 rfl) (TO.quiet (q_assign rfl) ?_)))
  refine TO.nil (T.seq (T.region ?_))
  refine TO.quiet (q_move rfl) ?_
  refine TO.loud rfl (l_makeSlice (m := nx.length) Try.underlying126 inf39 rfl rfl (by omega) (by omega) (fun bx2 => ?_))
  refine TO.quiet (q_assign rfl) ?_
  refine TO.nil (T.seq (T.seq (T.region ?_)))
  refine TO.quiet (q_assign rfl) ?_
  refine TO.nil (T.block ?_)
  refine T.sub (O' := [rowI (some ⟨bx2, 0, none⟩) nx.length 39 1 (List.replicate nx.length (.slice none 0 0)), oI bx1 91 [(.int .i64 b.vars), (.int .i64 b.states), (.slice sb b.start.length sc), (.slice eb b.edges.length ec), (.slice tb b.sets.length tc), (.slice ab nx.length ac), (.slice nb nx.length nc)]] ++ bis 4 []) (Sub.of (List.Sublist.refl _)) ?_
  refine T.loop (fun (k : Nat) ρ O => ∃ (qs : List BR), O = ([rowI (some ⟨bx2, 0, none⟩) nx.length 39 1 ((bvs qs) ++ (List.replicate (nx.length - k) (.slice none 0 0))), oI bx1 91 [(.int .i64 b.vars), (.int .i64 b.states), (.slice sb b.start.length sc), (.slice eb b.edges.length ec), (.slice tb b.sets.length tc), (.slice ab nx.length ac), (.slice nb nx.length nc)]] ++ (bis 4 qs)) ∧ k ≤ nx.length ∧ AllP nx k qs ∧ Heads [(0, (.agg #[(.int .i64 b.vars), (.int .i64 b.states), (.slice sb b.start.length sc), (.slice eb b.edges.length ec), (.slice tb b.sets.length tc), (.slice ab nx.length ac), (.slice nb nx.length nc)])), (1, (.pointer (some ⟨bx1, 0, none⟩))), (2, (.slice none 0 0)), (3, .int .i64 (nx.length : Int)), (4, (.slice (some ⟨bx2, 0, none⟩) nx.length nx.length)), (5, .int .i64 (k : Int))] ρ) (fun k => nx.length - k) 0 ?_ ?_
  · exact ⟨[], rfl, Nat.zero_le _, ⟨rfl, fun i h => absurd h (Nat.not_lt_zero _)⟩, ⟨rfl, rfl, rfl, rfl, rfl, rfl, trivial⟩⟩
  rintro k ρ O ⟨qs, rfl, hk, hA, hH⟩
  obtain ⟨ρ0, rfl⟩ := hH.elim
  clear hH
  have hql := hA.l
  refine T.seq (T.seq (T.region ?_))
  refine TO.quiet (q_move rfl) (TO.quiet (q_move rfl) (TO.quiet (q_lss rfl rfl) ?_))
  refine TO.nil ?_
  refine T.condP rfl (fun hc => ?_) (fun hc => ?_)
  · have hlt21 : k < nx.length := by omega
    refine T.skip (T.seq (T.block (T.region ?_)))
    refine TO.quiet (q_move rfl) (TO.quiet (q_move rfl) (TO.quiet (q_load_boxAgg 1 Try.underlying91 rfl inf91 rfl rfl rfl) (TO.quiet (q_move rfl) ?_)))
    have hk28 := fun (w1 : World) (hI : Inv w ([rowI (some ⟨bx2, 0, none⟩) nx.length 39 1 ((bvs qs) ++ (List.replicate (nx.length - k) (.slice none 0 0))), oI bx1 91 [(.int .i64 b.vars), (.int .i64 b.states), (.slice sb b.start.length sc), (.slice eb b.edges.length ec), (.slice tb b.sets.length tc), (.slice ab nx.length ac), (.slice nb nx.length nc)]] ++ (bis 4 qs)) w1) => reachF w1 b sb eb tb sc ec tc ab nb ac nc vx nx (hI.sl hS) (hI.rows hR) hn hrl hval k (by omega)
    refine TO.loud rfl (l_call ent83 (CallT.of_pure hk28) rfl ?_)
    clear hk28
    rintro vr O' ⟨N, rfl, rb, rc, rs, rfl, rfl, hrs, hrp⟩
    refine TO.quiet (q_ix (i := k) Try.underlying126 inf39 rfl rfl (rowO (List.mem_of_getElem? (i := 1) rfl))) ?_
    refine TO.loud rfl (l_st (j := k) (v := (.slice rb nx.length rc)) (vs := [(.slice rb nx.length rc)]) (cs := (bvs qs) ++ (List.replicate (nx.length - k) (.slice none 0 0))) 1 inf39 rfl rfl rfl rfl rfl (by simp) rfl (by first | (simp; omega) | (simp_all; omega)) ?_)
    refine TO.sub (O' := ([rowI rb rc 4 1 (bools rs), rowI (some ⟨bx2, 0, none⟩) nx.length 39 1 ((bvs (qs ++ [⟨rb, rc, rs⟩])) ++ (List.replicate (nx.length - (k + 1)) (.slice none 0 0))), oI bx1 91 [(.int .i64 b.vars), (.int .i64 b.states), (.slice sb b.start.length sc), (.slice eb b.edges.length ec), (.slice tb b.sets.length tc), (.slice ab nx.length ac), (.slice nb nx.length nc)]] ++ (bis 4 qs))) (by rw [show putL ((bvs qs) ++ (List.replicate (nx.length - k) (.slice none 0 0))) k [(.slice rb nx.length rc)] = (bvs (qs ++ [⟨rb, rc, rs⟩])) ++ (List.replicate (nx.length - (k + 1)) (.slice none 0 0)) from (by rw [← hrs]; exact bvs_fill hA.l (by omega))]; exact Sub.of (List.Sublist.refl _)) ?_
    refine TO.sub (O' := [rowI rb rc 4 1 (bools rs), rowI (some ⟨bx2, 0, none⟩) nx.length 39 1 ((bvs (qs ++ [⟨rb, rc, rs⟩])) ++ (List.replicate (nx.length - (k + 1)) (.slice none 0 0))), oI bx1 91 [(.int .i64 b.vars), (.int .i64 b.states), (.slice sb b.start.length sc), (.slice eb b.edges.length ec), (.slice tb b.sets.length tc), (.slice ab nx.length ac), (.slice nb nx.length nc)]] ++ bis 4 qs) (Sub.pickR [0, 0, 0] [rowI rb rc 4 1 (bools rs), rowI (some ⟨bx2, 0, none⟩) nx.length 39 1 ((bvs (qs ++ [⟨rb, rc, rs⟩])) ++ (List.replicate (nx.length - (k + 1)) (.slice none 0 0))), oI bx1 91 [(.int .i64 b.vars), (.int .i64 b.states), (.slice sb b.start.length sc), (.slice eb b.edges.length ec), (.slice tb b.sets.length tc), (.slice ab nx.length ac), (.slice nb nx.length nc)]] (bis 4 qs) rfl rfl) ?_
    refine TO.sub (O' := [rowI (some ⟨bx2, 0, none⟩) nx.length 39 1 ((bvs (qs ++ [⟨rb, rc, rs⟩])) ++ (List.replicate (nx.length - (k + 1)) (.slice none 0 0))), oI bx1 91 [(.int .i64 b.vars), (.int .i64 b.states), (.slice sb b.start.length sc), (.slice eb b.edges.length ec), (.slice tb b.sets.length tc), (.slice ab nx.length ac), (.slice nb nx.length nc)]] ++ bis 4 (qs ++ [⟨rb, rc, rs⟩])) (Sub.cnt [] (by intro a; simp only [bis, BR.itm, oI, List.set_cons_zero, List.set_cons_succ, putL, List.cons_append, List.nil_append, List.append_nil, List.append_assoc, List.map_append, List.map_cons, List.map_nil, cnt_append, cnt_cons, cnt_nil, buCells, laCells] <;> omega)) ?_
    refine TO.nil (T.region ?_)
    refine TO.quiet (q_move rfl) (TO.quiet (q_addN (a := k) (b := 1) rfl rfl (by omega)) (TO.quiet (q_assign rfl) ?_))
    refine TO.nil ?_
    exact ⟨k + 1, by omega, qs ++ [⟨rb, rc, rs⟩], rfl, by omega, hA.snoc hrs hrp, ⟨rfl, rfl, rfl, rfl, rfl, rfl, trivial⟩⟩
  have hge21 : ¬ k < nx.length := by omega
  refine T.exit ?_
  refine T.seq (T.region ?_)
  refine TO.quiet (q_move rfl) ?_
  refine TO.loud rfl (l_makeSlice (m := nx.length) Try.underlying39 inf4 rfl rfl (by omega) (by omega) (fun bx3 => ?_))
  refine TO.quiet (q_assign rfl) ?_
  refine TO.nil (T.seq (T.seq (T.region ?_)))
  refine TO.quiet (q_assign rfl) ?_
  refine TO.nil (T.block ?_)
  have hke : k = nx.length := by omega
  have e9 : bvs qs ++ List.replicate (nx.length - k) (Value.slice none 0 0) = bvs qs := by rw [hke]; simp
  refine T.sub (O' := [rowI (some ⟨bx3, 0, none⟩) nx.length 4 1 (List.replicate nx.length (.bool false)), rowI (some ⟨bx2, 0, none⟩) nx.length 39 1 (bvs qs), oI bx1 91 [(.int .i64 b.vars), (.int .i64 b.states), (.slice sb b.start.length sc), (.slice eb b.edges.length ec), (.slice tb b.sets.length tc), (.slice ab nx.length ac), (.slice nb nx.length nc)]] ++ bis 4 qs) (by rw [e9]; exact Sub.of (List.Sublist.refl _)) ?_
  rw [hke] at hA hql
  refine T.loop (fun (k2 : Nat) ρ O => ∃ (cs : List Bool), O = ([rowI (some ⟨bx3, 0, none⟩) nx.length 4 1 (bools cs), rowI (some ⟨bx2, 0, none⟩) nx.length 39 1 (bvs qs), oI bx1 91 [(.int .i64 b.vars), (.int .i64 b.states), (.slice sb b.start.length sc), (.slice eb b.edges.length ec), (.slice tb b.sets.length tc), (.slice ab nx.length ac), (.slice nb nx.length nc)]] ++ (bis 4 qs)) ∧ k2 ≤ nx.length ∧ TabP nx.length k2 (coreR b sa nx) cs ∧ Heads [(0, (.agg #[(.int .i64 b.vars), (.int .i64 b.states), (.slice sb b.start.length sc), (.slice eb b.edges.length ec), (.slice tb b.sets.length tc), (.slice ab nx.length ac), (.slice nb nx.length nc)])), (1, (.pointer (some ⟨bx1, 0, none⟩))), (2, (.slice none 0 0)), (3, .int .i64 (nx.length : Int)), (4, (.slice (some ⟨bx2, 0, none⟩) nx.length nx.length)), (5, .int .i64 (k : Int)), (6, (.slice (some ⟨bx3, 0, none⟩) nx.length nx.length)), (7, .int .i64 (k2 : Int))] ρ) (fun k2 => nx.length - k2) 0 ?_ ?_
  · exact ⟨List.replicate nx.length false, by first | rfl | simp only [List.map_replicate], Nat.zero_le _, TabP.start, ⟨rfl, rfl, rfl, rfl, rfl, rfl, rfl, rfl, trivial⟩⟩
  rintro k2 ρ O ⟨cs, rfl, hk2, hC, hH⟩
  obtain ⟨ρ0, rfl⟩ := hH.elim
  clear hH
  have hcl := hC.1
  refine T.seq (T.seq (T.region ?_))
  refine TO.quiet (q_move rfl) (TO.quiet (q_move rfl) (TO.quiet (q_lss rfl rfl) ?_))
  refine TO.nil ?_
  refine T.condP rfl (fun hc => ?_) (fun hc => ?_)
  · have hlt34 : k2 < nx.length := by omega
    have hq2 : k2 < qs.length := by rw [hA.l]; exact hlt34
    have hx2 := hA.ln hq2
    refine T.skip (T.seq (T.block (T.seq (T.region ?_))))
    refine TO.quiet (q_move rfl) (TO.quiet (q_move rfl) (TO.quiet (q_move rfl) (TO.quiet (q_move rfl) ?_)))
    refine TO.quiet (q_ix (i := k2) Try.underlying126 inf39 rfl rfl (rowO (List.mem_of_getElem? (i := 1) rfl))) (TO.quiet (q_ld Try.underlying39 rfl rfl (rowO (List.mem_of_getElem? (i := 1) rfl)) (bvs_at hq2)) (TO.quiet (q_move rfl) (TO.quiet (q_ix (i := k2) Try.underlying39 inf4 rfl rfl (fun w hI => hI.slOf (bis_at (E := 4) hq2))) ?_)))
    refine TO.quiet (q_ld Try.underlying4 rfl rfl (fun w hI => hI.slOf (bis_at (E := 4) hq2)) bools_get) (TO.quiet (q_ix (i := k2) Try.underlying39 inf4 rfl rfl (rowO (List.mem_of_getElem? (i := 0) rfl))) ?_)
    refine TO.loud rfl (l_st (j := k2) (v := .bool qs[k2].xs[k2]) (vs := [(.bool qs[k2].xs[k2])]) (cs := bools cs) 0 inf4 rfl rfl rfl rfl rfl (by simp) rfl (by first | (simp; omega) | (simp_all; omega)) ?_)
    refine TO.sub (O' := ([rowI (some ⟨bx3, 0, none⟩) nx.length 4 1 (bools (cs.set k2 qs[k2].xs[k2])), rowI (some ⟨bx2, 0, none⟩) nx.length 39 1 (bvs qs), oI bx1 91 [(.int .i64 b.vars), (.int .i64 b.states), (.slice sb b.start.length sc), (.slice eb b.edges.length ec), (.slice tb b.sets.length tc), (.slice ab nx.length ac), (.slice nb nx.length nc)]] ++ (bis 4 qs))) (by rw [show putL (bools cs) k2 [(.bool qs[k2].xs[k2])] = bools (cs.set k2 qs[k2].xs[k2]) from (by simp [putL])]; exact Sub.of (List.Sublist.refl _)) ?_
    refine TO.nil (T.seq (T.region ?_))
    refine TO.quiet (q_assign rfl) ?_
    refine TO.nil (T.block ?_)
    refine T.loop (fun (i : Nat) ρ O => ∃ (co : Bool), O = ([rowI (some ⟨bx3, 0, none⟩) nx.length 4 1 (bools (cs.set k2 co)), rowI (some ⟨bx2, 0, none⟩) nx.length 39 1 (bvs qs), oI bx1 91 [(.int .i64 b.vars), (.int .i64 b.states), (.slice sb b.start.length sc), (.slice eb b.edges.length ec), (.slice tb b.sets.length tc), (.slice ab nx.length ac), (.slice nb nx.length nc)]] ++ (bis 4 qs)) ∧ i ≤ b.sets.length ∧ CoP b sa nx k2 i co ∧ Heads [(0, (.agg #[(.int .i64 b.vars), (.int .i64 b.states), (.slice sb b.start.length sc), (.slice eb b.edges.length ec), (.slice tb b.sets.length tc), (.slice ab nx.length ac), (.slice nb nx.length nc)])), (1, (.pointer (some ⟨bx1, 0, none⟩))), (2, (.slice none 0 0)), (3, .int .i64 (nx.length : Int)), (4, (.slice (some ⟨bx2, 0, none⟩) nx.length nx.length)), (5, .int .i64 (k : Int)), (6, (.slice (some ⟨bx3, 0, none⟩) nx.length nx.length)), (7, .int .i64 (k2 : Int)), (8, .int .i64 (i : Int))] ρ) (fun i => b.sets.length - i) 0 ?_ ?_
    · exact ⟨qs[k2].xs[k2], rfl, Nat.zero_le _, CoP.start (hA.at hq2 (by omega)), ⟨rfl, rfl, rfl, rfl, rfl, rfl, rfl, rfl, rfl, trivial⟩⟩
    rintro i ρ O ⟨co, rfl, hi, hco, hH⟩
    obtain ⟨ρ0, rfl⟩ := hH.elim
    clear hH
    refine T.seq (T.seq (T.region ?_))
    refine TO.quiet (q_move rfl) (TO.quiet (q_fieldAddr Try.underlying91 rfl inf26 rfl rfl) (TO.quiet (q_fieldAddr Try.underlying26 rfl inf24 rfl rfl) (TO.quiet (q_load_box 2 Try.underlying24 rfl rfl rfl rfl) ?_)))
    refine TO.quiet (q_len Try.underlying24 rfl) (TO.quiet (q_lss rfl rfl) ?_)
    by_cases hs53 : (i : Int) < (b.sets.length : Int)
    · refine TO.quiet (QT.toB (q_move rfl) (decide_eq_true hs53)) ?_
      refine TO.guarded rfl rfl rfl (LT.of_quiet rfl rfl (q_move rfl) ?_)
      refine TO.guarded rfl rfl rfl (LT.of_quiet rfl rfl (q_move rfl) ?_)
      refine TO.guarded rfl rfl rfl (LT.of_quiet rfl rfl (q_ix (i := k2) Try.underlying39 inf4 rfl rfl (rowO (List.mem_of_getElem? (i := 0) rfl))) ?_)
      refine TO.guarded rfl rfl rfl (LT.of_quiet rfl rfl (q_ld Try.underlying4 rfl rfl (rowO (List.mem_of_getElem? (i := 0) rfl)) bools_get) ?_)
      refine TO.quiet (q_pick1 rfl rfl) ?_
      refine TO.nil ?_
      refine T.cond rfl (fun hc => ?_) (fun hc => ?_)
      · have hlt52 : i < b.sets.length := by omega
        have hcot : co = true := by simp_all
        obtain ⟨tb2, tc2, g2, s2⟩ := h.rows.get hlt52
        refine T.skip (T.seq (T.block (T.seq (T.region ?_))))
        refine TO.quiet (q_assign rfl) ?_
        refine TO.nil (T.seq (T.seq (T.region ?_)))
        refine TO.quiet (q_assign rfl) ?_
        refine TO.nil (T.block ?_)
        refine T.loop (fun (u : Nat) ρ O => ∃ (fo : Bool), O = ([rowI (some ⟨bx3, 0, none⟩) nx.length 4 1 (bools (cs.set k2 co)), rowI (some ⟨bx2, 0, none⟩) nx.length 39 1 (bvs qs), oI bx1 91 [(.int .i64 b.vars), (.int .i64 b.states), (.slice sb b.start.length sc), (.slice eb b.edges.length ec), (.slice tb b.sets.length tc), (.slice ab nx.length ac), (.slice nb nx.length nc)]] ++ (bis 4 qs)) ∧ u ≤ nx.length ∧ FoP b sa nx k2 i u fo ∧ Heads [(0, (.agg #[(.int .i64 b.vars), (.int .i64 b.states), (.slice sb b.start.length sc), (.slice eb b.edges.length ec), (.slice tb b.sets.length tc), (.slice ab nx.length ac), (.slice nb nx.length nc)])), (1, (.pointer (some ⟨bx1, 0, none⟩))), (2, (.slice none 0 0)), (3, .int .i64 (nx.length : Int)), (4, (.slice (some ⟨bx2, 0, none⟩) nx.length nx.length)), (5, .int .i64 (k : Int)), (6, (.slice (some ⟨bx3, 0, none⟩) nx.length nx.length)), (7, .int .i64 (k2 : Int)), (8, .int .i64 (i : Int)), (9, .bool fo), (10, .int .i64 (u : Int))] ρ) (fun u => nx.length - u) 0 ?_ ?_
        · exact ⟨false, rfl, Nat.zero_le _, FoP.start, ⟨rfl, rfl, rfl, rfl, rfl, rfl, rfl, rfl, rfl, rfl, rfl, trivial⟩⟩
        rintro u ρ O ⟨fo, rfl, hu, hfo, hH⟩
        obtain ⟨ρ0, rfl⟩ := hH.elim
        clear hH
        refine T.seq (T.seq (T.region ?_))
        refine TO.quiet (q_move rfl) (TO.quiet (q_move rfl) (TO.quiet (q_lss rfl rfl) ?_))
        by_cases hs64 : (u : Int) < (nx.length : Int)
        · refine TO.quiet (QT.toB (q_move rfl) (decide_eq_true hs64)) ?_
          refine TO.guarded rfl rfl rfl (LT.of_quiet rfl rfl (q_move rfl) ?_)
          refine TO.guarded rfl rfl rfl (LT.of_quiet rfl rfl (q_not rfl) ?_)
          refine TO.quiet (q_pick1 rfl rfl) ?_
          refine TO.nil ?_
          refine T.cond rfl (fun hc => ?_) (fun hc => ?_)
          · have hu9 : u < nx.length := by omega
            have hqu : u < qs.length := by omega
            have hxu := hA.ln hqu
            refine T.skip (T.seq (T.block ?_))
            refine T.draws _ [(0, 0), (1, 0), (2, 0), (3, 0), (4, 0), (5, 0), (6, 0), (7, 0), (8, 0), (9, 0), (10, 0), (11, 1), (12, 0), (13, 0), (14, 0), (15, 0), (16, 0), (17, 0), (18, 0), (19, 0), (20, 0), (21, 0), (22, 0), (23, 0), (24, 0), (25, 0), (26, 0), (27, 0), (28, 0), (29, 0), (30, 0), (31, 0), (32, 0), (33, 0), (34, 0), (35, 0)] mixed (by kernel_rfl) (Sub.of (List.Sublist.refl _)) (fun _ _ _ h => h) ?_
            refine DO.quiet rfl (q_fieldAddr Try.underlying91 rfl inf26 rfl rfl) (DO.quiet rfl (q_fieldAddr Try.underlying26 rfl inf24 rfl rfl) (DO.quiet rfl (q_load_box 2 Try.underlying24 rfl rfl rfl rfl) (DO.quiet rfl (q_move rfl) ?_)))
            refine DO.quiet rfl (q_ix (i := i) Try.underlying24 inf22 rfl rfl (Sl.o h.out) (by first | assumption | omega | (simp; omega) | simp_all) (by rw [h.rows.1]; exact hlt52)) (DO.quiet rfl (q_ld Try.underlying22 rfl rfl (Sl.o h.out) g2) (DO.quiet rfl (q_fieldAddr Try.underlying91 rfl inf22 rfl rfl) (DO.quiet rfl (q_load_box 2 Try.underlying22 rfl rfl rfl rfl) ?_)))
            refine DO.quiet rfl (q_move rfl) (DO.quiet rfl (q_ix (i := u) Try.underlying22 inf3 rfl rfl (Sl.o hSA)) (DO.quiet rfl (q_ld Try.underlying3 rfl rfl (Sl.o hSA) nats_get) ?_))
            have hk81 := fun (w1 : World) (hI : Inv w ([rowI (some ⟨bx3, 0, none⟩) nx.length 4 1 (bools (cs.set k2 co)), rowI (some ⟨bx2, 0, none⟩) nx.length 39 1 (bvs qs), oI bx1 91 [(.int .i64 b.vars), (.int .i64 b.states), (.slice sb b.start.length sc), (.slice eb b.edges.length ec), (.slice tb b.sets.length tc), (.slice ab nx.length ac), (.slice nb nx.length nc)]] ++ (bis 4 qs)) w1) => hasInt w1 tb2 tc2 b.sets[i] ((sa[u] : Nat) : Int) (hI.sl s2) (by have := hB.sr _ (List.getElem_mem hlt52); omega)
            refine DO.loud rfl rfl (l_call ent31 (CallT.of_pure hk81) rfl ?_)
            clear hk81
            rintro vr O' ⟨N, rfl, rfl, rfl⟩
            refine ⟨Sub.pickR [0, 0, 0] [rowI (some ⟨bx3, 0, none⟩) nx.length 4 1 (bools (cs.set k2 co)), rowI (some ⟨bx2, 0, none⟩) nx.length 39 1 (bvs qs), oI bx1 91 [(.int .i64 b.vars), (.int .i64 b.states), (.slice sb b.start.length sc), (.slice eb b.edges.length ec), (.slice tb b.sets.length tc), (.slice ab nx.length ac), (.slice nb nx.length nc)]] (bis 4 qs) rfl rfl, ?_⟩
            
            by_cases hs82 : ((sa[u] : Nat) : Int) ∈ b.sets[i]
            · refine DO.quiet rfl (QT.toB (q_move rfl) (decide_eq_true hs82)) ?_
              refine DO.guarded rfl rfl rfl (q_move rfl) ?_
              refine DO.guarded rfl rfl rfl (q_move rfl) ?_
              refine DO.guarded rfl rfl rfl (q_eql rfl rfl) ?_
              by_cases hs86 : (u : Int) = (k2 : Int)
              · refine DO.guarded rfl rfl rfl (QT.toB (q_move rfl) (decide_eq_true hs86)) ?_
                refine DO.passed rfl rfl rfl ?_
                refine DO.passed rfl rfl rfl ?_
                refine DO.passed rfl rfl rfl ?_
                refine DO.passed rfl rfl rfl ?_
                refine DO.passed rfl rfl rfl ?_
                refine DO.passed rfl rfl rfl ?_
                refine DO.passed rfl rfl rfl ?_
                refine DO.passed rfl rfl rfl ?_
                refine DO.passed rfl rfl rfl ?_
                refine DO.passed rfl rfl rfl ?_
                refine DO.passed rfl rfl rfl ?_
                refine DO.passed rfl rfl rfl ?_
                refine DO.passed rfl rfl rfl ?_
                refine DO.passed rfl rfl rfl ?_
                refine DO.passed rfl rfl rfl ?_
                refine DO.passed rfl rfl rfl ?_
                refine DO.guarded rfl rfl rfl (q_pick1 rfl rfl) ?_
                refine DO.quiet rfl (q_pick1 rfl rfl) (DO.quiet rfl (q_assign rfl) ?_)
                refine DO.done ?_
                refine T.region ?_
                refine TO.quiet (q_move rfl) (TO.quiet (q_addN (a := u) (b := 1) rfl rfl (by omega)) (TO.quiet (q_assign rfl) ?_))
                refine TO.nil ?_
                refine ⟨u + 1, by omega, true, rfl, by omega, hfo.step (by simp_all) ?_, ⟨rfl, rfl, rfl, rfl, rfl, rfl, rfl, rfl, rfl, rfl, rfl, trivial⟩⟩
                rw [has_iff hA hsal hq2 hqu hlt52 (by omega) (by omega) (by omega)]
                first
                | (simp_all; done)
                | (simp_all; exact .inl (by omega))
                | (simp_all; omega)
              refine DO.guarded rfl rfl rfl (QT.toB (q_move rfl) (decide_eq_false hs86)) ?_
              refine DO.guarded rfl rfl rfl (q_move rfl) ?_
              refine DO.guarded rfl rfl rfl (q_move rfl) ?_
              refine DO.guarded rfl rfl rfl (q_ix (i := k2) Try.underlying126 inf39 rfl rfl (rowO (List.mem_of_getElem? (i := 1) rfl))) ?_
              refine DO.guarded rfl rfl rfl (q_ld Try.underlying39 rfl rfl (rowO (List.mem_of_getElem? (i := 1) rfl)) (bvs_at hq2)) ?_
              refine DO.guarded rfl rfl rfl (q_move rfl) ?_
              refine DO.guarded rfl rfl rfl (q_ix (i := u) Try.underlying39 inf4 rfl rfl (fun w hI => hI.slOf (bis_at (E := 4) hq2))) ?_
              refine DO.guarded rfl rfl rfl (q_ld Try.underlying4 rfl rfl (fun w hI => hI.slOf (bis_at (E := 4) hq2)) bools_get) ?_
              by_cases hs94 : qs[k2].xs[u] = true
              · refine DO.guarded rfl rfl rfl (QT.toB (q_move rfl) (hs94)) ?_
                refine DO.guarded rfl rfl rfl (q_move rfl) ?_
                refine DO.guarded rfl rfl rfl (q_move rfl) ?_
                refine DO.guarded rfl rfl rfl (q_ix (i := u) Try.underlying126 inf39 rfl rfl (rowO (List.mem_of_getElem? (i := 1) rfl))) ?_
                refine DO.guarded rfl rfl rfl (q_ld Try.underlying39 rfl rfl (rowO (List.mem_of_getElem? (i := 1) rfl)) (bvs_at hqu)) ?_
                refine DO.guarded rfl rfl rfl (q_move rfl) ?_
                refine DO.guarded rfl rfl rfl (q_ix (i := k2) Try.underlying39 inf4 rfl rfl (fun w hI => hI.slOf (bis_at (E := 4) hqu))) ?_
                refine DO.guarded rfl rfl rfl (q_ld Try.underlying4 rfl rfl (fun w hI => hI.slOf (bis_at (E := 4) hqu)) bools_get) ?_
                refine DO.guarded rfl rfl rfl (q_pick1 rfl rfl) ?_
                refine DO.guarded rfl rfl rfl (q_pick0 rfl rfl) ?_
                refine DO.quiet rfl (q_pick1 rfl rfl) (DO.quiet rfl (q_assign rfl) ?_)
                refine DO.done ?_
                refine T.region ?_
                refine TO.quiet (q_move rfl) (TO.quiet (q_addN (a := u) (b := 1) rfl rfl (by omega)) (TO.quiet (q_assign rfl) ?_))
                refine TO.nil ?_
                refine ⟨u + 1, by omega, qs[u].xs[k2], rfl, by omega, hfo.step (by simp_all) ?_, ⟨rfl, rfl, rfl, rfl, rfl, rfl, rfl, rfl, rfl, rfl, rfl, trivial⟩⟩
                rw [has_iff hA hsal hq2 hqu hlt52 (by omega) (by omega) (by omega)]
                first
                | (simp_all; done)
                | (simp_all; exact .inl (by omega))
                | (simp_all; omega)
              refine DO.guarded rfl rfl rfl (QT.toB (q_move rfl) (Bool.eq_false_iff.2 hs94)) ?_
              refine DO.passed rfl rfl rfl ?_
              refine DO.passed rfl rfl rfl ?_
              refine DO.passed rfl rfl rfl ?_
              refine DO.passed rfl rfl rfl ?_
              refine DO.passed rfl rfl rfl ?_
              refine DO.passed rfl rfl rfl ?_
              refine DO.passed rfl rfl rfl ?_
              refine DO.guarded rfl rfl rfl (q_pick0 rfl rfl) ?_
              refine DO.guarded rfl rfl rfl (q_pick0 rfl rfl) ?_
              refine DO.quiet rfl (q_pick1 rfl rfl) (DO.quiet rfl (q_assign rfl) ?_)
              refine DO.done ?_
              refine T.region ?_
              refine TO.quiet (q_move rfl) (TO.quiet (q_addN (a := u) (b := 1) rfl rfl (by omega)) (TO.quiet (q_assign rfl) ?_))
              refine TO.nil ?_
              refine ⟨u + 1, by omega, false, rfl, by omega, hfo.step (by simp_all) ?_, ⟨rfl, rfl, rfl, rfl, rfl, rfl, rfl, rfl, rfl, rfl, rfl, trivial⟩⟩
              rw [has_iff hA hsal hq2 hqu hlt52 (by omega) (by omega) (by omega)]
              first
              | (simp_all; done)
              | (simp_all; exact .inl (by omega))
              | (simp_all; omega)
            refine DO.quiet rfl (QT.toB (q_move rfl) (decide_eq_false hs82)) ?_
            refine DO.passed rfl rfl rfl ?_
            refine DO.passed rfl rfl rfl ?_
            refine DO.passed rfl rfl rfl ?_
            refine DO.passed rfl rfl rfl ?_
            refine DO.passed rfl rfl rfl ?_
            refine DO.passed rfl rfl rfl ?_
            refine DO.passed rfl rfl rfl ?_
            refine DO.passed rfl rfl rfl ?_
            refine DO.passed rfl rfl rfl ?_
            refine DO.passed rfl rfl rfl ?_
            refine DO.passed rfl rfl rfl ?_
            refine DO.passed rfl rfl rfl ?_
            refine DO.passed rfl rfl rfl ?_
            refine DO.passed rfl rfl rfl ?_
            refine DO.passed rfl rfl rfl ?_
            refine DO.passed rfl rfl rfl ?_
            refine DO.passed rfl rfl rfl ?_
            refine DO.passed rfl rfl rfl ?_
            refine DO.passed rfl rfl rfl ?_
            refine DO.passed rfl rfl rfl ?_
            refine DO.passed rfl rfl rfl ?_
            refine DO.quiet rfl (q_pick0 rfl rfl) (DO.quiet rfl (q_assign rfl) ?_)
            refine DO.done ?_
            refine T.region ?_
            refine TO.quiet (q_move rfl) (TO.quiet (q_addN (a := u) (b := 1) rfl rfl (by omega)) (TO.quiet (q_assign rfl) ?_))
            refine TO.nil ?_
            refine ⟨u + 1, by omega, false, rfl, by omega, hfo.step (by simp_all) ?_, ⟨rfl, rfl, rfl, rfl, rfl, rfl, rfl, rfl, rfl, rfl, rfl, trivial⟩⟩
            rw [has_iff hA hsal hq2 hqu hlt52 (by omega) (by omega) (by omega)]
            first
            | (simp_all; done)
            | (simp_all; exact .inl (by omega))
            | (simp_all; omega)
          refine T.exit ?_
          refine T.region ?_
          refine TO.quiet (q_move rfl) (TO.quiet (q_move rfl) (TO.quiet (q_move rfl) (TO.quiet (q_ix (i := k2) Try.underlying39 inf4 rfl rfl (rowO (List.mem_of_getElem? (i := 0) rfl))) ?_)))
          refine TO.loud rfl (l_st (j := k2) (v := .bool fo) (vs := [(.bool fo)]) (cs := bools (cs.set k2 co)) 0 inf4 rfl rfl rfl rfl rfl (by simp) rfl (by first | (simp; omega) | (simp_all; omega)) ?_)
          refine TO.sub (O' := ([rowI (some ⟨bx3, 0, none⟩) nx.length 4 1 (bools (cs.set k2 fo)), rowI (some ⟨bx2, 0, none⟩) nx.length 39 1 (bvs qs), oI bx1 91 [(.int .i64 b.vars), (.int .i64 b.states), (.slice sb b.start.length sc), (.slice eb b.edges.length ec), (.slice tb b.sets.length tc), (.slice ab nx.length ac), (.slice nb nx.length nc)]] ++ (bis 4 qs))) (by rw [show putL (bools (cs.set k2 co)) k2 [(.bool fo)] = bools (cs.set k2 fo) from (by simp [putL])]; exact Sub.of (List.Sublist.refl _)) ?_
          refine TO.nil (T.region ?_)
          refine TO.quiet (q_move rfl) (TO.quiet (q_addN (a := i) (b := 1) rfl rfl (by omega)) (TO.quiet (q_assign rfl) ?_))
          refine TO.nil ?_
          exact ⟨i + 1, by omega, fo, rfl, by omega, hco.step hcot (hfo.done (by first | (right; omega) | (left; simp_all; done))), ⟨rfl, rfl, rfl, rfl, rfl, rfl, rfl, rfl, rfl, trivial⟩⟩
        refine TO.quiet (QT.toB (q_move rfl) (decide_eq_false hs64)) ?_
        refine TO.passed rfl rfl ?_
        refine TO.passed rfl rfl ?_
        refine TO.quiet (q_pick0 rfl rfl) ?_
        refine TO.nil ?_
        refine T.cond0 rfl ?_
        refine T.exit ?_
        refine T.region ?_
        refine TO.quiet (q_move rfl) (TO.quiet (q_move rfl) (TO.quiet (q_move rfl) (TO.quiet (q_ix (i := k2) Try.underlying39 inf4 rfl rfl (rowO (List.mem_of_getElem? (i := 0) rfl))) ?_)))
        refine TO.loud rfl (l_st (j := k2) (v := .bool fo) (vs := [(.bool fo)]) (cs := bools (cs.set k2 co)) 0 inf4 rfl rfl rfl rfl rfl (by simp) rfl (by first | (simp; omega) | (simp_all; omega)) ?_)
        refine TO.sub (O' := ([rowI (some ⟨bx3, 0, none⟩) nx.length 4 1 (bools (cs.set k2 fo)), rowI (some ⟨bx2, 0, none⟩) nx.length 39 1 (bvs qs), oI bx1 91 [(.int .i64 b.vars), (.int .i64 b.states), (.slice sb b.start.length sc), (.slice eb b.edges.length ec), (.slice tb b.sets.length tc), (.slice ab nx.length ac), (.slice nb nx.length nc)]] ++ (bis 4 qs))) (by rw [show putL (bools (cs.set k2 co)) k2 [(.bool fo)] = bools (cs.set k2 fo) from (by simp [putL])]; exact Sub.of (List.Sublist.refl _)) ?_
        refine TO.nil (T.region ?_)
        refine TO.quiet (q_move rfl) (TO.quiet (q_addN (a := i) (b := 1) rfl rfl (by omega)) (TO.quiet (q_assign rfl) ?_))
        refine TO.nil ?_
        exact ⟨i + 1, by omega, fo, rfl, by omega, hco.step hcot (hfo.done (by first | (right; omega) | (left; simp_all; done))), ⟨rfl, rfl, rfl, rfl, rfl, rfl, rfl, rfl, rfl, trivial⟩⟩
      refine T.exit ?_
      refine T.region ?_
      refine TO.quiet (q_move rfl) (TO.quiet (q_addN (a := k2) (b := 1) rfl rfl (by omega)) (TO.quiet (q_assign rfl) ?_))
      refine TO.nil ?_
      exact ⟨k2 + 1, by omega, cs.set k2 co, rfl, by omega, hC.step (by omega) (hco.done hi (by first | (right; omega) | (left; simp_all; done))), ⟨rfl, rfl, rfl, rfl, rfl, rfl, rfl, rfl, trivial⟩⟩
    refine TO.quiet (QT.toB (q_move rfl) (decide_eq_false hs53)) ?_
    refine TO.passed rfl rfl ?_
    refine TO.passed rfl rfl ?_
    refine TO.passed rfl rfl ?_
    refine TO.passed rfl rfl ?_
    refine TO.quiet (q_pick0 rfl rfl) ?_
    refine TO.nil ?_
    refine T.cond0 rfl ?_
    refine T.exit ?_
    refine T.region ?_
    refine TO.quiet (q_move rfl) (TO.quiet (q_addN (a := k2) (b := 1) rfl rfl (by omega)) (TO.quiet (q_assign rfl) ?_))
    refine TO.nil ?_
    exact ⟨k2 + 1, by omega, cs.set k2 co, rfl, by omega, hC.step (by omega) (hco.done hi (by first | (right; omega) | (left; simp_all; done))), ⟨rfl, rfl, rfl, rfl, rfl, rfl, rfl, rfl, trivial⟩⟩
  have hge34 : ¬ k2 < nx.length := by omega
  refine T.exit ?_
  refine T.seq (T.region ?_)
  refine TO.quiet (q_move rfl) ?_
  refine TO.loud rfl (l_makeSlice (m := nx.length) Try.underlying39 inf4 rfl rfl (by omega) (by omega) (fun bx4 => ?_))
  refine TO.quiet (q_assign rfl) ?_
  refine TO.nil (T.seq (T.seq (T.region ?_)))
  refine TO.quiet (q_assign rfl) ?_
  refine TO.nil (T.block ?_)
  have hk2e : k2 = nx.length := by omega
  rw [hk2e] at hC
  refine T.sub (O' := [rowI (some ⟨bx4, 0, none⟩) nx.length 4 1 (List.replicate nx.length (.bool false)), rowI (some ⟨bx3, 0, none⟩) nx.length 4 1 (bools cs), rowI (some ⟨bx2, 0, none⟩) nx.length 39 1 (bvs qs), oI bx1 91 [(.int .i64 b.vars), (.int .i64 b.states), (.slice sb b.start.length sc), (.slice eb b.edges.length ec), (.slice tb b.sets.length tc), (.slice ab nx.length ac), (.slice nb nx.length nc)]] ++ bis 4 qs) (Sub.pickR [0, 0, 0, 0] [rowI (some ⟨bx4, 0, none⟩) nx.length 4 1 (List.replicate nx.length (.bool false)), rowI (some ⟨bx3, 0, none⟩) nx.length 4 1 (bools cs), rowI (some ⟨bx2, 0, none⟩) nx.length 39 1 (bvs qs), oI bx1 91 [(.int .i64 b.vars), (.int .i64 b.states), (.slice sb b.start.length sc), (.slice eb b.edges.length ec), (.slice tb b.sets.length tc), (.slice ab nx.length ac), (.slice nb nx.length nc)]] (bis 4 qs) rfl rfl) ?_
  refine T.loop (fun (k5 : Nat) ρ O => ∃ (os : List Bool), O = ([rowI (some ⟨bx4, 0, none⟩) nx.length 4 1 (bools os), rowI (some ⟨bx3, 0, none⟩) nx.length 4 1 (bools cs), rowI (some ⟨bx2, 0, none⟩) nx.length 39 1 (bvs qs), oI bx1 91 [(.int .i64 b.vars), (.int .i64 b.states), (.slice sb b.start.length sc), (.slice eb b.edges.length ec), (.slice tb b.sets.length tc), (.slice ab nx.length ac), (.slice nb nx.length nc)]] ++ (bis 4 qs)) ∧ k5 ≤ nx.length ∧ TabP nx.length k5 (liveR b sa nx) os ∧ Heads [(0, (.agg #[(.int .i64 b.vars), (.int .i64 b.states), (.slice sb b.start.length sc), (.slice eb b.edges.length ec), (.slice tb b.sets.length tc), (.slice ab nx.length ac), (.slice nb nx.length nc)])), (1, (.pointer (some ⟨bx1, 0, none⟩))), (2, (.slice none 0 0)), (3, .int .i64 (nx.length : Int)), (4, (.slice (some ⟨bx2, 0, none⟩) nx.length nx.length)), (5, .int .i64 (k : Int)), (6, (.slice (some ⟨bx3, 0, none⟩) nx.length nx.length)), (7, .int .i64 (k2 : Int)), (11, (.slice (some ⟨bx4, 0, none⟩) nx.length nx.length)), (12, .int .i64 (k5 : Int))] ρ) (fun k5 => nx.length - k5) 0 ?_ ?_
  · exact ⟨List.replicate nx.length false, by first | rfl | simp only [List.map_replicate], Nat.zero_le _, TabP.start, ⟨rfl, rfl, rfl, rfl, rfl, rfl, rfl, rfl, rfl, rfl, trivial⟩⟩
  rintro k5 ρ O ⟨os, rfl, hk5, hO, hH⟩
  obtain ⟨ρ0, rfl⟩ := hH.elim
  clear hH
  have hol := hO.1
  refine T.seq (T.seq (T.region ?_))
  refine TO.quiet (q_move rfl) (TO.quiet (q_move rfl) (TO.quiet (q_lss rfl rfl) ?_))
  refine TO.nil ?_
  refine T.condP rfl (fun hc => ?_) (fun hc => ?_)
  · have hlt113 : k5 < nx.length := by omega
    have hq5 : k5 < qs.length := by rw [hA.l]; exact hlt113
    have hx5 := hA.ln hq5
    refine T.skip (T.seq (T.block (T.seq (T.region ?_))))
    refine TO.quiet (q_move rfl) (TO.quiet (q_move rfl) (TO.quiet (q_move rfl) (TO.quiet (q_move rfl) ?_)))
    refine TO.quiet (q_ix (i := k5) Try.underlying39 inf4 rfl rfl (rowO (List.mem_of_getElem? (i := 1) rfl))) (TO.quiet (q_ld Try.underlying4 rfl rfl (rowO (List.mem_of_getElem? (i := 1) rfl)) bools_get) (TO.quiet (q_ix (i := k5) Try.underlying39 inf4 rfl rfl (rowO (List.mem_of_getElem? (i := 0) rfl))) ?_))
    refine TO.loud rfl (l_st (j := k5) (v := .bool cs[k5]) (vs := [(.bool cs[k5])]) (cs := bools os) 0 inf4 rfl rfl rfl rfl rfl (by simp) rfl (by first | (simp; omega) | (simp_all; omega)) ?_)
    refine TO.sub (O' := ([rowI (some ⟨bx4, 0, none⟩) nx.length 4 1 (bools (os.set k5 cs[k5])), rowI (some ⟨bx3, 0, none⟩) nx.length 4 1 (bools cs), rowI (some ⟨bx2, 0, none⟩) nx.length 39 1 (bvs qs), oI bx1 91 [(.int .i64 b.vars), (.int .i64 b.states), (.slice sb b.start.length sc), (.slice eb b.edges.length ec), (.slice tb b.sets.length tc), (.slice ab nx.length ac), (.slice nb nx.length nc)]] ++ (bis 4 qs))) (by rw [show putL (bools os) k5 [(.bool cs[k5])] = bools (os.set k5 cs[k5]) from (by simp [putL])]; exact Sub.of (List.Sublist.refl _)) ?_
    refine TO.nil (T.seq (T.region ?_))
    refine TO.quiet (q_assign rfl) ?_
    refine TO.nil (T.block ?_)
    refine T.loop (fun (u6 : Nat) ρ O => ∃ (li : Bool), O = ([rowI (some ⟨bx4, 0, none⟩) nx.length 4 1 (bools (os.set k5 li)), rowI (some ⟨bx3, 0, none⟩) nx.length 4 1 (bools cs), rowI (some ⟨bx2, 0, none⟩) nx.length 39 1 (bvs qs), oI bx1 91 [(.int .i64 b.vars), (.int .i64 b.states), (.slice sb b.start.length sc), (.slice eb b.edges.length ec), (.slice tb b.sets.length tc), (.slice ab nx.length ac), (.slice nb nx.length nc)]] ++ (bis 4 qs)) ∧ u6 ≤ nx.length ∧ LiP b sa nx k5 u6 li ∧ Heads [(0, (.agg #[(.int .i64 b.vars), (.int .i64 b.states), (.slice sb b.start.length sc), (.slice eb b.edges.length ec), (.slice tb b.sets.length tc), (.slice ab nx.length ac), (.slice nb nx.length nc)])), (1, (.pointer (some ⟨bx1, 0, none⟩))), (2, (.slice none 0 0)), (3, .int .i64 (nx.length : Int)), (4, (.slice (some ⟨bx2, 0, none⟩) nx.length nx.length)), (5, .int .i64 (k : Int)), (6, (.slice (some ⟨bx3, 0, none⟩) nx.length nx.length)), (7, .int .i64 (k2 : Int)), (11, (.slice (some ⟨bx4, 0, none⟩) nx.length nx.length)), (12, .int .i64 (k5 : Int)), (13, .int .i64 (u6 : Int))] ρ) (fun u6 => nx.length - u6) 0 ?_ ?_
    · exact ⟨cs[k5], rfl, Nat.zero_le _, LiP.start (hC.at hlt113 (by omega)), ⟨rfl, rfl, rfl, rfl, rfl, rfl, rfl, rfl, rfl, rfl, rfl, trivial⟩⟩
    rintro u6 ρ O ⟨li, rfl, hu6, hli, hH⟩
    obtain ⟨ρ0, rfl⟩ := hH.elim
    clear hH
    refine T.seq (T.seq (T.region ?_))
    refine TO.quiet (q_move rfl) (TO.quiet (q_move rfl) (TO.quiet (q_lss rfl rfl) ?_))
    by_cases hs126 : (u6 : Int) < (nx.length : Int)
    · refine TO.quiet (QT.toB (q_move rfl) (decide_eq_true hs126)) ?_
      refine TO.guarded rfl rfl rfl (LT.of_quiet rfl rfl (q_move rfl) ?_)
      refine TO.guarded rfl rfl rfl (LT.of_quiet rfl rfl (q_move rfl) ?_)
      refine TO.guarded rfl rfl rfl (LT.of_quiet rfl rfl (q_ix (i := k5) Try.underlying39 inf4 rfl rfl (rowO (List.mem_of_getElem? (i := 0) rfl))) ?_)
      refine TO.guarded rfl rfl rfl (LT.of_quiet rfl rfl (q_ld Try.underlying4 rfl rfl (rowO (List.mem_of_getElem? (i := 0) rfl)) bools_get) ?_)
      refine TO.guarded rfl rfl rfl (LT.of_quiet rfl rfl (q_not rfl) ?_)
      refine TO.quiet (q_pick1 rfl rfl) ?_
      refine TO.nil ?_
      refine T.cond rfl (fun hc => ?_) (fun hc => ?_)
      · refine T.skip ?_
        refine T.seq (T.block (T.region ?_))
        refine TO.quiet (q_move rfl) (TO.quiet (q_move rfl) (TO.quiet (q_move rfl) (TO.quiet (q_move rfl) ?_)))
        refine TO.quiet (q_ix (i := k5) Try.underlying126 inf39 rfl rfl (rowO (List.mem_of_getElem? (i := 2) rfl))) (TO.quiet (q_ld Try.underlying39 rfl rfl (rowO (List.mem_of_getElem? (i := 2) rfl)) (bvs_at hq5)) (TO.quiet (q_move rfl) (TO.quiet (q_ix (i := u6) Try.underlying39 inf4 rfl rfl (fun w hI => hI.slOf (bis_at (E := 4) hq5))) ?_)))
        refine TO.quiet (q_ld Try.underlying4 rfl rfl (fun w hI => hI.slOf (bis_at (E := 4) hq5)) bools_get) ?_
        by_cases hs144 : qs[k5].xs[u6] = true
        · refine TO.quiet (QT.toB (q_move rfl) (hs144)) ?_
          refine TO.guarded rfl rfl rfl (LT.of_quiet rfl rfl (q_move rfl) ?_)
          refine TO.guarded rfl rfl rfl (LT.of_quiet rfl rfl (q_move rfl) ?_)
          refine TO.guarded rfl rfl rfl (LT.of_quiet rfl rfl (q_ix (i := u6) Try.underlying39 inf4 rfl rfl (rowO (List.mem_of_getElem? (i := 1) rfl))) ?_)
          refine TO.guarded rfl rfl rfl (LT.of_quiet rfl rfl (q_ld Try.underlying4 rfl rfl (rowO (List.mem_of_getElem? (i := 1) rfl)) bools_get) ?_)
          refine TO.quiet (q_pick1 rfl rfl) (TO.quiet (q_ix (i := k5) Try.underlying39 inf4 rfl rfl (rowO (List.mem_of_getElem? (i := 0) rfl))) ?_)
          refine TO.loud rfl (l_st (j := k5) (v := .bool cs[u6]) (vs := [(.bool cs[u6])]) (cs := bools (os.set k5 li)) 0 inf4 rfl rfl rfl rfl rfl (by simp) rfl (by first | (simp; omega) | (simp_all; omega)) ?_)
          refine TO.sub (O' := ([rowI (some ⟨bx4, 0, none⟩) nx.length 4 1 (bools (os.set k5 cs[u6])), rowI (some ⟨bx3, 0, none⟩) nx.length 4 1 (bools cs), rowI (some ⟨bx2, 0, none⟩) nx.length 39 1 (bvs qs), oI bx1 91 [(.int .i64 b.vars), (.int .i64 b.states), (.slice sb b.start.length sc), (.slice eb b.edges.length ec), (.slice tb b.sets.length tc), (.slice ab nx.length ac), (.slice nb nx.length nc)]] ++ (bis 4 qs))) (by rw [show putL (bools (os.set k5 li)) k5 [(.bool cs[u6])] = bools (os.set k5 cs[u6]) from (by simp [putL])]; exact Sub.of (List.Sublist.refl _)) ?_
          refine TO.nil (T.region ?_)
          refine TO.quiet (q_move rfl) (TO.quiet (q_addN (a := u6) (b := 1) rfl rfl (by omega)) (TO.quiet (q_assign rfl) ?_))
          refine TO.nil ?_
          refine ⟨u6 + 1, by omega, cs[u6], rfl, by omega, hli.step (by simp_all) ?_, ⟨rfl, rfl, rfl, rfl, rfl, rfl, rfl, rfl, rfl, rfl, rfl, trivial⟩⟩
          rw [← hA.at hq5 (by omega : u6 < qs[k5].xs.length), ← hC.at (show u6 < nx.length by omega) (by omega)]
          simp_all
        refine TO.quiet (QT.toB (q_move rfl) (Bool.eq_false_iff.2 hs144)) ?_
        refine TO.passed rfl rfl ?_
        refine TO.passed rfl rfl ?_
        refine TO.passed rfl rfl ?_
        refine TO.passed rfl rfl ?_
        refine TO.quiet (q_pick0 rfl rfl) (TO.quiet (q_ix (i := k5) Try.underlying39 inf4 rfl rfl (rowO (List.mem_of_getElem? (i := 0) rfl))) ?_)
        refine TO.loud rfl (l_st (j := k5) (v := .bool false) (vs := [(.bool false)]) (cs := bools (os.set k5 li)) 0 inf4 rfl rfl rfl rfl rfl (by simp) rfl (by first | (simp; omega) | (simp_all; omega)) ?_)
        refine TO.sub (O' := ([rowI (some ⟨bx4, 0, none⟩) nx.length 4 1 (bools (os.set k5 false)), rowI (some ⟨bx3, 0, none⟩) nx.length 4 1 (bools cs), rowI (some ⟨bx2, 0, none⟩) nx.length 39 1 (bvs qs), oI bx1 91 [(.int .i64 b.vars), (.int .i64 b.states), (.slice sb b.start.length sc), (.slice eb b.edges.length ec), (.slice tb b.sets.length tc), (.slice ab nx.length ac), (.slice nb nx.length nc)]] ++ (bis 4 qs))) (by rw [show putL (bools (os.set k5 li)) k5 [(.bool false)] = bools (os.set k5 false) from (by simp [putL])]; exact Sub.of (List.Sublist.refl _)) ?_
        refine TO.nil (T.region ?_)
        refine TO.quiet (q_move rfl) (TO.quiet (q_addN (a := u6) (b := 1) rfl rfl (by omega)) (TO.quiet (q_assign rfl) ?_))
        refine TO.nil ?_
        refine ⟨u6 + 1, by omega, false, rfl, by omega, hli.step (by simp_all) ?_, ⟨rfl, rfl, rfl, rfl, rfl, rfl, rfl, rfl, rfl, rfl, rfl, trivial⟩⟩
        rw [← hA.at hq5 (by omega : u6 < qs[k5].xs.length), ← hC.at (show u6 < nx.length by omega) (by omega)]
        simp_all
      refine T.exit ?_
      refine T.region ?_
      refine TO.quiet (q_move rfl) (TO.quiet (q_addN (a := k5) (b := 1) rfl rfl (by omega)) (TO.quiet (q_assign rfl) ?_))
      refine TO.nil ?_
      exact ⟨k5 + 1, by omega, os.set k5 li, rfl, by omega, hO.step (by omega) (hli.done hval (by first | (right; omega) | (left; simp_all; done))), ⟨rfl, rfl, rfl, rfl, rfl, rfl, rfl, rfl, rfl, rfl, trivial⟩⟩
    refine TO.quiet (QT.toB (q_move rfl) (decide_eq_false hs126)) ?_
    refine TO.passed rfl rfl ?_
    refine TO.passed rfl rfl ?_
    refine TO.passed rfl rfl ?_
    refine TO.passed rfl rfl ?_
    refine TO.passed rfl rfl ?_
    refine TO.quiet (q_pick0 rfl rfl) ?_
    refine TO.nil ?_
    refine T.cond0 rfl ?_
    refine T.exit ?_
    refine T.region ?_
    refine TO.quiet (q_move rfl) (TO.quiet (q_addN (a := k5) (b := 1) rfl rfl (by omega)) (TO.quiet (q_assign rfl) ?_))
    refine TO.nil ?_
    exact ⟨k5 + 1, by omega, os.set k5 li, rfl, by omega, hO.step (by omega) (hli.done hval (by first | (right; omega) | (left; simp_all; done))), ⟨rfl, rfl, rfl, rfl, rfl, rfl, rfl, rfl, rfl, rfl, trivial⟩⟩
  have hge113 : ¬ k5 < nx.length := by omega
  refine T.exit ?_
  refine T.seq (T.region ?_)
  refine TO.quiet (q_move rfl) (TO.quiet (q_assign rfl) ?_)
  refine TO.nil (T.ret (Res.drop ?_))
  refine Res.one (.slice (some ⟨bx4, 0, none⟩) nx.length nx.length) Try.results61 rfl ?_
  have hk5e : k5 = nx.length := by omega
  rw [hk5e] at hO
  exact ⟨[rowI (some ⟨bx4, 0, none⟩) nx.length 4 1 (bools os)], (Sub.pick0 [0] [rowI (some ⟨bx4, 0, none⟩) nx.length 4 1 (bools os), rowI (some ⟨bx3, 0, none⟩) nx.length 4 1 (bools cs), rowI (some ⟨bx2, 0, none⟩) nx.length 39 1 (bvs qs), oI bx1 91 [(.int .i64 b.vars), (.int .i64 b.states), (.slice sb b.start.length sc), (.slice eb b.edges.length ec), (.slice tb b.sets.length tc), (.slice ab nx.length ac), (.slice nb nx.length nc)]] (bis 4 qs) rfl rfl), _, _, os, rfl, rfl, hO⟩
end Go.Proofs.Ytnamoapbienooaa

namespace Go.Lx
open Go.RowKit
set_option linter.unusedVariables false
def prodK (es : List Ed) (l : La) (k i : Nat) (u : Nat) (y : Int) : Prop := (∃ e ∈ es.take k, ∃ j, j < l.n ∧ prodP l e j u y) ∨ ∃ e, es[k]? = some e ∧ ∃ j, j < i ∧ prodP l e j u y
theorem prodK_start {es : List Ed} {l : La} {u : Nat} {y : Int} : ¬ prodK es l 0 0 u y := by
  rintro (⟨e, he, _⟩ | ⟨e, _, j, hj, _⟩)
  · simp at he
  · omega
theorem prodK_hit {es : List Ed} {l : La} {k i : Nat} (hk : k < es.length) {u : Nat} {y : Int} : prodK es l k (i + 1) u y ↔ prodK es l k i u y ∨ prodP l es[k] i u y := by
  unfold prodK
  rw [List.getElem?_eq_getElem hk]
  constructor
  · rintro (h | ⟨e, h1, j, h2, h3⟩)
    · exact .inl (.inl h)
    · by_cases e2 : j = i
      · subst e2; cases h1; exact .inr h3
      · exact .inl (.inr ⟨e, h1, j, by omega, h3⟩)
  · rintro ((h | ⟨e, h1, j, h2, h3⟩) | h)
    · exact .inl h
    · exact .inr ⟨e, h1, j, by omega, h3⟩
    · exact .inr ⟨_, rfl, i, by omega, h⟩
theorem prodK_row {es : List Ed} {l : La} {k : Nat} (hk : k < es.length) {u : Nat} {y : Int} : prodK es l (k + 1) 0 u y ↔ prodK es l k l.n u y := by
  unfold prodK
  rw [List.take_succ_eq_append_getElem hk, List.getElem?_eq_getElem hk]
  constructor
  · rintro (⟨e, h1, h2⟩ | ⟨e, _, j, hj, _⟩)
    · rcases List.mem_append.1 h1 with h1 | h1
      · exact .inl ⟨e, h1, h2⟩
      · rw [List.mem_singleton] at h1; subst h1; exact .inr ⟨_, rfl, h2⟩
    · omega
  · rintro (⟨e, h1, h2⟩ | ⟨e, h1, h2⟩)
    · exact .inl ⟨e, List.mem_append_left _ h1, h2⟩
    · cases h1; exact .inl ⟨_, List.mem_append_right _ (by simp), h2⟩
theorem prodK_done {es : List Ed} {l : La} {u : Nat} {y : Int} : prodK es l es.length 0 u y ↔ prodR es l l.n 0 u y := by
  unfold prodK prodR
  rw [List.take_length, List.take_zero]
  constructor
  · rintro (⟨e, h1, j, h2, h3⟩ | ⟨e, _, j, hj, _⟩)
    · exact .inl ⟨j, h2, e, h1, h3⟩
    · omega
  · rintro (⟨j, h2, e, h1, h3⟩ | ⟨e, he, _⟩)
    · exact .inl ⟨e, h1, j, h2, h3⟩
    · simp at he
def prdA (L m : Nat) : List Nat := (List.range m).map (· / L)
theorem prdA_succ (L m : Nat) : prdA L (m + 1) = prdA L m ++ [m / L] := by simp [prdA, List.range_succ]
theorem prdA_len (L m : Nat) : (prdA L m).length = m := by simp [prdA]
theorem prdA_get {L m v : Nat} (h : v < m) : (prdA L m).getD v 0 = v / L := by simp [prdA, h]
theorem div_at {L s i : Nat} (hi : i < L) : (s * L + i) / L = s := by
  rw [Nat.add_comm, Nat.add_mul_div_right _ _ (by omega), Nat.div_eq_of_lt hi, Nat.zero_add]
theorem La.ix_end {l : La} (h : 0 < l.loop.length) {i : Nat} (hi : i + 1 = l.n) : l.ix (i + 1) = l.pre.length := by
  have hn : l.n = l.pre.length + l.loop.length := rfl
  rw [La.ix_loop h (by omega), show i + 1 - l.pre.length = l.loop.length by omega, Nat.mod_self, Nat.add_zero]
theorem liveR_states {b : Bu} (hv : ValidB b) {nx : List (List Int)} (hr : RowsP b.states.toNat (autR b.edges) b.edges.length nx) {v : Nat} : liveR b (List.range b.states.toNat) nx v ↔ liveB b v := by
  have hE : adjE nx = autE b := by
    funext u v
    exact propext (hr.adj (fun u y ⟨e, he, h1, _⟩ => by have := (hv.ed e he).1; omega) u v)
  have hM : refM b (List.range b.states.toNat) nx.length = autM b := by
    funext k u
    apply propext
    unfold refM autM
    rw [hr.l]
    constructor
    · rintro ⟨h1, S, h2, h3⟩; exact ⟨h1, S, h2, by simpa [h1] using h3⟩
    · rintro ⟨h1, S, h2, h3⟩; exact ⟨h1, S, h2, by simpa [h1] using h3⟩
  unfold liveR liveB
  rw [hE, hM]
theorem states_ok {b : Bu} (hv : ValidB b) {nx : List (List Int)} (hr : RowsP b.states.toNat (autR b.edges) b.edges.length nx) : okRows nx := fun r hrr x hx => by
  obtain ⟨i, hi, rfl⟩ := List.mem_iff_getElem.1 hrr
  have hl := hr.l
  obtain ⟨e, he, _, rfl⟩ := (hr.h i x (by omega)).1 (by rw [getD_at hi]; exact hx)
  have := (hv.ed e he).2
  omega
theorem liveR_prod {b : Bu} {l : La} (hv : ValidB b) (hl : 0 < l.loop.length) {B : Nat} {nx : List (List Int)} (hr : RowsP (b.states.toNat * l.n) (prodR b.edges l l.n 0) B nx) {v : Nat} : liveR b (prdA l.n (b.states.toNat * l.n)) nx v ↔ LiveG (PE b l) b.sets.length (PM b l) v := by
  have hE : adjE nx = PE b l := by
    funext u v
    refine propext ((hr.adj (fun u y hR => ?_) u v).trans (prod_pe hv))
    have hy : 0 ≤ y := by
      rcases hR with ⟨j, hj, e, he, _, _, h3⟩ | ⟨e, he, _⟩
      · have := (hv.ed e he).2
        rw [h3]
        exact Int.add_nonneg (Int.mul_nonneg (by omega) (by omega)) (by omega)
      · simp at he
    rw [← Int.toNat_of_nonneg hy] at hR
    exact (PE.lt hv hl ((prod_pe (l := l) (u := u) (v := y.toNat) hv).1 hR)).1
  have hM : refM b (prdA l.n (b.states.toNat * l.n)) nx.length = PM b l := by
    funext k u
    apply propext
    unfold refM PM
    rw [hr.l]
    constructor
    · rintro ⟨h1, S, h2, h3⟩; exact ⟨h1, S, h2, by rwa [prdA_get h1] at h3⟩
    · rintro ⟨h1, S, h2, h3⟩; exact ⟨h1, S, h2, by rwa [prdA_get h1]⟩
  unfold liveR
  rw [hE, hM]
theorem prod_ok {b : Bu} {l : La} (hv : ValidB b) (hl : 0 < l.loop.length) {B : Nat} {nx : List (List Int)} (hr : RowsP (b.states.toNat * l.n) (prodR b.edges l l.n 0) B nx) : okRows nx := fun r hrr x hx => by
  obtain ⟨i, hi, rfl⟩ := List.mem_iff_getElem.1 hrr
  have hll := hr.l
  have hR := (hr.h i x (by omega)).1 (by rw [getD_at hi]; exact hx)
  have hx0 : 0 ≤ x := by
    rcases hR with ⟨j, hj, e, he, _, _, h3⟩ | ⟨e, he, _⟩
    · have := (hv.ed e he).2
      rw [h3]
      exact Int.add_nonneg (Int.mul_nonneg (by omega) (by omega)) (by omega)
    · simp at he
  have := (prod_pe (v := x.toNat) hv).1 (by rw [Int.toNat_of_nonneg hx0]; exact hR)
  have := (PE.lt hv hl this).2
  omega
end Go.Lx

namespace Go.Proofs.Ytnamoapbienooaa
open Go.Lx Go.RowKit
set_option linter.unusedVariables false
set_option linter.unusedSimpArgs false
set_option maxHeartbeats 1000000 in
set_option maxRecDepth 20000 in
theorem refCheckF (w : World) (b : Bu) (sb eb tb : Option Addr) (sc ec tc : Nat) (vs : List Value) (h : BuAt w b sb eb tb vs) (hB : BuB b) :
    PureT Try.prog 22 [.agg (buCells b sb sc eb ec tb tc).toArray] w fun v N => v = .int .i64 (checkB b : Int) ∧ N = [] := by
  refine CallT.enter Try.func22 rfl Try.ntmps22 rfl ?_
  have hst := hB.st; have hed := hB.ed; have hse := hB.se
  have hvl := h.rows.1
  refine T.seq (T.region ?_)
  refine TO.loud rfl (l_box (v := (.agg (buCells b sb sc eb ec tb tc).toArray)) (cs := (buCells b sb sc eb ec tb tc)) rfl rfl (fun bx1 => ?_))
  refine TO.quiet (q_assign rfl) ?_
  refine TO.nil (T.seq (T.seq (T.region ?_)))
  refine TO.quiet (q_fieldAddr Try.underlying26 rfl inf3 rfl rfl) (TO.quiet (q_load_box 0 Try.underlying3 rfl rfl rfl rfl) (TO.quiet (q_lss rfl rfl) ?_))
  by_cases hs9 : b.vars < 0
  · refine TO.quiet (QT.toB (q_move rfl) (decide_eq_true hs9)) ?_
    refine TO.passed rfl rfl ?_
    refine TO.passed rfl rfl ?_
    refine TO.passed rfl rfl ?_
    refine TO.quiet (q_pick1 rfl rfl) ?_
    refine TO.nil ?_
    refine T.cond1 rfl ?_
    refine T.seq (T.region ?_)
    refine TO.quiet (q_assign rfl) ?_
    refine TO.nil (T.ret (Res.drop ?_))
    refine Res.one (.int .i64 7) Try.results22 rfl ?_
    refine ⟨[], Sub.of (List.nil_sublist _), congrArg (fun z : Nat => Value.int .i64 (z : Int)) (Eq.symm (a := checkB b) (b := 7) ?_), rfl⟩
    exact checkB_7 (by omega)
  refine TO.quiet (QT.toB (q_move rfl) (decide_eq_false hs9)) ?_
  refine TO.guarded rfl rfl rfl (LT.of_quiet rfl rfl (q_fieldAddr Try.underlying26 rfl inf3 rfl rfl) ?_)
  refine TO.guarded rfl rfl rfl (LT.of_quiet rfl rfl (q_load_box 0 Try.underlying3 rfl rfl rfl rfl) ?_)
  refine TO.guarded rfl rfl rfl (LT.of_quiet rfl rfl (q_gtr rfl rfl) ?_)
  refine TO.quiet (q_pick0 rfl rfl) ?_
  refine TO.nil ?_
  refine T.condP rfl (fun hc => ?_) (fun hc => ?_)
  · refine T.seq ?_
    refine T.region ?_
    refine TO.quiet (q_assign rfl) ?_
    refine TO.nil (T.ret (Res.drop ?_))
    refine Res.one (.int .i64 7) Try.results22 rfl ?_
    refine ⟨[], Sub.of (List.nil_sublist _), congrArg (fun z : Nat => Value.int .i64 (z : Int)) (Eq.symm (a := checkB b) (b := 7) ?_), rfl⟩
    exact checkB_7 (by omega)
  refine T.skip (T.seq (T.seq (T.region ?_)))
  refine TO.quiet (q_fieldAddr Try.underlying26 rfl inf3 rfl rfl) (TO.quiet (q_load_box 0 Try.underlying3 rfl rfl rfl rfl) (TO.quiet (q_lss rfl rfl) ?_))
  refine TO.nil ?_
  refine T.condP rfl (fun hc => ?_) (fun hc => ?_)
  · refine T.seq ?_
    refine T.region ?_
    refine TO.quiet (q_assign rfl) ?_
    refine TO.nil (T.ret (Res.drop ?_))
    refine Res.one (.int .i64 1) Try.results22 rfl ?_
    refine ⟨[], Sub.of (List.nil_sublist _), congrArg (fun z : Nat => Value.int .i64 (z : Int)) (Eq.symm (a := checkB b) (b := 1) ?_), rfl⟩
    exact checkB_1 (by omega) (by omega)
  refine T.skip (T.seq (T.seq (T.region ?_)))
  refine TO.quiet (q_fieldAddr Try.underlying26 rfl inf3 rfl rfl) (TO.quiet (q_load_box 0 Try.underlying3 rfl rfl rfl rfl) (TO.quiet (q_gtr rfl rfl) ?_))
  refine TO.nil ?_
  refine T.condP rfl (fun hc => ?_) (fun hc => ?_)
  · refine T.seq ?_
    refine T.region ?_
    refine TO.quiet (q_assign rfl) ?_
    refine TO.nil (T.ret (Res.drop ?_))
    refine Res.one (.int .i64 10) Try.results22 rfl ?_
    refine ⟨[], Sub.of (List.nil_sublist _), congrArg (fun z : Nat => Value.int .i64 (z : Int)) (Eq.symm (a := checkB b) (b := 10) ?_), rfl⟩
    exact checkB_10 (by omega) (by omega) (by omega)
  refine T.skip (T.seq (T.seq (T.region ?_)))
  refine TO.quiet (q_fieldAddr Try.underlying26 rfl inf24 rfl rfl) (TO.quiet (q_load_box 0 Try.underlying24 rfl rfl rfl rfl) (TO.quiet (q_len Try.underlying24 rfl) (TO.quiet (q_gtr rfl rfl) ?_)))
  refine TO.nil ?_
  refine T.condP rfl (fun hc => ?_) (fun hc => ?_)
  · have hlt23 : b.sets.length > 8 := by omega
    refine T.seq (T.region ?_)
    refine TO.quiet (q_assign rfl) ?_
    refine TO.nil (T.ret (Res.drop ?_))
    refine Res.one (.int .i64 4) Try.results22 rfl ?_
    refine ⟨[], Sub.of (List.nil_sublist _), congrArg (fun z : Nat => Value.int .i64 (z : Int)) (Eq.symm (a := checkB b) (b := 4) ?_), rfl⟩
    exact checkB_4 (by omega) (by omega) (by omega) (by omega)
  have hge23 : ¬ b.sets.length > 8 := by omega
  refine T.skip (T.seq (T.seq (T.region ?_)))
  refine TO.quiet (q_fieldAddr Try.underlying26 rfl inf22 rfl rfl) (TO.quiet (q_load_box 0 Try.underlying22 rfl rfl rfl rfl) (TO.quiet (q_fieldAddr Try.underlying26 rfl inf3 rfl rfl) (TO.quiet (q_load_box 0 Try.underlying3 rfl rfl rfl rfl) ?_)))
  have hk28 := fun (w1 : World) (hI : Inv w [oI bx1 26 (buCells b sb sc eb ec tb tc)] w1) => risesF w1 sb sc b.start b.states (hI.sl h.st) hst
  refine TO.loud rfl (l_call ent65 (CallT.of_pure hk28) rfl ?_)
  clear hk28
  rintro vr O' ⟨N, rfl, rfl, rfl⟩
  refine TO.quiet (q_not rfl) ?_
  refine TO.nil ?_
  refine T.cond rfl (fun hc => ?_) (fun hc => ?_)
  · refine T.seq ?_
    refine T.region ?_
    refine TO.quiet (q_assign rfl) ?_
    refine TO.nil (T.ret (Res.drop ?_))
    refine Res.one (.int .i64 8) Try.results22 rfl ?_
    refine ⟨[], Sub.of (List.nil_sublist _), congrArg (fun z : Nat => Value.int .i64 (z : Int)) (Eq.symm (a := checkB b) (b := 8) ?_), rfl⟩
    exact checkB_8 (by omega) (by omega) (by omega) (by omega) (all_no (k := 0) (by simp) (by simpa using hc))
  refine T.skip (T.seq (T.seq (T.region ?_)))
  refine TO.quiet (q_assign rfl) ?_
  refine TO.nil (T.block ?_)
  refine T.loop (fun (k : Nat) ρ O => O = [oI bx1 26 (buCells b sb sc eb ec tb tc)] ∧ k ≤ b.sets.length ∧ rises b.states (-1) b.start = true ∧ (b.sets.take k).all (rises b.states (-1)) = true ∧ Heads [(0, (.agg (buCells b sb sc eb ec tb tc).toArray)), (1, (.pointer (some ⟨bx1, 0, none⟩))), (3, .int .i64 (k : Int))] ρ) (fun k => b.sets.length - k) 0 ?_ ?_
  · exact ⟨rfl, Nat.zero_le _, by simpa using hc, rfl, ⟨rfl, rfl, rfl, trivial⟩⟩
  rintro k ρ O ⟨rfl, hk, hrs, hall, hH⟩
  obtain ⟨ρ0, rfl⟩ := hH.elim
  clear hH
  refine T.seq (T.seq (T.region ?_))
  refine TO.quiet (q_move rfl) (TO.quiet (q_fieldAddr Try.underlying26 rfl inf24 rfl rfl) (TO.quiet (q_load_box 0 Try.underlying24 rfl rfl rfl rfl) (TO.quiet (q_len Try.underlying24 rfl) ?_)))
  refine TO.quiet (q_lss rfl rfl) ?_
  refine TO.nil ?_
  refine T.condP rfl (fun hc => ?_) (fun hc => ?_)
  · have hlt34 : k < b.sets.length := by omega
    obtain ⟨rb, rc, g1, s1⟩ := h.rows.get hlt34
    refine T.skip (T.seq (T.block (T.seq ?_)))
    refine T.draws _ [(0, 0), (1, 0), (2, 0), (3, 0), (4, 0), (5, 0), (6, 0), (7, 2), (8, 2)] mixed (by kernel_rfl) (Sub.of (List.Sublist.refl _)) (fun _ _ _ h => h) ?_
    refine DO.quiet rfl (q_fieldAddr Try.underlying26 rfl inf24 rfl rfl) (DO.quiet rfl (q_load_box 0 Try.underlying24 rfl rfl rfl rfl) (DO.quiet rfl (q_move rfl) (DO.quiet rfl (q_ix (i := k) Try.underlying24 inf22 rfl rfl (Sl.o h.out) (by first | assumption | omega | (simp; omega) | simp_all) (by rw [hvl]; exact hlt34)) ?_)))
    refine DO.quiet rfl (q_ld Try.underlying22 rfl rfl (Sl.o h.out) g1) (DO.quiet rfl (q_fieldAddr Try.underlying26 rfl inf3 rfl rfl) (DO.quiet rfl (q_load_box 0 Try.underlying3 rfl rfl rfl rfl) ?_))
    have hk44 := fun (w1 : World) (hI : Inv w [oI bx1 26 (buCells b sb sc eb ec tb tc)] w1) => risesF w1 rb rc b.sets[k] b.states (hI.sl s1) (hB.sr _ (List.getElem_mem hlt34))
    refine DO.last rfl rfl (l_call ent65 (CallT.of_pure hk44) rfl ?_)
    clear hk44
    rintro vr O' ⟨N, rfl, rfl, rfl⟩
    refine DO.last rfl rfl (LT.of_quiet rfl rfl (q_not rfl) ?_)
    refine DO.done ?_
    refine T.cond rfl (fun hc => ?_) (fun hc => ?_)
    · refine T.seq ?_
      refine T.region ?_
      refine TO.quiet (q_assign rfl) ?_
      refine TO.nil (T.ret (Res.drop ?_))
      refine Res.one (.int .i64 8) Try.results22 rfl ?_
      refine ⟨[], Sub.of (List.nil_sublist _), congrArg (fun z : Nat => Value.int .i64 (z : Int)) (Eq.symm (a := checkB b) (b := 8) ?_), rfl⟩
      exact checkB_8 (by omega) (by omega) (by omega) (by omega) (all_no (k := k + 1) (by simp; omega) (by simpa using hc))
    refine T.skip (T.region ?_)
    refine TO.quiet (q_move rfl) (TO.quiet (q_addN (a := k) (b := 1) rfl rfl (by omega)) (TO.quiet (q_assign rfl) ?_))
    refine TO.nil ?_
    exact ⟨k + 1, by omega, rfl, by omega, hrs, all_snoc hlt34 hall (by simpa using hc), ⟨rfl, rfl, rfl, trivial⟩⟩
  have hge34 : ¬ k < b.sets.length := by omega
  refine T.exit ?_
  refine T.seq (T.seq (T.region ?_))
  refine TO.quiet (q_assign rfl) ?_
  refine TO.nil (T.block ?_)
  refine T.loopS (fun (j : Nat) ρ O => O = [oI bx1 26 (buCells b sb sc eb ec tb tc)] ∧ j ≤ b.edges.length ∧ edgesE b.states b.vars.toNat (b.edges.drop j) = checkB b ∧ Heads [(0, (.agg (buCells b sb sc eb ec tb tc).toArray)), (1, (.pointer (some ⟨bx1, 0, none⟩))), (3, .int .i64 (k : Int)), (4, .int .i64 (j : Int))] ρ) (fun j => b.edges.length - j) 0 ?_ ?_
  · exact ⟨rfl, Nat.zero_le _, (checkB_e (by omega) (by omega) (by omega) (by omega) (by rw [List.all_cons, hrs, all_done (by omega) hall]; rfl)).symm, ⟨rfl, rfl, rfl, rfl, trivial⟩⟩
  rintro j ρ O ⟨rfl, hj, he, hH⟩
  obtain ⟨ρ0, rfl⟩ := hH.elim
  clear hH
  refine T.seq (T.seq (T.region ?_))
  refine TO.quiet (q_move rfl) (TO.quiet (q_fieldAddr Try.underlying26 rfl inf23 rfl rfl) (TO.quiet (q_load_box 0 Try.underlying23 rfl rfl rfl rfl) (TO.quiet (q_len Try.underlying23 rfl) ?_)))
  refine TO.quiet (q_lss rfl rfl) ?_
  refine TO.nil ?_
  refine T.condP rfl (fun hc => ?_) (fun hc => ?_)
  · have hlt50 : j < b.edges.length := by omega
    have hpn := hB.pn _ (List.getElem_mem hlt50)
    refine T.skip (T.seq (T.block (T.seq (T.region ?_))))
    refine TO.quiet (q_fieldAddr Try.underlying26 rfl inf23 rfl rfl) (TO.quiet (q_load_box 0 Try.underlying23 rfl rfl rfl rfl) (TO.quiet (q_move rfl) (TO.quiet (q_ixK (i := j) Try.underlying23 inf54 rfl rfl (Sl.o h.ed) (by first | assumption | omega | (simp; omega) | simp_all) (by first | (rw [eds_len]; omega) | (simp [eds_len]; omega) | (simp_all [eds_len]; omega))) ?_)))
    refine TO.quiet (q_ldK (vs := [.int .i64 b.edges[j].fr, .int .i64 b.edges[j].to, .int .u8 ((b.edges[j].pos : Nat) : Int), .int .u8 ((b.edges[j].neg : Nat) : Int)]) Try.underlying54 rfl inf54 rfl rfl (Nat.succ_pos _) (Sl.o h.ed) (eds_get (by first | assumption | omega | (simp; omega) | simp_all))) ?_
    refine TO.loud rfl (l_alloc inf54 rfl (fun bx2 => ?_))
    refine TO.loud rfl (l_store_box (v := (.agg #[.int .i64 b.edges[j].fr, .int .i64 b.edges[j].to, .int .u8 ((b.edges[j].pos : Nat) : Int), .int .u8 ((b.edges[j].neg : Nat) : Int)])) (vs := [.int .i64 b.edges[j].fr, .int .i64 b.edges[j].to, .int .u8 ((b.edges[j].pos : Nat) : Int), .int .u8 ((b.edges[j].neg : Nat) : Int)]) 0 inf54 rfl rfl rfl rfl rfl rfl (by simp [putL]) ?_)
    refine TO.nil (T.seq (T.seq (T.region ?_)))
    refine TO.quiet (q_fieldAddr Try.underlying54 rfl inf3 rfl rfl) (TO.quiet (q_load_box 0 Try.underlying3 rfl rfl rfl rfl) (TO.quiet (q_lss rfl rfl) ?_))
    by_cases hs61 : b.edges[j].fr < 0
    · refine TO.quiet (QT.toB (q_move rfl) (decide_eq_true hs61)) ?_
      refine TO.passed rfl rfl ?_
      refine TO.passed rfl rfl ?_
      refine TO.passed rfl rfl ?_
      refine TO.passed rfl rfl ?_
      refine TO.passed rfl rfl ?_
      refine TO.quiet (q_pick1 rfl rfl) (TO.quiet (q_move rfl) ?_)
      refine TO.passed rfl rfl ?_
      refine TO.passed rfl rfl ?_
      refine TO.passed rfl rfl ?_
      refine TO.quiet (q_pick1 rfl rfl) (TO.quiet (q_move rfl) ?_)
      refine TO.passed rfl rfl ?_
      refine TO.passed rfl rfl ?_
      refine TO.passed rfl rfl ?_
      refine TO.passed rfl rfl ?_
      refine TO.passed rfl rfl ?_
      refine TO.quiet (q_pick1 rfl rfl) ?_
      refine TO.nil ?_
      refine T.cond1 rfl ?_
      refine T.seq (T.region ?_)
      refine TO.quiet (q_assign rfl) ?_
      refine TO.nil (T.ret (Res.drop ?_))
      refine Res.one (.int .i64 8) Try.results22 rfl ?_
      refine ⟨[], Sub.of (List.nil_sublist _), congrArg (fun z : Nat => Value.int .i64 (z : Int)) (Eq.symm (a := checkB b) (b := 8) ?_), rfl⟩
      rw [← he]; exact edges_8 hlt50 (by omega)
    refine TO.quiet (QT.toB (q_move rfl) (decide_eq_false hs61)) ?_
    refine TO.guarded rfl rfl rfl (LT.of_quiet rfl rfl (q_fieldAddr Try.underlying54 rfl inf3 rfl rfl) ?_)
    refine TO.guarded rfl rfl rfl (LT.of_quiet rfl rfl (q_load_box 0 Try.underlying3 rfl rfl rfl rfl) ?_)
    refine TO.guarded rfl rfl rfl (LT.of_quiet rfl rfl (q_fieldAddr Try.underlying26 rfl inf3 rfl rfl) ?_)
    refine TO.guarded rfl rfl rfl (LT.of_quiet rfl rfl (q_load_box 1 Try.underlying3 rfl rfl rfl rfl) ?_)
    refine TO.guarded rfl rfl rfl (LT.of_quiet rfl rfl (q_geq rfl rfl) ?_)
    refine TO.quiet (q_pick0 rfl rfl) ?_
    by_cases hs68 : b.edges[j].fr ≥ b.states
    · refine TO.quiet (QT.toB (q_move rfl) (decide_eq_true hs68)) ?_
      refine TO.passed rfl rfl ?_
      refine TO.passed rfl rfl ?_
      refine TO.passed rfl rfl ?_
      refine TO.quiet (q_pick1 rfl rfl) (TO.quiet (q_move rfl) ?_)
      refine TO.passed rfl rfl ?_
      refine TO.passed rfl rfl ?_
      refine TO.passed rfl rfl ?_
      refine TO.passed rfl rfl ?_
      refine TO.passed rfl rfl ?_
      refine TO.quiet (q_pick1 rfl rfl) ?_
      refine TO.nil ?_
      refine T.cond1 rfl ?_
      refine T.seq (T.region ?_)
      refine TO.quiet (q_assign rfl) ?_
      refine TO.nil (T.ret (Res.drop ?_))
      refine Res.one (.int .i64 8) Try.results22 rfl ?_
      refine ⟨[], Sub.of (List.nil_sublist _), congrArg (fun z : Nat => Value.int .i64 (z : Int)) (Eq.symm (a := checkB b) (b := 8) ?_), rfl⟩
      rw [← he]; exact edges_8 hlt50 (by omega)
    refine TO.quiet (QT.toB (q_move rfl) (decide_eq_false hs68)) ?_
    refine TO.guarded rfl rfl rfl (LT.of_quiet rfl rfl (q_fieldAddr Try.underlying54 rfl inf3 rfl rfl) ?_)
    refine TO.guarded rfl rfl rfl (LT.of_quiet rfl rfl (q_load_box 0 Try.underlying3 rfl rfl rfl rfl) ?_)
    refine TO.guarded rfl rfl rfl (LT.of_quiet rfl rfl (q_lss rfl rfl) ?_)
    refine TO.quiet (q_pick0 rfl rfl) ?_
    by_cases hs73 : b.edges[j].to < 0
    · refine TO.quiet (QT.toB (q_move rfl) (decide_eq_true hs73)) ?_
      refine TO.passed rfl rfl ?_
      refine TO.passed rfl rfl ?_
      refine TO.passed rfl rfl ?_
      refine TO.passed rfl rfl ?_
      refine TO.passed rfl rfl ?_
      refine TO.quiet (q_pick1 rfl rfl) ?_
      refine TO.nil ?_
      refine T.cond1 rfl ?_
      refine T.seq (T.region ?_)
      refine TO.quiet (q_assign rfl) ?_
      refine TO.nil (T.ret (Res.drop ?_))
      refine Res.one (.int .i64 8) Try.results22 rfl ?_
      refine ⟨[], Sub.of (List.nil_sublist _), congrArg (fun z : Nat => Value.int .i64 (z : Int)) (Eq.symm (a := checkB b) (b := 8) ?_), rfl⟩
      rw [← he]; exact edges_8 hlt50 (by omega)
    refine TO.quiet (QT.toB (q_move rfl) (decide_eq_false hs73)) ?_
    refine TO.guarded rfl rfl rfl (LT.of_quiet rfl rfl (q_fieldAddr Try.underlying54 rfl inf3 rfl rfl) ?_)
    refine TO.guarded rfl rfl rfl (LT.of_quiet rfl rfl (q_load_box 0 Try.underlying3 rfl rfl rfl rfl) ?_)
    refine TO.guarded rfl rfl rfl (LT.of_quiet rfl rfl (q_fieldAddr Try.underlying26 rfl inf3 rfl rfl) ?_)
    refine TO.guarded rfl rfl rfl (LT.of_quiet rfl rfl (q_load_box 1 Try.underlying3 rfl rfl rfl rfl) ?_)
    refine TO.guarded rfl rfl rfl (LT.of_quiet rfl rfl (q_geq rfl rfl) ?_)
    refine TO.quiet (q_pick0 rfl rfl) ?_
    refine TO.nil ?_
    refine T.condP rfl (fun hc => ?_) (fun hc => ?_)
    · refine T.seq ?_
      refine T.region ?_
      refine TO.quiet (q_assign rfl) ?_
      refine TO.nil (T.ret (Res.drop ?_))
      refine Res.one (.int .i64 8) Try.results22 rfl ?_
      refine ⟨[], Sub.of (List.nil_sublist _), congrArg (fun z : Nat => Value.int .i64 (z : Int)) (Eq.symm (a := checkB b) (b := 8) ?_), rfl⟩
      rw [← he]; exact edges_8 hlt50 (by omega)
    refine T.skip (T.seq (T.region ?_))
    refine TO.quiet (q_fieldAddr Try.underlying54 rfl inf5 rfl rfl) (TO.quiet (q_load_box 0 Try.underlying5 rfl rfl rfl rfl) (TO.quiet (q_conv_id Try.underlying5 Try.underlying3 rfl (wrap64_id ⟨by omega, by omega⟩)) (TO.quiet (q_fieldAddr Try.underlying26 rfl inf3 rfl rfl) ?_)))
    refine TO.quiet (q_load_box 1 Try.underlying3 rfl rfl rfl rfl) (TO.quiet (q_conv_id Try.underlying3 Try.underlying52 rfl (show IntKind.u64.wrap b.vars = b.vars by unfold IntKind.wrap; simp [IntKind.bits, IntKind.signed]; omega)) (TO.quiet (q_shl1 (v := b.vars.toNat) rfl (by show Value.int _ b.vars = _; rw [Int.toNat_of_nonneg (by omega)]) (by omega)) (TO.quiet (q_geq rfl rfl) ?_)))
    by_cases hs88 : ((b.edges[j].pos : Nat) : Int) ≥ ((2 ^ b.vars.toNat : Nat) : Int)
    · refine TO.quiet (QT.toB (q_move rfl) (decide_eq_true hs88)) ?_
      refine TO.passed rfl rfl ?_
      refine TO.passed rfl rfl ?_
      refine TO.passed rfl rfl ?_
      refine TO.passed rfl rfl ?_
      refine TO.passed rfl rfl ?_
      refine TO.passed rfl rfl ?_
      refine TO.passed rfl rfl ?_
      refine TO.passed rfl rfl ?_
      refine TO.quiet (q_pick1 rfl rfl) (TO.quiet (q_move rfl) ?_)
      refine TO.passed rfl rfl ?_
      refine TO.passed rfl rfl ?_
      refine TO.passed rfl rfl ?_
      refine TO.passed rfl rfl ?_
      refine TO.passed rfl rfl ?_
      refine TO.passed rfl rfl ?_
      refine TO.quiet (q_pick1 rfl rfl) ?_
      refine TO.nil ?_
      refine T.cond1 rfl ?_
      refine T.seq (T.region ?_)
      refine TO.quiet (q_assign rfl) ?_
      refine TO.nil (T.ret (Res.drop ?_))
      refine Res.one (.int .i64 1) Try.results22 rfl ?_
      refine ⟨[], Sub.of (List.nil_sublist _), congrArg (fun z : Nat => Value.int .i64 (z : Int)) (Eq.symm (a := checkB b) (b := 1) ?_), rfl⟩
      rw [← he]; exact edges_1 hlt50 (by omega) (fun q => by have := q.1; have := q.2.1; have := q.2.2; omega)
    refine TO.quiet (QT.toB (q_move rfl) (decide_eq_false hs88)) ?_
    refine TO.guarded rfl rfl rfl (LT.of_quiet rfl rfl (q_fieldAddr Try.underlying54 rfl inf5 rfl rfl) ?_)
    refine TO.guarded rfl rfl rfl (LT.of_quiet rfl rfl (q_load_box 0 Try.underlying5 rfl rfl rfl rfl) ?_)
    refine TO.guarded rfl rfl rfl (LT.of_quiet rfl rfl (q_conv_id Try.underlying5 Try.underlying3 rfl (wrap64_id ⟨by omega, by omega⟩)) ?_)
    refine TO.guarded rfl rfl rfl (LT.of_quiet rfl rfl (q_fieldAddr Try.underlying26 rfl inf3 rfl rfl) ?_)
    refine TO.guarded rfl rfl rfl (LT.of_quiet rfl rfl (q_load_box 1 Try.underlying3 rfl rfl rfl rfl) ?_)
    refine TO.guarded rfl rfl rfl (LT.of_quiet rfl rfl (q_conv_id Try.underlying3 Try.underlying52 rfl (show IntKind.u64.wrap b.vars = b.vars by unfold IntKind.wrap; simp [IntKind.bits, IntKind.signed]; omega)) ?_)
    refine TO.guarded rfl rfl rfl (LT.of_quiet rfl rfl (q_shl1 (v := b.vars.toNat) rfl (by show Value.int _ b.vars = _; rw [Int.toNat_of_nonneg (by omega)]) (by omega)) ?_)
    refine TO.guarded rfl rfl rfl (LT.of_quiet rfl rfl (q_geq rfl rfl) ?_)
    refine TO.quiet (q_pick0 rfl rfl) ?_
    by_cases hs98 : ((b.edges[j].neg : Nat) : Int) ≥ ((2 ^ b.vars.toNat : Nat) : Int)
    · refine TO.quiet (QT.toB (q_move rfl) (decide_eq_true hs98)) ?_
      refine TO.passed rfl rfl ?_
      refine TO.passed rfl rfl ?_
      refine TO.passed rfl rfl ?_
      refine TO.passed rfl rfl ?_
      refine TO.passed rfl rfl ?_
      refine TO.passed rfl rfl ?_
      refine TO.quiet (q_pick1 rfl rfl) ?_
      refine TO.nil ?_
      refine T.cond1 rfl ?_
      refine T.seq (T.region ?_)
      refine TO.quiet (q_assign rfl) ?_
      refine TO.nil (T.ret (Res.drop ?_))
      refine Res.one (.int .i64 1) Try.results22 rfl ?_
      refine ⟨[], Sub.of (List.nil_sublist _), congrArg (fun z : Nat => Value.int .i64 (z : Int)) (Eq.symm (a := checkB b) (b := 1) ?_), rfl⟩
      rw [← he]; exact edges_1 hlt50 (by omega) (fun q => by have := q.1; have := q.2.1; have := q.2.2; omega)
    refine TO.quiet (QT.toB (q_move rfl) (decide_eq_false hs98)) ?_
    refine TO.guarded rfl rfl rfl (LT.of_quiet rfl rfl (q_fieldAddr Try.underlying54 rfl inf5 rfl rfl) ?_)
    refine TO.guarded rfl rfl rfl (LT.of_quiet rfl rfl (q_load_box 0 Try.underlying5 rfl rfl rfl rfl) ?_)
    refine TO.guarded rfl rfl rfl (LT.of_quiet rfl rfl (q_fieldAddr Try.underlying54 rfl inf5 rfl rfl) ?_)
    refine TO.guarded rfl rfl rfl (LT.of_quiet rfl rfl (q_load_box 0 Try.underlying5 rfl rfl rfl rfl) ?_)
    refine TO.guarded rfl rfl rfl (LT.of_quiet rfl rfl (q_and (a := b.edges[j].pos) (b := b.edges[j].neg) .u8 rfl rfl (by show _ < 256; omega) (by show _ < 256; omega)) ?_)
    refine TO.guarded rfl rfl rfl (LT.of_quiet rfl rfl (q_neq rfl rfl) ?_)
    refine TO.quiet (q_pick0 rfl rfl) ?_
    refine TO.nil ?_
    refine T.condP rfl (fun hc => ?_) (fun hc => ?_)
    · have hlt105 : b.edges[j].pos &&& b.edges[j].neg ≠ 0 := by omega
      refine T.seq (T.region ?_)
      refine TO.quiet (q_assign rfl) ?_
      refine TO.nil (T.ret (Res.drop ?_))
      refine Res.one (.int .i64 1) Try.results22 rfl ?_
      refine ⟨[], Sub.of (List.nil_sublist _), congrArg (fun z : Nat => Value.int .i64 (z : Int)) (Eq.symm (a := checkB b) (b := 1) ?_), rfl⟩
      rw [← he]; exact edges_1 hlt50 (by omega) (fun q => by have := q.1; have := q.2.1; have := q.2.2; omega)
    have hge105 : ¬ b.edges[j].pos &&& b.edges[j].neg ≠ 0 := by omega
    refine T.skip (T.region ?_)
    refine TO.quiet (q_move rfl) (TO.quiet (q_addN (a := j) (b := 1) rfl rfl (by omega)) (TO.quiet (q_assign rfl) ?_))
    refine TO.nil ?_
    exact ⟨j + 1, by omega, [oI bx1 26 (buCells b sb sc eb ec tb tc)], (Sub.pick [1] rfl), rfl, by omega, by rw [← he, edges_0 hlt50 (by omega) ⟨by omega, by omega, by omega⟩], ⟨rfl, rfl, rfl, rfl, trivial⟩⟩
  have hge50 : ¬ j < b.edges.length := by omega
  refine T.exit ?_
  refine T.seq (T.region ?_)
  refine TO.quiet (q_assign rfl) ?_
  refine TO.nil (T.ret (Res.drop ?_))
  refine Res.one (.int .i64 0) Try.results22 rfl ?_
  refine ⟨[], Sub.of (List.nil_sublist _), congrArg (fun z : Nat => Value.int .i64 (z : Int)) (Eq.symm (a := checkB b) (b := 0) ?_), rfl⟩
  rw [← he, List.drop_eq_nil_of_le (by omega)]; rfl
end Go.Proofs.Ytnamoapbienooaa

namespace Go.Proofs.Ytnamoapbienooaa
open Go.Lx Go.RowKit
set_option linter.unusedVariables false
set_option linter.unusedSimpArgs false
set_option maxHeartbeats 1000000 in
set_option maxRecDepth 20000 in
theorem statesG (w : World) (b : Bu) (sb eb tb : Option Addr) (sc ec tc : Nat) (vs : List Value) (h : BuAt w b sb eb tb vs) (hB : BuB b) (hv : ValidB b) :
    PureT Try.prog 63 [.agg (buCells b sb sc eb ec tb tc).toArray] w fun v N => ∃ ab ac nb nc qs, v = .agg #[(.int .i64 b.vars), (.int .i64 b.states), (.slice sb b.start.length sc), (.slice eb b.edges.length ec), (.slice tb b.sets.length tc), .slice ab b.states.toNat ac, .slice nb b.states.toNat nc] ∧ N = [rowI ab ac 3 1 (nats (List.range b.states.toNat)), rowI nb nc 22 1 (vals qs)] ++ itms 3 qs ∧ RowsP b.states.toNat (autR b.edges) b.edges.length (nums qs) := by
  refine CallT.enter Try.func63 rfl Try.ntmps63 rfl ?_
  have hv0 := hv.n0; have hv4 := hv.n4; have hed := hB.ed
  obtain ⟨n, hn⟩ : ∃ n : Nat, b.states = (n : Int) := ⟨b.states.toNat, by omega⟩
  have hnn : b.states.toNat = n := by omega
  refine T.seq (T.region ?_)
  refine TO.loud rfl (l_box (v := (.agg (buCells b sb sc eb ec tb tc).toArray)) (cs := (buCells b sb sc eb ec tb tc)) rfl rfl (fun bx1 => ?_))
  refine TO.loud rfl (l_alloc inf91 rfl (fun bx2 => ?_))
  refine TO.nil ?_
  refine T.cut (fun ρ O => ∃ (zN zG : Nat), O = [oI zG 91 [(.int .i64 b.vars), (.int .i64 b.states), (.slice sb b.start.length sc), (.slice eb b.edges.length ec), (.slice tb b.sets.length tc), (.slice none 0 0), (.slice (some ⟨zN, 0, none⟩) n n)], rowI (some ⟨zN, 0, none⟩) n 22 1 (List.replicate n (.slice none 0 0)), oI bx2 91 [(.int .i64 0), (.int .i64 0), (.slice none 0 0), (.slice none 0 0), (.slice none 0 0), (.slice none 0 0), (.slice none 0 0)], oI bx1 26 (buCells b sb sc eb ec tb tc)] ∧ Heads [(0, (.agg (buCells b sb sc eb ec tb tc).toArray)), (1, (.pointer (some ⟨bx1, 0, none⟩))), (2, (.pointer (some ⟨bx2, 0, none⟩))), (3, (.pointer (some ⟨zG, 0, none⟩)))] ρ) ?_ ?_
  · refine T.tree [oI bx1 26 (buCells b sb sc eb ec tb tc)] 7 mixed rfl (Sub.pick [1] rfl) (fun _ _ _ h => h) ?_
    refine RO.quietT 0 rfl (by kernel_rfl) (q_load_boxAgg 0 Try.underlying26 rfl inf26 rfl rfl rfl) ?_
    refine RO.quietT 1 rfl (by kernel_rfl) (q_fieldAddr Try.underlying26 rfl inf3 rfl rfl) ?_
    refine RO.quietT 2 rfl (by kernel_rfl) (QT.cast (q_load_box 0 Try.underlying3 rfl rfl rfl rfl) (v' := .int .i64 ((n : Nat) : Int)) (by show Value.int _ b.states = _; rw [hn])) ?_
    refine RO.fork [3, 5] (by kernel_rfl) rfl ⟨⟨_, rfl, rfl, l_makeSlice (m := n) Try.underlying24 inf22 rfl rfl (by omega) (by omega) (fun zN => ⟨Sub.pick [2] rfl, ?_⟩)⟩, ⟨_, rfl, rfl, l_alloc inf91 rfl (fun zG => ⟨Sub.pick [2] rfl, ?_⟩)⟩, trivial⟩
    · refine RO.quietT 4 rfl (by kernel_rfl) (q_build (cs := [(.int .i64 b.vars), (.int .i64 b.states), (.slice sb b.start.length sc), (.slice eb b.edges.length ec), (.slice tb b.sets.length tc), (.slice none 0 0), (.slice (some ⟨zN, 0, none⟩) n n)]) plan91 inf91 (by kernel_rfl)) ?_
      refine RO.fork [5] (by kernel_rfl) rfl ⟨⟨_, rfl, rfl, l_alloc inf91 rfl (fun zG => ⟨Sub.pick [3] rfl, ?_⟩)⟩, trivial⟩
      refine RO.fork [6] (by kernel_rfl) rfl ⟨⟨_, rfl, rfl, l_store_box (v := (.agg #[(.int .i64 b.vars), (.int .i64 b.states), (.slice sb b.start.length sc), (.slice eb b.edges.length ec), (.slice tb b.sets.length tc), (.slice none 0 0), (.slice (some ⟨zN, 0, none⟩) n n)])) (vs := [(.int .i64 b.vars), (.int .i64 b.states), (.slice sb b.start.length sc), (.slice eb b.edges.length ec), (.slice tb b.sets.length tc), (.slice none 0 0), (.slice (some ⟨zN, 0, none⟩) n n)]) 0 inf91 rfl rfl rfl rfl rfl rfl (by simp [putL]) ⟨Sub.pick [3] rfl, ?_⟩⟩, trivial⟩
      exact RO.fin (by kernel_rfl) ⟨zN, zG, rfl, ⟨rfl, rfl, rfl, rfl, trivial⟩⟩ (Sub.pick [0, 0, 0, 0] rfl)
    refine RO.fork [3] (by kernel_rfl) rfl ⟨⟨_, rfl, rfl, l_makeSlice (m := n) Try.underlying24 inf22 rfl rfl (by omega) (by omega) (fun zN => ⟨Sub.pick [3] rfl, ?_⟩)⟩, trivial⟩
    refine RO.quietT 4 rfl (by kernel_rfl) (q_build (cs := [(.int .i64 b.vars), (.int .i64 b.states), (.slice sb b.start.length sc), (.slice eb b.edges.length ec), (.slice tb b.sets.length tc), (.slice none 0 0), (.slice (some ⟨zN, 0, none⟩) n n)]) plan91 inf91 (by kernel_rfl)) ?_
    refine RO.fork [6] (by kernel_rfl) rfl ⟨⟨_, rfl, rfl, l_store_box (v := (.agg #[(.int .i64 b.vars), (.int .i64 b.states), (.slice sb b.start.length sc), (.slice eb b.edges.length ec), (.slice tb b.sets.length tc), (.slice none 0 0), (.slice (some ⟨zN, 0, none⟩) n n)])) (vs := [(.int .i64 b.vars), (.int .i64 b.states), (.slice sb b.start.length sc), (.slice eb b.edges.length ec), (.slice tb b.sets.length tc), (.slice none 0 0), (.slice (some ⟨zN, 0, none⟩) n n)]) 1 inf91 rfl rfl rfl rfl rfl rfl (by simp [putL]) ⟨Sub.pick [3] rfl, ?_⟩⟩, trivial⟩
    exact RO.fin (by kernel_rfl) ⟨zN, zG, rfl, ⟨rfl, rfl, rfl, rfl, trivial⟩⟩ (Sub.pick [1, 0, 0, 0] rfl)
  rintro ρ O ⟨zN, zG, rfl, hH⟩
  obtain ⟨ρ0, rfl⟩ := hH.elim
  clear hH
  refine T.seq (T.seq (T.region ?_))
  refine TO.quiet (q_assign rfl) ?_
  refine TO.nil (T.block ?_)
  refine T.nilRow 3 1 ?_
  refine T.loopS (fun (k : Nat) ρ O => ∃ (ab : Option Addr) (ac : Nat), O = [rowI ab ac 3 1 (nats (List.range k)), oI zG 91 [(.int .i64 b.vars), (.int .i64 b.states), (.slice sb b.start.length sc), (.slice eb b.edges.length ec), (.slice tb b.sets.length tc), (.slice ab k ac), (.slice (some ⟨zN, 0, none⟩) n n)], rowI (some ⟨zN, 0, none⟩) n 22 1 (List.replicate n (.slice none 0 0)), oI bx2 91 [(.int .i64 0), (.int .i64 0), (.slice none 0 0), (.slice none 0 0), (.slice none 0 0), (.slice none 0 0), (.slice none 0 0)], oI bx1 26 (buCells b sb sc eb ec tb tc)] ∧ k ≤ n ∧ Heads [(0, (.agg (buCells b sb sc eb ec tb tc).toArray)), (1, (.pointer (some ⟨bx1, 0, none⟩))), (2, (.pointer (some ⟨bx2, 0, none⟩))), (3, (.pointer (some ⟨zG, 0, none⟩))), (4, .int .i64 (k : Int))] ρ) (fun k => n - k) 0 ?_ ?_
  · exact ⟨none, 0, rfl, Nat.zero_le _, ⟨rfl, rfl, rfl, rfl, rfl, trivial⟩⟩
  rintro k ρ O ⟨ab, ac, rfl, hk, hH⟩
  obtain ⟨ρ0, rfl⟩ := hH.elim
  clear hH
  refine T.seq (T.seq (T.region ?_))
  refine TO.quiet (q_move rfl) (TO.quiet (q_fieldAddr Try.underlying26 rfl inf3 rfl rfl) (TO.quiet (QT.cast (q_load_box 4 Try.underlying3 rfl rfl rfl rfl) (v' := .int .i64 ((n : Nat) : Int)) (by show Value.int _ b.states = _; rw [hn])) (TO.quiet (q_lss rfl rfl) ?_)))
  refine TO.nil ?_
  refine T.condP rfl (fun hc => ?_) (fun hc => ?_)
  · have hlt14 : k < n := by omega
    refine T.skip (T.seq (T.block (T.region ?_)))
    refine TO.quiet (q_fieldAddr Try.underlying91 rfl inf22 rfl rfl) (TO.quiet (q_load_box 1 Try.underlying22 rfl rfl rfl rfl) (TO.quiet (q_move rfl) ?_))
    refine TO.loud rfl (l_build1 (v := .int .i64 (k : Int)) Try.underlying22 inf3 rfl rfl rfl (fun bx3 => ?_))
    refine TO.loud rfl (l_append 1 Try.underlying22 Try.underlying22 inf3 rfl rfl rfl rfl (by simp) (by decide) (Src.row (j := 0) rfl (by simp)) (by simp [oneB]) (by omega) (by decide) (by decide) (fun bx4 c5 => ?_))
    refine TO.quiet (q_fieldAddr Try.underlying91 rfl inf22 rfl rfl) ?_
    refine TO.loud rfl (l_store_box (v := (.slice bx4 (k + 1) c5)) (vs := [(.slice bx4 (k + 1) c5)]) 2 inf22 rfl rfl rfl rfl rfl rfl (by simp [putL]) ?_)
    refine TO.nil (T.region ?_)
    refine TO.quiet (q_move rfl) (TO.quiet (q_addN (a := k) (b := 1) rfl rfl (by omega)) (TO.quiet (q_assign rfl) ?_))
    refine TO.nil ?_
    refine ⟨k + 1, by omega, [rowI bx4 c5 3 1 ((nats (List.range k)) ++ [.int .i64 (k : Int)]), oI zG 91 [(.int .i64 b.vars), (.int .i64 b.states), (.slice sb b.start.length sc), (.slice eb b.edges.length ec), (.slice tb b.sets.length tc), (.slice bx4 (k + 1) c5), (.slice (some ⟨zN, 0, none⟩) n n)], rowI (some ⟨zN, 0, none⟩) n 22 1 (List.replicate n (.slice none 0 0)), oI bx2 91 [(.int .i64 0), (.int .i64 0), (.slice none 0 0), (.slice none 0 0), (.slice none 0 0), (.slice none 0 0), (.slice none 0 0)], oI bx1 26 (buCells b sb sc eb ec tb tc)], (Sub.pick [1, 1, 1, 1, 1] rfl), bx4, c5, ?_, by omega, ⟨rfl, rfl, rfl, rfl, rfl, trivial⟩⟩
    rw [List.range_succ, show nats (List.range k ++ [k]) = nats (List.range k) ++ [.int .i64 ((k : Nat) : Int)] from List.map_append]
  have hge14 : ¬ k < n := by omega
  refine T.exit ?_
  refine T.seq (T.seq (T.region ?_))
  refine TO.quiet (q_assign rfl) ?_
  refine TO.nil (T.block ?_)
  refine T.nilRows 3 n ?_
  refine T.loop (fun (j : Nat) ρ O => ∃ (qs : List Rec), O = ([rowI ab ac 3 1 (nats (List.range k)), oI zG 91 [(.int .i64 b.vars), (.int .i64 b.states), (.slice sb b.start.length sc), (.slice eb b.edges.length ec), (.slice tb b.sets.length tc), (.slice ab k ac), (.slice (some ⟨zN, 0, none⟩) n n)], rowI (some ⟨zN, 0, none⟩) n 22 1 (vals qs), oI bx2 91 [(.int .i64 0), (.int .i64 0), (.slice none 0 0), (.slice none 0 0), (.slice none 0 0), (.slice none 0 0), (.slice none 0 0)], oI bx1 26 (buCells b sb sc eb ec tb tc)] ++ (itms 3 qs)) ∧ j ≤ b.edges.length ∧ RowsP n (autR (b.edges.take j)) j (nums qs) ∧ Heads [(0, (.agg (buCells b sb sc eb ec tb tc).toArray)), (1, (.pointer (some ⟨bx1, 0, none⟩))), (2, (.pointer (some ⟨bx2, 0, none⟩))), (3, (.pointer (some ⟨zG, 0, none⟩))), (4, .int .i64 (k : Int)), (5, .int .i64 (j : Int))] ρ) (fun j => b.edges.length - j) 0 ?_ ?_
  · exact ⟨List.replicate n nilRec, (by simp only [List.map_replicate]; rfl), Nat.zero_le _, RowsP.start (fun u y _ ⟨e, he, _⟩ => by simp at he) _, ⟨rfl, rfl, rfl, rfl, rfl, rfl, trivial⟩⟩
  rintro j ρ O ⟨qs, rfl, hj, hrw, hH⟩
  obtain ⟨ρ0, rfl⟩ := hH.elim
  clear hH
  have hql := hrw.ql
  refine T.seq (T.seq (T.region ?_))
  refine TO.quiet (q_move rfl) (TO.quiet (q_fieldAddr Try.underlying26 rfl inf23 rfl rfl) (TO.quiet (q_load_box 4 Try.underlying23 rfl rfl rfl rfl) (TO.quiet (q_len Try.underlying23 rfl) ?_)))
  refine TO.quiet (q_lss rfl rfl) ?_
  refine TO.nil ?_
  refine T.condP rfl (fun hc => ?_) (fun hc => ?_)
  · have hlt27 : j < b.edges.length := by omega
    obtain ⟨u, hu, hun⟩ : ∃ u : Nat, b.edges[j].fr = (u : Int) ∧ u < n := by
      have := (hv.ed _ (List.getElem_mem hlt27)).1
      exact ⟨b.edges[j].fr.toNat, by omega, by omega⟩
    have hqu : u < qs.length := by omega
    have hrq := hrw.rl hqu
    refine T.skip (T.seq (T.block ?_))
    refine T.sub (sub_out hqu [rowI ab ac 3 1 (nats (List.range k)), oI zG 91 [(.int .i64 b.vars), (.int .i64 b.states), (.slice sb b.start.length sc), (.slice eb b.edges.length ec), (.slice tb b.sets.length tc), (.slice ab k ac), (.slice (some ⟨zN, 0, none⟩) n n)], rowI (some ⟨zN, 0, none⟩) n 22 1 (vals qs), oI bx2 91 [(.int .i64 0), (.int .i64 0), (.slice none 0 0), (.slice none 0 0), (.slice none 0 0), (.slice none 0 0), (.slice none 0 0)], oI bx1 26 (buCells b sb sc eb ec tb tc)]) ?_
    refine T.draws [rowI ab ac 3 1 (nats (List.range k)), oI zG 91 [(.int .i64 b.vars), (.int .i64 b.states), (.slice sb b.start.length sc), (.slice eb b.edges.length ec), (.slice tb b.sets.length tc), (.slice ab k ac), (.slice (some ⟨zN, 0, none⟩) n n)], rowI (some ⟨zN, 0, none⟩) n 22 1 (vals qs), oI bx2 91 [(.int .i64 0), (.int .i64 0), (.slice none 0 0), (.slice none 0 0), (.slice none 0 0), (.slice none 0 0), (.slice none 0 0)], oI bx1 26 (buCells b sb sc eb ec tb tc)] [(0, 0), (1, 0), (2, 0), (3, 0), (4, 0), (5, 0), (6, 0), (7, 0), (8, 0), (9, 0), (10, 0), (11, 0), (12, 0), (13, 0), (14, 0), (15, 0), (16, 0), (17, 0), (18, 0), (19, 0), (20, 0), (21, 0), (22, 0), (23, 0), (24, 1), (25, 1), (26, 0), (27, 2)] mixed (by kernel_rfl) (Sub.pick0 [1, 1, 1, 1, 1] [rowI qs[u].b qs[u].c 3 1 (ints qs[u].xs), rowI ab ac 3 1 (nats (List.range k)), oI zG 91 [(.int .i64 b.vars), (.int .i64 b.states), (.slice sb b.start.length sc), (.slice eb b.edges.length ec), (.slice tb b.sets.length tc), (.slice ab k ac), (.slice (some ⟨zN, 0, none⟩) n n)], rowI (some ⟨zN, 0, none⟩) n 22 1 (vals qs), oI bx2 91 [(.int .i64 0), (.int .i64 0), (.slice none 0 0), (.slice none 0 0), (.slice none 0 0), (.slice none 0 0), (.slice none 0 0)], oI bx1 26 (buCells b sb sc eb ec tb tc)] (itms 3 (qs.eraseIdx u)) rfl rfl) (fun _ _ _ h => h) ?_
    refine DO.quiet rfl (q_fieldAddr Try.underlying91 rfl inf24 rfl rfl) (DO.quiet rfl (q_load_box 1 Try.underlying24 rfl rfl rfl rfl) (DO.quiet rfl (q_fieldAddr Try.underlying26 rfl inf23 rfl rfl) (DO.quiet rfl (q_load_box 4 Try.underlying23 rfl rfl rfl rfl) ?_)))
    refine DO.quiet rfl (q_move rfl) (DO.quiet rfl (q_ixK (i := j) Try.underlying23 inf54 rfl rfl (Sl.o h.ed) (by first | assumption | omega | (simp; omega) | simp_all) (by first | (rw [eds_len]; omega) | (simp [eds_len]; omega) | (simp_all [eds_len]; omega))) (DO.quiet rfl (q_fieldEl Try.underlying54 rfl inf3 rfl rfl (Sl.o h.ed) (by first | (rw [eds_len]; omega) | (simp [eds_len]; omega) | (simp_all [eds_len]; omega))) (DO.quiet rfl (q_ld Try.underlying3 rfl rfl (Sl.o h.ed) (show (edsC b.edges)[j * 4]? = some (.int .i64 ((u : Nat) : Int)) by rw [show j * 4 = j * 4 + 0 from rfl, eds_get' hlt27 0 (by decide)]; show some (Value.int _ b.edges[j].fr) = _; rw [hu])) ?_)))
    refine DO.quiet rfl (q_fieldAddr Try.underlying91 rfl inf24 rfl rfl) (DO.quiet rfl (q_load_box 1 Try.underlying24 rfl rfl rfl rfl) (DO.quiet rfl (q_fieldAddr Try.underlying26 rfl inf23 rfl rfl) (DO.quiet rfl (q_load_box 4 Try.underlying23 rfl rfl rfl rfl) ?_)))
    refine DO.quiet rfl (q_move rfl) (DO.quiet rfl (q_ixK (i := j) Try.underlying23 inf54 rfl rfl (Sl.o h.ed) (by first | assumption | omega | (simp; omega) | simp_all) (by first | (rw [eds_len]; omega) | (simp [eds_len]; omega) | (simp_all [eds_len]; omega))) (DO.quiet rfl (q_fieldEl Try.underlying54 rfl inf3 rfl rfl (Sl.o h.ed) (by first | (rw [eds_len]; omega) | (simp [eds_len]; omega) | (simp_all [eds_len]; omega))) (DO.quiet rfl (q_ld Try.underlying3 rfl rfl (Sl.o h.ed) (show (edsC b.edges)[j * 4]? = some (.int .i64 ((u : Nat) : Int)) by rw [show j * 4 = j * 4 + 0 from rfl, eds_get' hlt27 0 (by decide)]; show some (Value.int _ b.edges[j].fr) = _; rw [hu])) ?_)))
    refine DO.quiet rfl (q_ix (i := u) Try.underlying24 inf22 rfl rfl (rowO (List.mem_of_getElem? (i := 2) rfl))) (DO.quiet rfl (q_ld Try.underlying22 rfl rfl (rowO (List.mem_of_getElem? (i := 2) rfl)) (vals_at hqu)) (DO.quiet rfl (q_fieldAddr Try.underlying26 rfl inf23 rfl rfl) (DO.quiet rfl (q_load_box 4 Try.underlying23 rfl rfl rfl rfl) ?_)))
    refine DO.quiet rfl (q_move rfl) (DO.quiet rfl (q_ixK (i := j) Try.underlying23 inf54 rfl rfl (Sl.o h.ed) (by first | assumption | omega | (simp; omega) | simp_all) (by first | (rw [eds_len]; omega) | (simp [eds_len]; omega) | (simp_all [eds_len]; omega))) (DO.quiet rfl (q_fieldEl Try.underlying54 rfl inf3 rfl rfl (Sl.o h.ed) (by first | (rw [eds_len]; omega) | (simp [eds_len]; omega) | (simp_all [eds_len]; omega))) (DO.quiet rfl (q_ld Try.underlying3 rfl rfl (Sl.o h.ed) (eds_get' (by first | assumption | omega | (simp; omega) | simp_all) 1 (by decide))) ?_)))
    refine DO.loud rfl rfl (l_build1 (v := .int .i64 b.edges[j].to) Try.underlying22 inf3 rfl rfl rfl (fun bx6 => ⟨Sub.pick0 [2, 2, 2, 2, 2] [rowI (some ⟨bx6, 0, none⟩) 1 3 1 [.int .i64 b.edges[j].to], rowI qs[u].b qs[u].c 3 1 (ints qs[u].xs), rowI ab ac 3 1 (nats (List.range k)), oI zG 91 [(.int .i64 b.vars), (.int .i64 b.states), (.slice sb b.start.length sc), (.slice eb b.edges.length ec), (.slice tb b.sets.length tc), (.slice ab k ac), (.slice (some ⟨zN, 0, none⟩) n n)], rowI (some ⟨zN, 0, none⟩) n 22 1 (vals qs), oI bx2 91 [(.int .i64 0), (.int .i64 0), (.slice none 0 0), (.slice none 0 0), (.slice none 0 0), (.slice none 0 0), (.slice none 0 0)], oI bx1 26 (buCells b sb sc eb ec tb tc)] (itms 3 (qs.eraseIdx u)) rfl rfl, ?_⟩))
    refine DO.loud rfl rfl (l_append 1 Try.underlying22 Try.underlying22 inf3 rfl rfl rfl rfl (by simp) (by decide) (Src.row (j := 0) rfl (by simp)) (by simp [oneB]) (by omega) (by decide) (by decide) (fun bx7 c8 => ⟨Sub.pick0 [2, 2, 2, 2, 2] [rowI (some ⟨bx6, 0, none⟩) 1 3 1 [.int .i64 b.edges[j].to], rowI bx7 c8 3 1 ((ints qs[u].xs) ++ [.int .i64 b.edges[j].to]), rowI ab ac 3 1 (nats (List.range k)), oI zG 91 [(.int .i64 b.vars), (.int .i64 b.states), (.slice sb b.start.length sc), (.slice eb b.edges.length ec), (.slice tb b.sets.length tc), (.slice ab k ac), (.slice (some ⟨zN, 0, none⟩) n n)], rowI (some ⟨zN, 0, none⟩) n 22 1 (vals qs), oI bx2 91 [(.int .i64 0), (.int .i64 0), (.slice none 0 0), (.slice none 0 0), (.slice none 0 0), (.slice none 0 0), (.slice none 0 0)], oI bx1 26 (buCells b sb sc eb ec tb tc)] (itms 3 (qs.eraseIdx u)) rfl rfl, ?_⟩))
    refine DO.quiet rfl (q_ix (i := u) Try.underlying24 inf22 rfl rfl (rowO (List.mem_of_getElem? (i := 2) rfl))) ?_
    refine DO.last rfl rfl (l_st (j := u) (v := (.slice bx7 (qs[u].xs.length + 1) c8)) (vs := [(.slice bx7 (qs[u].xs.length + 1) c8)]) (cs := vals qs) 4 inf22 rfl rfl rfl rfl rfl (by simp) rfl (by first | (simp; omega) | (simp_all; omega)) ?_)
    refine DO.sub (O' := ([rowI (some ⟨bx6, 0, none⟩) 1 3 1 [.int .i64 b.edges[j].to], rowI bx7 c8 3 1 ((ints qs[u].xs) ++ [.int .i64 b.edges[j].to]), rowI ab ac 3 1 (nats (List.range k)), oI zG 91 [(.int .i64 b.vars), (.int .i64 b.states), (.slice sb b.start.length sc), (.slice eb b.edges.length ec), (.slice tb b.sets.length tc), (.slice ab k ac), (.slice (some ⟨zN, 0, none⟩) n n)], rowI (some ⟨zN, 0, none⟩) n 22 1 (vals (qs.set u ⟨bx7, c8, qs[u].xs ++ [b.edges[j].to]⟩)), oI bx2 91 [(.int .i64 0), (.int .i64 0), (.slice none 0 0), (.slice none 0 0), (.slice none 0 0), (.slice none 0 0), (.slice none 0 0)], oI bx1 26 (buCells b sb sc eb ec tb tc)] ++ (itms 3 (qs.eraseIdx u)))) (by rw [show putL (vals qs) u [(.slice bx7 (qs[u].xs.length + 1) c8)] = vals (qs.set u ⟨bx7, c8, qs[u].xs ++ [b.edges[j].to]⟩) from (by simp [putL, Rec.val])]; exact Sub.of (List.Sublist.refl _)) ?_
    refine DO.sub (O' := [rowI bx7 c8 3 1 ((ints qs[u].xs) ++ [.int .i64 b.edges[j].to]), rowI ab ac 3 1 (nats (List.range k)), oI zG 91 [(.int .i64 b.vars), (.int .i64 b.states), (.slice sb b.start.length sc), (.slice eb b.edges.length ec), (.slice tb b.sets.length tc), (.slice ab k ac), (.slice (some ⟨zN, 0, none⟩) n n)], rowI (some ⟨zN, 0, none⟩) n 22 1 (vals (qs.set u ⟨bx7, c8, qs[u].xs ++ [b.edges[j].to]⟩)), oI bx2 91 [(.int .i64 0), (.int .i64 0), (.slice none 0 0), (.slice none 0 0), (.slice none 0 0), (.slice none 0 0), (.slice none 0 0)], oI bx1 26 (buCells b sb sc eb ec tb tc)] ++ (itms 3 (qs.eraseIdx u))) (Sub.pickR [1, 1, 1, 1, 1, 1] [rowI (some ⟨bx6, 0, none⟩) 1 3 1 [.int .i64 b.edges[j].to], rowI bx7 c8 3 1 ((ints qs[u].xs) ++ [.int .i64 b.edges[j].to]), rowI ab ac 3 1 (nats (List.range k)), oI zG 91 [(.int .i64 b.vars), (.int .i64 b.states), (.slice sb b.start.length sc), (.slice eb b.edges.length ec), (.slice tb b.sets.length tc), (.slice ab k ac), (.slice (some ⟨zN, 0, none⟩) n n)], rowI (some ⟨zN, 0, none⟩) n 22 1 (vals (qs.set u ⟨bx7, c8, qs[u].xs ++ [b.edges[j].to]⟩)), oI bx2 91 [(.int .i64 0), (.int .i64 0), (.slice none 0 0), (.slice none 0 0), (.slice none 0 0), (.slice none 0 0), (.slice none 0 0)], oI bx1 26 (buCells b sb sc eb ec tb tc)] (itms 3 (qs.eraseIdx u)) rfl rfl) ?_
    refine DO.sub (O' := [rowI ab ac 3 1 (nats (List.range k)), oI zG 91 [(.int .i64 b.vars), (.int .i64 b.states), (.slice sb b.start.length sc), (.slice eb b.edges.length ec), (.slice tb b.sets.length tc), (.slice ab k ac), (.slice (some ⟨zN, 0, none⟩) n n)], rowI (some ⟨zN, 0, none⟩) n 22 1 (vals (qs.set u ⟨bx7, c8, qs[u].xs ++ [b.edges[j].to]⟩)), oI bx2 91 [(.int .i64 0), (.int .i64 0), (.slice none 0 0), (.slice none 0 0), (.slice none 0 0), (.slice none 0 0), (.slice none 0 0)], oI bx1 26 (buCells b sb sc eb ec tb tc)] ++ (itms 3 (qs.set u ⟨bx7, c8, qs[u].xs ++ [b.edges[j].to]⟩))) (sub_in hqu [rowI ab ac 3 1 (nats (List.range k)), oI zG 91 [(.int .i64 b.vars), (.int .i64 b.states), (.slice sb b.start.length sc), (.slice eb b.edges.length ec), (.slice tb b.sets.length tc), (.slice ab k ac), (.slice (some ⟨zN, 0, none⟩) n n)], rowI (some ⟨zN, 0, none⟩) n 22 1 (vals (qs.set u ⟨bx7, c8, qs[u].xs ++ [b.edges[j].to]⟩)), oI bx2 91 [(.int .i64 0), (.int .i64 0), (.slice none 0 0), (.slice none 0 0), (.slice none 0 0), (.slice none 0 0), (.slice none 0 0)], oI bx1 26 (buCells b sb sc eb ec tb tc)] ⟨bx7, c8, qs[u].xs ++ [b.edges[j].to]⟩ (by simp)) ?_
    refine DO.done ?_
    refine T.region ?_
    refine TO.quiet (q_move rfl) (TO.quiet (q_addN (a := j) (b := 1) rfl rfl (by omega)) (TO.quiet (q_assign rfl) ?_))
    refine TO.nil ?_
    exact ⟨j + 1, by omega, qs.set u ⟨bx7, c8, qs[u].xs ++ [b.edges[j].to]⟩, rfl, by omega, hrw.push hqu b.edges[j].to (fun w y hw => by rw [autR_snoc hlt27]; constructor <;> (rintro (h | h) <;> first | exact .inl h | exact .inr ⟨by omega, by omega⟩)) _ _, ⟨rfl, rfl, rfl, rfl, rfl, rfl, trivial⟩⟩
  have hge27 : ¬ j < b.edges.length := by omega
  refine T.exit ?_
  refine T.seq (T.region ?_)
  refine TO.quiet (q_load_boxAgg 1 Try.underlying91 rfl inf91 rfl rfl rfl) ?_
  refine TO.loud rfl (l_store_box (v := (.agg #[(.int .i64 b.vars), (.int .i64 b.states), (.slice sb b.start.length sc), (.slice eb b.edges.length ec), (.slice tb b.sets.length tc), (.slice ab k ac), (.slice (some ⟨zN, 0, none⟩) n n)])) (vs := [(.int .i64 b.vars), (.int .i64 b.states), (.slice sb b.start.length sc), (.slice eb b.edges.length ec), (.slice tb b.sets.length tc), (.slice ab k ac), (.slice (some ⟨zN, 0, none⟩) n n)]) 3 inf91 rfl rfl rfl rfl rfl rfl (by simp [putL]) ?_)
  refine TO.nil (T.ret (Res.drop ?_))
  refine Res.cell1 (i := 3) Try.results63 Try.underlying91 rfl inf91 rfl rfl rfl ?_
  have hje : j = b.edges.length := by omega
  have hke : k = n := by omega
  rw [hje, List.take_length] at hrw
  exact ⟨[rowI ab ac 3 1 (nats (List.range k)), rowI (some ⟨zN, 0, none⟩) n 22 1 (vals qs)] ++ itms 3 qs, (Sub.pickR [0, 1] [rowI ab ac 3 1 (nats (List.range k)), oI zG 91 [(.int .i64 b.vars), (.int .i64 b.states), (.slice sb b.start.length sc), (.slice eb b.edges.length ec), (.slice tb b.sets.length tc), (.slice ab k ac), (.slice (some ⟨zN, 0, none⟩) n n)], rowI (some ⟨zN, 0, none⟩) n 22 1 (vals qs), oI bx2 91 [(.int .i64 b.vars), (.int .i64 b.states), (.slice sb b.start.length sc), (.slice eb b.edges.length ec), (.slice tb b.sets.length tc), (.slice ab k ac), (.slice (some ⟨zN, 0, none⟩) n n)], oI bx1 26 (buCells b sb sc eb ec tb tc)] (itms 3 qs) rfl rfl), ab, ac, (some ⟨zN, 0, none⟩), n, qs, by rw [hnn, ← hke]; simp [putL], by rw [hnn, ← hke], by rw [hnn]; exact hrw⟩
end Go.Proofs.Ytnamoapbienooaa
