/- Contracts of functions of the program (BAcc, AwB, BAlw, BAwk, Dec, CoreT, Close, CloseB, EndB): what each call answers and that it leaves memory as it was. Conditions: those each theorem names. -/
import Derived.Test.YtnamoapbienooaaBCan
import Derived.Test.YtnamoapbienooaaBTrm
import Derived.Test.YtnamoapbienooaaCoreK
import Derived.Lib.ItoaNum
import Derived.Shelf.Strconv.Itoa3
import Derived.Lib.AppendIntMem
import Derived.Lib.TrailingZeros
import Derived.OpenShut
import Derived.Deep.DeepHandedRow
import Derived.Deep.Matrix
import Derived.Deep.Grids
import Derived.WideKeyArgs
import Derived.SizedLaws
import Derived.Deep.Slices
import Derived.Test.YtnamoapbienooaaBChk
import Derived.Test.YtnamoapbienooaaRows
import Derived.WalkKit
import Derived.ProofKit
import Derived.Lib.LaidTab
set_option linter.unusedSectionVars false
set_option linter.unusedSimpArgs false
set_option linter.unusedVariables false
set_option linter.unnecessarySimpa false
namespace Go.Proofs.Ytnamoapbienooaa
open Go.Lx Go.RowKit
set_option linter.unusedVariables false
set_option linter.unusedSimpArgs false
set_option maxHeartbeats 1000000 in
set_option maxRecDepth 20000 in
theorem startLive (base : World) (b1 b2 : Nat) (lb : Option Addr) (lc L : Nat) (ls : List Bool) (s : Int) (h0 : 0 ≤ s) (hs : s.toNat * L < ls.length) (hb : ls.length ≤ 1000000) :
    CallT Try.prog base 57 [.int .i64 s, .pointer (some ⟨b1, 0, none⟩), .pointer (some ⟨b2, 0, none⟩)] [oI b1 39 [(.slice lb ls.length lc)], oI b2 3 [(.int .i64 ((L : Nat) : Int))], rowI lb lc 4 1 (bools ls)] (fun v O' => v = .bool (ls.getD (s.toNat * L) false) ∧ O' = [oI b1 39 [(.slice lb ls.length lc)], oI b2 3 [(.int .i64 ((L : Nat) : Int))], rowI lb lc 4 1 (bools ls)]) := by
  refine CallT.enter Try.func57 rfl Try.ntmps57 rfl ?_
  refine T.seq (T.region ?_)
  refine TO.quiet (q_assign rfl) ?_
  refine TO.nil (T.seq (T.region ?_))
  refine TO.quiet (q_load_box 0 Try.underlying39 rfl rfl rfl rfl) (TO.quiet (QT.cast (q_move rfl) (v' := .int .i64 ((s.toNat : Nat) : Int)) (by show Value.int _ s = _; rw [Int.toNat_of_nonneg h0])) (TO.quiet (q_load_box 1 Try.underlying3 rfl rfl rfl rfl) (TO.quiet (q_mulN (a := s.toNat) (b := L) rfl rfl (by omega)) ?_)))
  refine TO.quiet (q_ix (i := (s.toNat * L)) Try.underlying39 inf4 rfl rfl (rowO (List.mem_of_getElem? (i := 2) rfl))) (TO.quiet (q_ld Try.underlying4 rfl rfl (rowO (List.mem_of_getElem? (i := 2) rfl)) bools_get) (TO.quiet (q_assign rfl) ?_))
  refine TO.nil (T.ret ?_)
  refine Res.one (.bool ls[s.toNat * L]) Try.results57 rfl ?_
  exact ⟨by rw [gb hs], rfl⟩
set_option maxHeartbeats 4000000 in
set_option maxRecDepth 20000 in
theorem acceptsF (w : World) (b : Bu) (sb eb tb : Option Addr) (sc ec tc : Nat) (vs : List Value) (h : BuAt w b sb eb tb vs) (hB : BuB b) (l : La) (pb lb : Option Addr) (pc lc : Nat) (h2 : LaAt w l pb lb pc lc) (hL : LaB l) (hE : b.edges.length ≤ 5000) :
    PureT Try.prog 17 [.agg (buCells b sb sc eb ec tb tc).toArray, .agg (laCells l pb pc lb lc).toArray] w fun v N => v = .tuple #[.bool (accV b l), .int .i64 (accE b l : Int)] ∧ N = [] := by
  refine CallT.enter Try.func17 rfl Try.ntmps17 rfl ?_
  have hst := hB.st; have hed := hB.ed; have hse := hB.se; have hpl := hL.pre; have hll0 := hL.loop
  refine T.seq (T.region ?_)
  refine TO.loud rfl (l_box (v := (.agg (buCells b sb sc eb ec tb tc).toArray)) (cs := (buCells b sb sc eb ec tb tc)) rfl rfl (fun bx1 => ?_))
  refine TO.loud rfl (l_box (v := (.agg (laCells l pb pc lb lc).toArray)) (cs := (laCells l pb pc lb lc)) rfl rfl (fun bx2 => ?_))
  refine TO.quiet (q_assign rfl) (TO.quiet (q_assign rfl) ?_)
  refine TO.nil (T.seq (T.seq (T.region ?_)))
  refine TO.quiet (q_load_boxAgg 1 Try.underlying26 rfl inf26 rfl rfl rfl) ?_
  have hk19 := fun (w1 : World) (hI : Inv w [oI bx2 29 (laCells l pb pc lb lc), oI bx1 26 (buCells b sb sc eb ec tb tc)] w1) => checkF w1 b sb eb tb sc ec tc vs (hI.bu h) hB
  refine TO.loud rfl (l_call ent21 (CallT.of_pure hk19) rfl ?_)
  clear hk19
  rintro vr O' ⟨N, rfl, rfl, rfl⟩
  refine TO.quiet (q_assign rfl) ?_
  refine TO.nil (T.seq (T.region ?_))
  refine TO.quiet (q_move rfl) (TO.quiet (q_neq rfl rfl) ?_)
  refine TO.nil ?_
  refine T.condP rfl (fun hc => ?_) (fun hc => ?_)
  · have hlt21 : checkB b ≠ 0 := by omega
    refine T.seq (T.region ?_)
    refine TO.quiet (q_move rfl) (TO.quiet (q_assign rfl) (TO.quiet (q_assign rfl) ?_))
    refine TO.nil (T.ret (Res.drop ?_))
    refine Res.two (.bool false) (.int .i64 (checkB b : Int)) Try.results17 rfl rfl ?_
    exact ⟨[], Sub.of (List.nil_sublist _), by unfold accV accE; rw [if_neg (by omega), if_neg (by omega)], rfl⟩
  have hge21 : ¬ checkB b ≠ 0 := by omega
  refine T.skip (T.seq (T.seq (T.region ?_)))
  refine TO.quiet (q_load_boxAgg 0 Try.underlying29 rfl inf29 rfl rfl rfl) (TO.quiet (q_fieldAddr Try.underlying26 rfl inf3 rfl rfl) (TO.quiet (q_load_box 1 Try.underlying3 rfl rfl rfl rfl) ?_))
  have hk26 := fun (w1 : World) (hI : Inv w [oI bx2 29 (laCells l pb pc lb lc), oI bx1 26 (buCells b sb sc eb ec tb tc)] w1) => lassoCheckF w1 l pb lb pc lc (hI.la h2) hL b.vars
  refine TO.loud rfl (l_call ent51 (CallT.of_pure hk26) rfl ?_)
  clear hk26
  rintro vr O' ⟨N, rfl, rfl, rfl⟩
  refine TO.quiet (q_assign rfl) ?_
  refine TO.nil (T.seq (T.region ?_))
  refine TO.quiet (q_move rfl) (TO.quiet (q_neq rfl rfl) ?_)
  refine TO.nil ?_
  refine T.condP rfl (fun hc => ?_) (fun hc => ?_)
  · have hlt28 : checkLV b.vars l ≠ 0 := by omega
    refine T.seq (T.region ?_)
    refine TO.quiet (q_move rfl) (TO.quiet (q_assign rfl) (TO.quiet (q_assign rfl) ?_))
    refine TO.nil (T.ret (Res.drop ?_))
    refine Res.two (.bool false) (.int .i64 (checkLV b.vars l : Int)) Try.results17 rfl rfl ?_
    exact ⟨[], Sub.of (List.nil_sublist _), by unfold accV accE; rw [if_neg (by omega), if_pos (by omega)], rfl⟩
  have hge28 : ¬ checkLV b.vars l ≠ 0 := by omega
  refine T.skip (T.seq ?_)
  have he0 : checkB b = 0 := by omega
  have hel0 : checkLV b.vars l = 0 := by omega
  have hv : ValidB b := checkB_zero.1 he0
  have hv0 := hv.n0; have hv4 := hv.n4; have hm8 := hv.m8
  obtain ⟨hl0, hp64, hl64, _, _, hpv, hlv0⟩ := checkL_loop hel0
  obtain ⟨n, hn⟩ : ∃ n : Nat, b.states = (n : Int) := ⟨b.states.toNat, by omega⟩
  have hnn : b.states.toNat = n := by omega
  have hln : l.n = l.pre.length + l.loop.length := rfl
  have hL0 : 0 < l.n := by omega
  have hSL : n * l.n ≤ 524288 := Nat.mul_le_mul (show n ≤ 4096 by omega) (show l.n ≤ 128 by omega)
  have hSL2 : n * l.n ≤ 9223372036854775807 := by omega
  refine T.region ?_
  refine TO.quiet (q_fieldAddr Try.underlying29 rfl inf27 rfl rfl) (TO.quiet (q_load_box 0 Try.underlying27 rfl rfl rfl rfl) (TO.quiet (q_len Try.underlying27 rfl) (TO.quiet (q_fieldAddr Try.underlying29 rfl inf27 rfl rfl) ?_)))
  refine TO.quiet (q_load_box 0 Try.underlying27 rfl rfl rfl rfl) (TO.quiet (q_len Try.underlying27 rfl) (TO.quiet (q_addN (a := l.pre.length) (b := l.loop.length) rfl rfl (by omega)) ?_))
  refine TO.loud rfl (l_alloc inf3 rfl (fun bx3 => ?_))
  refine TO.loud rfl (l_store_box (v := .int .i64 ((l.n : Nat) : Int)) (vs := [(.int .i64 ((l.n : Nat) : Int))]) 0 inf3 rfl rfl rfl rfl rfl rfl (by simp [putL]) ?_)
  refine TO.nil ?_
  refine T.cut (fun ρ O => ∃ (zN zM zG : Nat), O = [oI zG 79 [(.slice (some ⟨zN, 0, none⟩) (n * l.n) (n * l.n)), (.slice (some ⟨zM, 0, none⟩) (n * l.n) (n * l.n)), .int .u64 ((2 ^ b.sets.length - 1 : Nat) : Int)], rowI (some ⟨zN, 0, none⟩) (n * l.n) 22 1 (List.replicate (n * l.n) (.slice none 0 0)), rowI (some ⟨zM, 0, none⟩) (n * l.n) 52 1 (List.replicate (n * l.n) (.int .u64 0)), oI bx3 3 [(.int .i64 ((l.n : Nat) : Int))], oI bx2 29 (laCells l pb pc lb lc), oI bx1 26 (buCells b sb sc eb ec tb tc)] ∧ Heads [(0, (.agg (buCells b sb sc eb ec tb tc).toArray)), (1, (.agg (laCells l pb pc lb lc).toArray)), (2, (.pointer (some ⟨bx1, 0, none⟩))), (3, (.pointer (some ⟨bx2, 0, none⟩))), (4, .bool false), (5, .int .i64 0), (6, .int .i64 (checkB b : Int)), (7, .int .i64 (checkLV b.vars l : Int)), (8, (.pointer (some ⟨bx3, 0, none⟩))), (9, (.pointer (some ⟨zG, 0, none⟩)))] ρ) ?_ ?_
  · refine T.tree [oI bx3 3 [(.int .i64 ((l.n : Nat) : Int))], oI bx1 26 (buCells b sb sc eb ec tb tc)] 18 mixed rfl (Sub.pick [0, 1] rfl) (fun _ _ _ h => h) ?_
    refine RO.quietT 0 rfl (by kernel_rfl) (q_fieldAddr Try.underlying26 rfl inf3 rfl rfl) ?_
    refine RO.quietT 1 rfl (by kernel_rfl) (QT.cast (q_load_box 1 Try.underlying3 rfl rfl rfl rfl) (v' := .int .i64 ((n : Nat) : Int)) (by show Value.int _ b.states = _; rw [hn])) ?_
    refine RO.quietT 2 rfl (by kernel_rfl) (q_load_box 0 Try.underlying3 rfl rfl rfl rfl) ?_
    refine RO.quietT 3 rfl (by kernel_rfl) (q_mulN (a := n) (b := l.n) rfl rfl hSL2) ?_
    refine RO.quietT 5 rfl (by kernel_rfl) (q_fieldAddr Try.underlying26 rfl inf3 rfl rfl) ?_
    refine RO.quietT 6 rfl (by kernel_rfl) (QT.cast (q_load_box 1 Try.underlying3 rfl rfl rfl rfl) (v' := .int .i64 ((n : Nat) : Int)) (by show Value.int _ b.states = _; rw [hn])) ?_
    refine RO.quietT 7 rfl (by kernel_rfl) (q_load_box 0 Try.underlying3 rfl rfl rfl rfl) ?_
    refine RO.quietT 8 rfl (by kernel_rfl) (q_mulN (a := n) (b := l.n) rfl rfl hSL2) ?_
    refine RO.quietT 10 rfl (by kernel_rfl) (q_fieldAddr Try.underlying26 rfl inf24 rfl rfl) ?_
    refine RO.quietT 11 rfl (by kernel_rfl) (q_load_box 1 Try.underlying24 rfl rfl rfl rfl) ?_
    refine RO.quietT 12 rfl (by kernel_rfl) (q_len Try.underlying24 rfl) ?_
    refine RO.quietT 13 rfl (by kernel_rfl) (QT.cast (q_shlU (a := 1) (b := b.sets.length) .u64 rfl rfl (by show _ ≤ 64; omega) (by show _ < 2 ^ 64; rw [Nat.one_mul]; exact Nat.pow_lt_pow_right (by omega) (by omega))) (v' := .int .u64 ((2 ^ b.sets.length : Nat) : Int)) (by rw [Nat.one_mul])) ?_
    refine RO.quietT 14 rfl (by kernel_rfl) (q_subU (a := (2 ^ b.sets.length)) (b := 1) .u64 rfl rfl (by show _ < 2 ^ 64; exact Nat.pow_lt_pow_right (by omega) (by omega)) Nat.one_le_two_pow) ?_
    refine RO.fork [4, 9, 16] (by kernel_rfl) rfl ⟨⟨_, rfl, rfl, l_makeSlice (m := n * l.n) Try.underlying24 inf22 rfl rfl (by omega) (by omega) (fun zN => ⟨Sub.pick [1, 2] rfl, ?_⟩)⟩, ⟨_, rfl, rfl, l_makeSlice (m := n * l.n) Try.underlying77 inf52 rfl rfl (by omega) (by omega) (fun zM => ⟨Sub.pick [1, 2] rfl, ?_⟩)⟩, ⟨_, rfl, rfl, l_alloc inf79 rfl (fun zG => ⟨Sub.pick [1, 2] rfl, ?_⟩)⟩, trivial⟩
    · refine RO.fork [9, 16] (by kernel_rfl) rfl ⟨⟨_, rfl, rfl, l_makeSlice (m := n * l.n) Try.underlying77 inf52 rfl rfl (by omega) (by omega) (fun zM => ⟨Sub.pick [2, 3] rfl, ?_⟩)⟩, ⟨_, rfl, rfl, l_alloc inf79 rfl (fun zG => ⟨Sub.pick [2, 3] rfl, ?_⟩)⟩, trivial⟩
      · refine RO.quietT 15 rfl (by kernel_rfl) (q_build (cs := [(.slice (some ⟨zN, 0, none⟩) (n * l.n) (n * l.n)), (.slice (some ⟨zM, 0, none⟩) (n * l.n) (n * l.n)), .int .u64 ((2 ^ b.sets.length - 1 : Nat) : Int)]) plan79 inf79 (by kernel_rfl)) ?_
        refine RO.fork [16] (by kernel_rfl) rfl ⟨⟨_, rfl, rfl, l_alloc inf79 rfl (fun zG => ⟨Sub.pick [3, 4] rfl, ?_⟩)⟩, trivial⟩
        refine RO.fork [17] (by kernel_rfl) rfl ⟨⟨_, rfl, rfl, l_store_box (v := (.agg #[(.slice (some ⟨zN, 0, none⟩) (n * l.n) (n * l.n)), (.slice (some ⟨zM, 0, none⟩) (n * l.n) (n * l.n)), .int .u64 ((2 ^ b.sets.length - 1 : Nat) : Int)])) (vs := [(.slice (some ⟨zN, 0, none⟩) (n * l.n) (n * l.n)), (.slice (some ⟨zM, 0, none⟩) (n * l.n) (n * l.n)), .int .u64 ((2 ^ b.sets.length - 1 : Nat) : Int)]) 0 inf79 rfl rfl rfl rfl rfl rfl (by simp [putL]) ⟨Sub.pick [3, 4] rfl, ?_⟩⟩, trivial⟩
        exact RO.fin (by kernel_rfl) ⟨zN, zM, zG, rfl, ⟨rfl, rfl, rfl, rfl, rfl, rfl, rfl, rfl, rfl, rfl, trivial⟩⟩ (Sub.pick [0, 1, 0, 0, 0, 0] rfl)
      refine RO.fork [9] (by kernel_rfl) rfl ⟨⟨_, rfl, rfl, l_makeSlice (m := n * l.n) Try.underlying77 inf52 rfl rfl (by omega) (by omega) (fun zM => ⟨Sub.pick [3, 4] rfl, ?_⟩)⟩, trivial⟩
      refine RO.quietT 15 rfl (by kernel_rfl) (q_build (cs := [(.slice (some ⟨zN, 0, none⟩) (n * l.n) (n * l.n)), (.slice (some ⟨zM, 0, none⟩) (n * l.n) (n * l.n)), .int .u64 ((2 ^ b.sets.length - 1 : Nat) : Int)]) plan79 inf79 (by kernel_rfl)) ?_
      refine RO.fork [17] (by kernel_rfl) rfl ⟨⟨_, rfl, rfl, l_store_box (v := (.agg #[(.slice (some ⟨zN, 0, none⟩) (n * l.n) (n * l.n)), (.slice (some ⟨zM, 0, none⟩) (n * l.n) (n * l.n)), .int .u64 ((2 ^ b.sets.length - 1 : Nat) : Int)])) (vs := [(.slice (some ⟨zN, 0, none⟩) (n * l.n) (n * l.n)), (.slice (some ⟨zM, 0, none⟩) (n * l.n) (n * l.n)), .int .u64 ((2 ^ b.sets.length - 1 : Nat) : Int)]) 1 inf79 rfl rfl rfl rfl rfl rfl (by simp [putL]) ⟨Sub.pick [3, 4] rfl, ?_⟩⟩, trivial⟩
      exact RO.fin (by kernel_rfl) ⟨zN, zM, zG, rfl, ⟨rfl, rfl, rfl, rfl, rfl, rfl, rfl, rfl, rfl, rfl, trivial⟩⟩ (Sub.pick [1, 1, 0, 0, 0, 0] rfl)
    · refine RO.fork [4, 16] (by kernel_rfl) rfl ⟨⟨_, rfl, rfl, l_makeSlice (m := n * l.n) Try.underlying24 inf22 rfl rfl (by omega) (by omega) (fun zN => ⟨Sub.pick [2, 3] rfl, ?_⟩)⟩, ⟨_, rfl, rfl, l_alloc inf79 rfl (fun zG => ⟨Sub.pick [2, 3] rfl, ?_⟩)⟩, trivial⟩
      · refine RO.quietT 15 rfl (by kernel_rfl) (q_build (cs := [(.slice (some ⟨zN, 0, none⟩) (n * l.n) (n * l.n)), (.slice (some ⟨zM, 0, none⟩) (n * l.n) (n * l.n)), .int .u64 ((2 ^ b.sets.length - 1 : Nat) : Int)]) plan79 inf79 (by kernel_rfl)) ?_
        refine RO.fork [16] (by kernel_rfl) rfl ⟨⟨_, rfl, rfl, l_alloc inf79 rfl (fun zG => ⟨Sub.pick [3, 4] rfl, ?_⟩)⟩, trivial⟩
        refine RO.fork [17] (by kernel_rfl) rfl ⟨⟨_, rfl, rfl, l_store_box (v := (.agg #[(.slice (some ⟨zN, 0, none⟩) (n * l.n) (n * l.n)), (.slice (some ⟨zM, 0, none⟩) (n * l.n) (n * l.n)), .int .u64 ((2 ^ b.sets.length - 1 : Nat) : Int)])) (vs := [(.slice (some ⟨zN, 0, none⟩) (n * l.n) (n * l.n)), (.slice (some ⟨zM, 0, none⟩) (n * l.n) (n * l.n)), .int .u64 ((2 ^ b.sets.length - 1 : Nat) : Int)]) 0 inf79 rfl rfl rfl rfl rfl rfl (by simp [putL]) ⟨Sub.pick [3, 4] rfl, ?_⟩⟩, trivial⟩
        exact RO.fin (by kernel_rfl) ⟨zN, zM, zG, rfl, ⟨rfl, rfl, rfl, rfl, rfl, rfl, rfl, rfl, rfl, rfl, trivial⟩⟩ (Sub.pick [0, 0, 0, 0, 0, 0] rfl)
      refine RO.fork [4] (by kernel_rfl) rfl ⟨⟨_, rfl, rfl, l_makeSlice (m := n * l.n) Try.underlying24 inf22 rfl rfl (by omega) (by omega) (fun zN => ⟨Sub.pick [3, 4] rfl, ?_⟩)⟩, trivial⟩
      refine RO.quietT 15 rfl (by kernel_rfl) (q_build (cs := [(.slice (some ⟨zN, 0, none⟩) (n * l.n) (n * l.n)), (.slice (some ⟨zM, 0, none⟩) (n * l.n) (n * l.n)), .int .u64 ((2 ^ b.sets.length - 1 : Nat) : Int)]) plan79 inf79 (by kernel_rfl)) ?_
      refine RO.fork [17] (by kernel_rfl) rfl ⟨⟨_, rfl, rfl, l_store_box (v := (.agg #[(.slice (some ⟨zN, 0, none⟩) (n * l.n) (n * l.n)), (.slice (some ⟨zM, 0, none⟩) (n * l.n) (n * l.n)), .int .u64 ((2 ^ b.sets.length - 1 : Nat) : Int)])) (vs := [(.slice (some ⟨zN, 0, none⟩) (n * l.n) (n * l.n)), (.slice (some ⟨zM, 0, none⟩) (n * l.n) (n * l.n)), .int .u64 ((2 ^ b.sets.length - 1 : Nat) : Int)]) 1 inf79 rfl rfl rfl rfl rfl rfl (by simp [putL]) ⟨Sub.pick [3, 4] rfl, ?_⟩⟩, trivial⟩
      exact RO.fin (by kernel_rfl) ⟨zN, zM, zG, rfl, ⟨rfl, rfl, rfl, rfl, rfl, rfl, rfl, rfl, rfl, rfl, trivial⟩⟩ (Sub.pick [1, 0, 0, 0, 0, 0] rfl)
    refine RO.fork [4, 9] (by kernel_rfl) rfl ⟨⟨_, rfl, rfl, l_makeSlice (m := n * l.n) Try.underlying24 inf22 rfl rfl (by omega) (by omega) (fun zN => ⟨Sub.pick [2, 3] rfl, ?_⟩)⟩, ⟨_, rfl, rfl, l_makeSlice (m := n * l.n) Try.underlying77 inf52 rfl rfl (by omega) (by omega) (fun zM => ⟨Sub.pick [2, 3] rfl, ?_⟩)⟩, trivial⟩
    · refine RO.fork [9] (by kernel_rfl) rfl ⟨⟨_, rfl, rfl, l_makeSlice (m := n * l.n) Try.underlying77 inf52 rfl rfl (by omega) (by omega) (fun zM => ⟨Sub.pick [3, 4] rfl, ?_⟩)⟩, trivial⟩
      refine RO.quietT 15 rfl (by kernel_rfl) (q_build (cs := [(.slice (some ⟨zN, 0, none⟩) (n * l.n) (n * l.n)), (.slice (some ⟨zM, 0, none⟩) (n * l.n) (n * l.n)), .int .u64 ((2 ^ b.sets.length - 1 : Nat) : Int)]) plan79 inf79 (by kernel_rfl)) ?_
      refine RO.fork [17] (by kernel_rfl) rfl ⟨⟨_, rfl, rfl, l_store_box (v := (.agg #[(.slice (some ⟨zN, 0, none⟩) (n * l.n) (n * l.n)), (.slice (some ⟨zM, 0, none⟩) (n * l.n) (n * l.n)), .int .u64 ((2 ^ b.sets.length - 1 : Nat) : Int)])) (vs := [(.slice (some ⟨zN, 0, none⟩) (n * l.n) (n * l.n)), (.slice (some ⟨zM, 0, none⟩) (n * l.n) (n * l.n)), .int .u64 ((2 ^ b.sets.length - 1 : Nat) : Int)]) 2 inf79 rfl rfl rfl rfl rfl rfl (by simp [putL]) ⟨Sub.pick [3, 4] rfl, ?_⟩⟩, trivial⟩
      exact RO.fin (by kernel_rfl) ⟨zN, zM, zG, rfl, ⟨rfl, rfl, rfl, rfl, rfl, rfl, rfl, rfl, rfl, rfl, trivial⟩⟩ (Sub.pick [2, 1, 0, 0, 0, 0] rfl)
    refine RO.fork [4] (by kernel_rfl) rfl ⟨⟨_, rfl, rfl, l_makeSlice (m := n * l.n) Try.underlying24 inf22 rfl rfl (by omega) (by omega) (fun zN => ⟨Sub.pick [3, 4] rfl, ?_⟩)⟩, trivial⟩
    refine RO.quietT 15 rfl (by kernel_rfl) (q_build (cs := [(.slice (some ⟨zN, 0, none⟩) (n * l.n) (n * l.n)), (.slice (some ⟨zM, 0, none⟩) (n * l.n) (n * l.n)), .int .u64 ((2 ^ b.sets.length - 1 : Nat) : Int)]) plan79 inf79 (by kernel_rfl)) ?_
    refine RO.fork [17] (by kernel_rfl) rfl ⟨⟨_, rfl, rfl, l_store_box (v := (.agg #[(.slice (some ⟨zN, 0, none⟩) (n * l.n) (n * l.n)), (.slice (some ⟨zM, 0, none⟩) (n * l.n) (n * l.n)), .int .u64 ((2 ^ b.sets.length - 1 : Nat) : Int)])) (vs := [(.slice (some ⟨zN, 0, none⟩) (n * l.n) (n * l.n)), (.slice (some ⟨zM, 0, none⟩) (n * l.n) (n * l.n)), .int .u64 ((2 ^ b.sets.length - 1 : Nat) : Int)]) 2 inf79 rfl rfl rfl rfl rfl rfl (by simp [putL]) ⟨Sub.pick [3, 4] rfl, ?_⟩⟩, trivial⟩
    exact RO.fin (by kernel_rfl) ⟨zN, zM, zG, rfl, ⟨rfl, rfl, rfl, rfl, rfl, rfl, rfl, rfl, rfl, rfl, trivial⟩⟩ (Sub.pick [2, 0, 0, 0, 0, 0] rfl)
  rintro ρ O ⟨zN, zM, zG, rfl, hH⟩
  obtain ⟨ρ0, rfl⟩ := hH.elim
  clear hH
  refine T.seq (T.seq (T.region ?_))
  refine TO.quiet (q_load_boxAgg 5 Try.underlying26 rfl inf26 rfl rfl rfl) ?_
  have hk54 := fun (w1 : World) (hI : Inv w [oI zG 79 [(.slice (some ⟨zN, 0, none⟩) (n * l.n) (n * l.n)), (.slice (some ⟨zM, 0, none⟩) (n * l.n) (n * l.n)), .int .u64 ((2 ^ b.sets.length - 1 : Nat) : Int)], rowI (some ⟨zN, 0, none⟩) (n * l.n) 22 1 (List.replicate (n * l.n) (.slice none 0 0)), rowI (some ⟨zM, 0, none⟩) (n * l.n) 52 1 (List.replicate (n * l.n) (.int .u64 0)), oI bx3 3 [(.int .i64 ((l.n : Nat) : Int))], oI bx2 29 (laCells l pb pc lb lc), oI bx1 26 (buCells b sb sc eb ec tb tc)] w1) => marksF w1 b sb eb tb sc ec tc vs (hI.bu h) hB hm8
  refine TO.loud rfl (l_call ent52 (CallT.of_pure hk54) rfl ?_)
  clear hk54
  rintro vr O' ⟨N, rfl, mm, m9, rfl, rfl, hmp, hin⟩
  refine TO.loud rfl (l_rangeMap 0 Try.underlying80 rfl rfl (fun it4 => ?_))
  refine TO.nil (T.block ?_)
  refine T.loop (fun (left : List (Int × Nat)) ρ O => ∃ (cur : Option (Int × Nat)) (ms : List Nat), O = [iterI KI VU mm it4 m9 left cur, oI zG 79 [(.slice (some ⟨zN, 0, none⟩) (n * l.n) (n * l.n)), (.slice (some ⟨zM, 0, none⟩) (n * l.n) (n * l.n)), .int .u64 ((2 ^ b.sets.length - 1 : Nat) : Int)], rowI (some ⟨zN, 0, none⟩) (n * l.n) 22 1 (List.replicate (n * l.n) (.slice none 0 0)), rowI (some ⟨zM, 0, none⟩) (n * l.n) 52 1 (uns ms), oI bx3 3 [(.int .i64 ((l.n : Nat) : Int))], oI bx2 29 (laCells l pb pc lb lc), oI bx1 26 (buCells b sb sc eb ec tb tc)] ∧ (∀ q ∈ left, q ∈ m9) ∧ (left.map Prod.fst).Nodup ∧ ms.length = n * l.n ∧ (∀ v, v < n * l.n → ms.getD v 0 = if ((v / l.n : Nat) : Int) ∈ left.map Prod.fst then 0 else mkN b.sets ((v / l.n : Nat) : Int)) ∧ Heads [(0, (.agg (buCells b sb sc eb ec tb tc).toArray)), (1, (.agg (laCells l pb pc lb lc).toArray)), (2, (.pointer (some ⟨bx1, 0, none⟩))), (3, (.pointer (some ⟨bx2, 0, none⟩))), (4, .bool false), (5, .int .i64 0), (6, .int .i64 (checkB b : Int)), (7, .int .i64 (checkLV b.vars l : Int)), (8, (.pointer (some ⟨bx3, 0, none⟩))), (9, (.pointer (some ⟨zG, 0, none⟩))), (55, (.pointer (some ⟨it4, 0, none⟩)))] ρ) (fun left => left.length) m9 ?_ ?_
  · refine ⟨none, List.replicate (n * l.n) 0, (by first | (simp only [List.map_replicate]; done) | (simp only [List.map_replicate]; rfl)), fun q hq => hq, hmp.nd, by simp, fun s hs => ?_, ⟨rfl, rfl, rfl, rfl, rfl, rfl, rfl, rfl, rfl, rfl, rfl, trivial⟩⟩
    rw [show (List.replicate (n * l.n) 0).getD s 0 = 0 by simp [hs]]
    split
    · rfl
    · rename_i hs2; exact (hmp.out hs2).symm
  rintro left ρ O ⟨cur, ms, rfl, hsub, hnd, hml, hms, hH⟩
  obtain ⟨ρ0, rfl⟩ := hH.elim
  clear hH
  refine T.seq (T.region ?_)
  refine TO.loud rfl (l_nextMap (K := KI) (V := VU) 0 rfl rfl (fun hleft => ?_) (fun lA le lB hleft => ?_))
  · refine TO.quiet (q_extract (vs := _) rfl rfl) ?_
    refine TO.nil (T.seq ?_)
    refine T.cond0 rfl ?_
    refine T.exit ?_
    refine T.seq (T.seq (T.region ?_))
    refine TO.quiet (q_load_box 4 Try.underlying3 rfl rfl rfl rfl) (TO.quiet (q_move rfl) ?_)
    refine TO.nil (T.block ?_)
    subst hleft
    refine T.sub (O' := [oI zG 79 [(.slice (some ⟨zN, 0, none⟩) (n * l.n) (n * l.n)), (.slice (some ⟨zM, 0, none⟩) (n * l.n) (n * l.n)), .int .u64 ((2 ^ b.sets.length - 1 : Nat) : Int)], rowI (some ⟨zN, 0, none⟩) (n * l.n) 22 1 (List.replicate (n * l.n) (.slice none 0 0)), rowI (some ⟨zM, 0, none⟩) (n * l.n) 52 1 (uns ms), oI bx3 3 [(.int .i64 ((l.n : Nat) : Int))], oI bx2 29 (laCells l pb pc lb lc), oI bx1 26 (buCells b sb sc eb ec tb tc)]) (Sub.pick [1, 1, 1, 1, 1, 1] rfl) ?_
    refine T.nilRows 3 (n * l.n) ?_
    refine T.loopS (fun (i : Nat) ρ O => ∃ (qs : List Rec), O = ([oI zG 79 [(.slice (some ⟨zN, 0, none⟩) (n * l.n) (n * l.n)), (.slice (some ⟨zM, 0, none⟩) (n * l.n) (n * l.n)), .int .u64 ((2 ^ b.sets.length - 1 : Nat) : Int)], rowI (some ⟨zN, 0, none⟩) (n * l.n) 22 1 (vals qs), rowI (some ⟨zM, 0, none⟩) (n * l.n) 52 1 (uns ms), oI bx3 3 [(.int .i64 ((l.n : Nat) : Int))], oI bx2 29 (laCells l pb pc lb lc), oI bx1 26 (buCells b sb sc eb ec tb tc)] ++ (itms 3 qs)) ∧ i ≤ l.n ∧ RowsP (n * l.n) (prodR b.edges l i 0) (5000 * i) (nums qs) ∧ Heads [(0, (.agg (buCells b sb sc eb ec tb tc).toArray)), (1, (.agg (laCells l pb pc lb lc).toArray)), (2, (.pointer (some ⟨bx1, 0, none⟩))), (3, (.pointer (some ⟨bx2, 0, none⟩))), (4, .bool false), (5, .int .i64 0), (6, .int .i64 (checkB b : Int)), (7, .int .i64 (checkLV b.vars l : Int)), (8, (.pointer (some ⟨bx3, 0, none⟩))), (9, (.pointer (some ⟨zG, 0, none⟩))), (75, (.int .i64 ((l.n : Nat) : Int))), (76, .int .i64 (i : Int))] ρ) (fun i => l.n - i) 0 ?_ ?_
    · exact ⟨List.replicate (n * l.n) nilRec, (by simp only [List.map_replicate]; rfl), Nat.zero_le _, RowsP.start (fun u y _ => by rintro (⟨j, hj, _⟩ | ⟨e, he, _⟩); omega; simp at he) _, ⟨rfl, rfl, rfl, rfl, rfl, rfl, rfl, rfl, rfl, rfl, rfl, rfl, trivial⟩⟩
    rintro i ρ O ⟨qs, rfl, hi, hrw, hH⟩
    obtain ⟨ρ0, rfl⟩ := hH.elim
    clear hH
    refine T.seq (T.region ?_)
    refine TO.quiet (q_lss rfl rfl) ?_
    refine TO.nil (T.seq ?_)
    refine T.condP rfl (fun hc => ?_) (fun hc => ?_)
    · have hlt77 : i < l.n := by omega
      refine T.skip (T.seq (T.block (T.seq ?_)))
      have hat : l.at i < 256 := La.at_lt hl0 hL.p8 hL.l8 i
      refine T.region ?_
      refine TO.quiet (q_move rfl) ?_
      refine TO.loud rfl (l_alloc inf3 rfl (fun bx5 => ?_))
      refine TO.loud rfl (l_store_box (v := .int .i64 (i : Int)) (vs := [(.int .i64 (i : Int))]) 0 inf3 rfl rfl rfl rfl rfl rfl (by simp [putL]) ?_)
      refine TO.nil (T.seq ?_)
      refine T.draws _ [(0, 0), (1, 0), (2, 0), (3, 1), (4, 2)] mixed (by kernel_rfl) (Sub.of (List.Sublist.refl _)) (fun _ _ _ h => h) ?_
      refine DO.quiet rfl (q_load_boxAgg 6 Try.underlying26 rfl inf26 rfl rfl rfl) (DO.quiet rfl (q_load_boxAgg 5 Try.underlying29 rfl inf29 rfl rfl rfl) (DO.quiet rfl (q_load_box 0 Try.underlying3 rfl rfl rfl rfl) ?_))
      have hk82 := fun (w1 : World) (hI : Inv w ([oI bx5 3 [(.int .i64 (i : Int))], oI zG 79 [(.slice (some ⟨zN, 0, none⟩) (n * l.n) (n * l.n)), (.slice (some ⟨zM, 0, none⟩) (n * l.n) (n * l.n)), .int .u64 ((2 ^ b.sets.length - 1 : Nat) : Int)], rowI (some ⟨zN, 0, none⟩) (n * l.n) 22 1 (vals qs), rowI (some ⟨zM, 0, none⟩) (n * l.n) 52 1 (uns ms), oI bx3 3 [(.int .i64 ((l.n : Nat) : Int))], oI bx2 29 (laCells l pb pc lb lc), oI bx1 26 (buCells b sb sc eb ec tb tc)] ++ (itms 3 qs)) w1) => atF w1 l pb lb pc lc (hI.la h2) hL hl0 i (by omega)
      refine DO.loud rfl rfl (l_call ent34 (CallT.of_pure hk82) rfl ?_)
      clear hk82
      rintro vr O' ⟨N, rfl, rfl, rfl⟩
      refine ⟨Sub.pickR [0, 0, 0, 0, 0, 0, 0] [oI bx5 3 [(.int .i64 (i : Int))], oI zG 79 [(.slice (some ⟨zN, 0, none⟩) (n * l.n) (n * l.n)), (.slice (some ⟨zM, 0, none⟩) (n * l.n) (n * l.n)), .int .u64 ((2 ^ b.sets.length - 1 : Nat) : Int)], rowI (some ⟨zN, 0, none⟩) (n * l.n) 22 1 (vals qs), rowI (some ⟨zM, 0, none⟩) (n * l.n) 52 1 (uns ms), oI bx3 3 [(.int .i64 ((l.n : Nat) : Int))], oI bx2 29 (laCells l pb pc lb lc), oI bx1 26 (buCells b sb sc eb ec tb tc)] (itms 3 qs) rfl rfl, ?_⟩
      have hk83 := fun (w1 : World) (hI : Inv w ([oI bx5 3 [(.int .i64 (i : Int))], oI zG 79 [(.slice (some ⟨zN, 0, none⟩) (n * l.n) (n * l.n)), (.slice (some ⟨zM, 0, none⟩) (n * l.n) (n * l.n)), .int .u64 ((2 ^ b.sets.length - 1 : Nat) : Int)], rowI (some ⟨zN, 0, none⟩) (n * l.n) 22 1 (vals qs), rowI (some ⟨zM, 0, none⟩) (n * l.n) 52 1 (uns ms), oI bx3 3 [(.int .i64 ((l.n : Nat) : Int))], oI bx2 29 (laCells l pb pc lb lc), oI bx1 26 (buCells b sb sc eb ec tb tc)] ++ (itms 3 qs)) w1) => matchingF w1 b sb eb tb sc ec tc vs (hI.bu h) hB (l.at i)
      refine DO.last rfl rfl (l_call ent53 (CallT.of_pure hk83) rfl ?_)
      clear hk83
      rintro vr O' ⟨N, rfl, bB, cB, rfl, rfl⟩
      refine DO.done ?_
      refine T.block ?_
      refine T.rangeFunc (first := []) (caps := [(.pointer (some ⟨bB, 0, none⟩)), (.pointer (some ⟨cB, 0, none⟩))]) rfl ent99 (fun yl yq yhq => ?_)
      refine CallT.mono (CallT.sub (O' := oI bB 26 (buCells b sb sc eb ec tb tc) :: oI cB 5 [(.int .u8 (l.at i : Int))] :: (objI yl (lp yq none) :: ([oI bx5 3 [(.int .i64 (i : Int))], oI zG 79 [(.slice (some ⟨zN, 0, none⟩) (n * l.n) (n * l.n)), (.slice (some ⟨zM, 0, none⟩) (n * l.n) (n * l.n)), .int .u64 ((2 ^ b.sets.length - 1 : Nat) : Int)], rowI (some ⟨zN, 0, none⟩) (n * l.n) 22 1 (vals qs), rowI (some ⟨zM, 0, none⟩) (n * l.n) 52 1 (uns ms), oI bx3 3 [(.int .i64 ((l.n : Nat) : Int))], oI bx2 29 (laCells l pb pc lb lc), oI bx1 26 (buCells b sb sc eb ec tb tc)] ++ (itms 3 qs)))) (Sub.pickR [1, 1, 0, 0, 0, 0, 0, 0, 0, 0] [objI yl (lp yq none), oI bB 26 (buCells b sb sc eb ec tb tc), oI cB 5 [(.int .u8 (l.at i : Int))], oI bx5 3 [(.int .i64 (i : Int))], oI zG 79 [(.slice (some ⟨zN, 0, none⟩) (n * l.n) (n * l.n)), (.slice (some ⟨zM, 0, none⟩) (n * l.n) (n * l.n)), .int .u64 ((2 ^ b.sets.length - 1 : Nat) : Int)], rowI (some ⟨zN, 0, none⟩) (n * l.n) 22 1 (vals qs), rowI (some ⟨zM, 0, none⟩) (n * l.n) 52 1 (uns ms), oI bx3 3 [(.int .i64 ((l.n : Nat) : Int))], oI bx2 29 (laCells l pb pc lb lc), oI bx1 26 (buCells b sb sc eb ec tb tc)] (itms 3 qs) rfl rfl) (match1 w b sb eb tb sc ec tc vs h hB bB cB (l.at i) hat (.func (.yield yl) #[] #[]) (fun k O => ∃ (qs2 : List Rec), O = objI yl (lp yq none) :: ([oI bx5 3 [(.int .i64 (i : Int))], oI zG 79 [(.slice (some ⟨zN, 0, none⟩) (n * l.n) (n * l.n)), (.slice (some ⟨zM, 0, none⟩) (n * l.n) (n * l.n)), .int .u64 ((2 ^ b.sets.length - 1 : Nat) : Int)], rowI (some ⟨zN, 0, none⟩) (n * l.n) 22 1 (vals qs2), rowI (some ⟨zM, 0, none⟩) (n * l.n) 52 1 (uns ms), oI bx3 3 [(.int .i64 ((l.n : Nat) : Int))], oI bx2 29 (laCells l pb pc lb lc), oI bx1 26 (buCells b sb sc eb ec tb tc)] ++ (itms 3 qs2)) ∧ RowsP (n * l.n) (prodR b.edges l i k) (5000 * i + k) (nums qs2)) (fun _ => False) (fun k hk hm O ⟨qs2, e, h9⟩ => ⟨qs2, e, (h9.same (fun u y _ => by rw [prodR_hit hk]; exact ⟨fun q => q.elim id (fun p => absurd p.1 hm), .inl⟩)).more (by omega)⟩) ?_ _ ?_)) ?_
      · intro k hk O hmt hJ
        obtain ⟨qs2, rfl, hrw2⟩ := hJ
        refine CallV.yield yhq rfl rfl ?_
        obtain ⟨u, hu, hun⟩ : ∃ u : Nat, b.edges[k].fr = (u : Int) ∧ u < n := by
          have := (hv.ed _ (List.getElem_mem hk)).1
          exact ⟨b.edges[k].fr.toNat, by omega, by omega⟩
        obtain ⟨t, ht, htn⟩ : ∃ t : Nat, b.edges[k].to = (t : Int) ∧ t < n := by
          have := (hv.ed _ (List.getElem_mem hk)).2
          exact ⟨b.edges[k].to.toNat, by omega, by omega⟩
        have hq2l := hrw2.ql
        have huL : u * l.n + l.n ≤ n * l.n := by have := Nat.mul_le_mul_right l.n (show u + 1 ≤ n by omega); rwa [Nat.succ_mul] at this
        have htL : t * l.n + l.n ≤ n * l.n := by have := Nat.mul_le_mul_right l.n (show t + 1 ≤ n by omega); rwa [Nat.succ_mul] at this
        have hqu : u * l.n + i < qs2.length := by omega
        have hrq := hrw2.rl hqu
        have hix := La.ix_lt hl0 (i + 1)
        refine T.region ?_
        refine TO.loud rfl (l_alloc inf54 rfl (fun bx6 => ?_))
        refine TO.loud rfl (l_store_box (v := (.agg #[.int .i64 b.edges[k].fr, .int .i64 b.edges[k].to, .int .u8 ((b.edges[k].pos : Nat) : Int), .int .u8 ((b.edges[k].neg : Nat) : Int)])) (vs := [.int .i64 b.edges[k].fr, .int .i64 b.edges[k].to, .int .u8 ((b.edges[k].pos : Nat) : Int), .int .u8 ((b.edges[k].neg : Nat) : Int)]) 0 inf54 rfl rfl rfl rfl rfl rfl (by simp [putL]) ?_)
        refine TO.nil (T.block (T.seq (T.region ?_)))
        refine TO.quiet (q_fieldAddr Try.underlying54 rfl inf3 rfl rfl) (TO.quiet (QT.cast (q_load_box 0 Try.underlying3 rfl rfl rfl rfl) (v' := .int .i64 ((u : Nat) : Int)) (by show Value.int _ _ = _; rw [hu])) (TO.quiet (q_load_box 5 Try.underlying3 rfl rfl rfl rfl) (TO.quiet (q_mulN (a := u) (b := l.n) rfl rfl (by omega)) ?_)))
        refine TO.quiet (q_load_box 1 Try.underlying3 rfl rfl rfl rfl) (TO.quiet (q_addN (a := (u * l.n)) (b := i) rfl rfl (by omega)) (TO.quiet (q_assign rfl) ?_))
        refine TO.nil ?_
        refine T.sub (sub_out hqu [oI bx6 54 [.int .i64 b.edges[k].fr, .int .i64 b.edges[k].to, .int .u8 ((b.edges[k].pos : Nat) : Int), .int .u8 ((b.edges[k].neg : Nat) : Int)], oI bx5 3 [(.int .i64 (i : Int))], oI zG 79 [(.slice (some ⟨zN, 0, none⟩) (n * l.n) (n * l.n)), (.slice (some ⟨zM, 0, none⟩) (n * l.n) (n * l.n)), .int .u64 ((2 ^ b.sets.length - 1 : Nat) : Int)], rowI (some ⟨zN, 0, none⟩) (n * l.n) 22 1 (vals qs2), rowI (some ⟨zM, 0, none⟩) (n * l.n) 52 1 (uns ms), oI bx3 3 [(.int .i64 ((l.n : Nat) : Int))], oI bx2 29 (laCells l pb pc lb lc), oI bx1 26 (buCells b sb sc eb ec tb tc)]) ?_
        refine T.draws [oI bx6 54 [.int .i64 b.edges[k].fr, .int .i64 b.edges[k].to, .int .u8 ((b.edges[k].pos : Nat) : Int), .int .u8 ((b.edges[k].neg : Nat) : Int)], oI bx5 3 [(.int .i64 (i : Int))], oI zG 79 [(.slice (some ⟨zN, 0, none⟩) (n * l.n) (n * l.n)), (.slice (some ⟨zM, 0, none⟩) (n * l.n) (n * l.n)), .int .u64 ((2 ^ b.sets.length - 1 : Nat) : Int)], rowI (some ⟨zN, 0, none⟩) (n * l.n) 22 1 (vals qs2), rowI (some ⟨zM, 0, none⟩) (n * l.n) 52 1 (uns ms), oI bx3 3 [(.int .i64 ((l.n : Nat) : Int))], oI bx2 29 (laCells l pb pc lb lc), oI bx1 26 (buCells b sb sc eb ec tb tc)] [(0, 0), (1, 0), (2, 0), (3, 0), (4, 0), (5, 0), (6, 0), (7, 0), (8, 0), (9, 0), (10, 0), (11, 0), (12, 0), (13, 0), (14, 0), (15, 1), (16, 0), (17, 1), (18, 1), (19, 0), (20, 2)] mixed (by kernel_rfl) (Sub.pick0 [1, 1, 1, 1, 1, 1, 1, 1] [rowI (qs2[u * l.n + i].b) (qs2[u * l.n + i].c) 3 1 (ints qs2[u * l.n + i].xs), oI bx6 54 [.int .i64 b.edges[k].fr, .int .i64 b.edges[k].to, .int .u8 ((b.edges[k].pos : Nat) : Int), .int .u8 ((b.edges[k].neg : Nat) : Int)], oI bx5 3 [(.int .i64 (i : Int))], oI zG 79 [(.slice (some ⟨zN, 0, none⟩) (n * l.n) (n * l.n)), (.slice (some ⟨zM, 0, none⟩) (n * l.n) (n * l.n)), .int .u64 ((2 ^ b.sets.length - 1 : Nat) : Int)], rowI (some ⟨zN, 0, none⟩) (n * l.n) 22 1 (vals qs2), rowI (some ⟨zM, 0, none⟩) (n * l.n) 52 1 (uns ms), oI bx3 3 [(.int .i64 ((l.n : Nat) : Int))], oI bx2 29 (laCells l pb pc lb lc), oI bx1 26 (buCells b sb sc eb ec tb tc)] (itms 3 (qs2.eraseIdx (u * l.n + i))) rfl rfl) (fun _ _ _ h => h) ?_
        refine DO.quiet rfl (q_fieldAddr Try.underlying79 rfl inf24 rfl rfl) (DO.quiet rfl (q_load_box 2 Try.underlying24 rfl rfl rfl rfl) (DO.quiet rfl (q_move rfl) (DO.quiet rfl (q_fieldAddr Try.underlying79 rfl inf24 rfl rfl) ?_)))
        refine DO.quiet rfl (q_load_box 2 Try.underlying24 rfl rfl rfl rfl) (DO.quiet rfl (q_move rfl) (DO.quiet rfl (q_ix (i := ((u * l.n) + i)) Try.underlying24 inf22 rfl rfl (rowO (List.mem_of_getElem? (i := 3) rfl))) (DO.quiet rfl (q_ld Try.underlying22 rfl rfl (rowO (List.mem_of_getElem? (i := 3) rfl)) (vals_at hqu)) ?_)))
        refine DO.quiet rfl (q_fieldAddr Try.underlying54 rfl inf3 rfl rfl) (DO.quiet rfl (QT.cast (q_load_box 0 Try.underlying3 rfl rfl rfl rfl) (v' := .int .i64 ((t : Nat) : Int)) (by show Value.int _ _ = _; rw [ht])) (DO.quiet rfl (q_load_box 5 Try.underlying3 rfl rfl rfl rfl) (DO.quiet rfl (q_mulN (a := t) (b := l.n) rfl rfl (by omega)) ?_)))
        refine DO.quiet rfl (q_load_boxAgg 6 Try.underlying29 rfl inf29 rfl rfl rfl) (DO.quiet rfl (q_load_box 1 Try.underlying3 rfl rfl rfl rfl) (DO.quiet rfl (q_addN (a := i) (b := 1) rfl rfl (by omega)) ?_))
        have hk106 := fun (w1 : World) (hI : Inv w ([rowI (qs2[u * l.n + i].b) (qs2[u * l.n + i].c) 3 1 (ints qs2[u * l.n + i].xs), oI bx6 54 [.int .i64 b.edges[k].fr, .int .i64 b.edges[k].to, .int .u8 ((b.edges[k].pos : Nat) : Int), .int .u8 ((b.edges[k].neg : Nat) : Int)], oI bx5 3 [(.int .i64 (i : Int))], oI zG 79 [(.slice (some ⟨zN, 0, none⟩) (n * l.n) (n * l.n)), (.slice (some ⟨zM, 0, none⟩) (n * l.n) (n * l.n)), .int .u64 ((2 ^ b.sets.length - 1 : Nat) : Int)], rowI (some ⟨zN, 0, none⟩) (n * l.n) 22 1 (vals qs2), rowI (some ⟨zM, 0, none⟩) (n * l.n) 52 1 (uns ms), oI bx3 3 [(.int .i64 ((l.n : Nat) : Int))], oI bx2 29 (laCells l pb pc lb lc), oI bx1 26 (buCells b sb sc eb ec tb tc)] ++ (itms 3 (qs2.eraseIdx (u * l.n + i)))) w1) => indexF w1 l pb lb pc lc (hI.la h2) hL (i + 1) (by omega)
        refine DO.loud rfl rfl (l_call ent54 (CallT.of_pure hk106) rfl ?_)
        clear hk106
        rintro vr O' ⟨N, rfl, rfl, rfl⟩
        refine ⟨Sub.pick0 [1, 1, 1, 1, 1, 1, 1, 1] [rowI (qs2[u * l.n + i].b) (qs2[u * l.n + i].c) 3 1 (ints qs2[u * l.n + i].xs), oI bx6 54 [.int .i64 b.edges[k].fr, .int .i64 b.edges[k].to, .int .u8 ((b.edges[k].pos : Nat) : Int), .int .u8 ((b.edges[k].neg : Nat) : Int)], oI bx5 3 [(.int .i64 (i : Int))], oI zG 79 [(.slice (some ⟨zN, 0, none⟩) (n * l.n) (n * l.n)), (.slice (some ⟨zM, 0, none⟩) (n * l.n) (n * l.n)), .int .u64 ((2 ^ b.sets.length - 1 : Nat) : Int)], rowI (some ⟨zN, 0, none⟩) (n * l.n) 22 1 (vals qs2), rowI (some ⟨zM, 0, none⟩) (n * l.n) 52 1 (uns ms), oI bx3 3 [(.int .i64 ((l.n : Nat) : Int))], oI bx2 29 (laCells l pb pc lb lc), oI bx1 26 (buCells b sb sc eb ec tb tc)] (itms 3 (qs2.eraseIdx (u * l.n + i))) rfl rfl, ?_⟩
        refine DO.quiet rfl (q_addN (a := (t * l.n)) (b := (l.ix (i + 1))) rfl rfl (by omega)) ?_
        refine DO.loud rfl rfl (l_build1 (v := .int .i64 (((t * l.n) + (l.ix (i + 1)) : Nat) : Int)) Try.underlying22 inf3 rfl rfl rfl (fun bx7 => ⟨Sub.pick0 [2, 2, 2, 2, 2, 2, 2, 2] [rowI (some ⟨bx7, 0, none⟩) 1 3 1 [.int .i64 (((t * l.n) + (l.ix (i + 1)) : Nat) : Int)], rowI (qs2[u * l.n + i].b) (qs2[u * l.n + i].c) 3 1 (ints qs2[u * l.n + i].xs), oI bx6 54 [.int .i64 b.edges[k].fr, .int .i64 b.edges[k].to, .int .u8 ((b.edges[k].pos : Nat) : Int), .int .u8 ((b.edges[k].neg : Nat) : Int)], oI bx5 3 [(.int .i64 (i : Int))], oI zG 79 [(.slice (some ⟨zN, 0, none⟩) (n * l.n) (n * l.n)), (.slice (some ⟨zM, 0, none⟩) (n * l.n) (n * l.n)), .int .u64 ((2 ^ b.sets.length - 1 : Nat) : Int)], rowI (some ⟨zN, 0, none⟩) (n * l.n) 22 1 (vals qs2), rowI (some ⟨zM, 0, none⟩) (n * l.n) 52 1 (uns ms), oI bx3 3 [(.int .i64 ((l.n : Nat) : Int))], oI bx2 29 (laCells l pb pc lb lc), oI bx1 26 (buCells b sb sc eb ec tb tc)] (itms 3 (qs2.eraseIdx (u * l.n + i))) rfl rfl, ?_⟩))
        refine DO.loud rfl rfl (l_append 1 Try.underlying22 Try.underlying22 inf3 rfl rfl rfl rfl (by simp) (by decide) (Src.row (j := 0) rfl (by simp)) (by simp [oneB]) (by omega) (by decide) (by decide) (fun bx8 c9 => ⟨Sub.pick0 [2, 2, 2, 2, 2, 2, 2, 2] [rowI (some ⟨bx7, 0, none⟩) 1 3 1 [.int .i64 (((t * l.n) + (l.ix (i + 1)) : Nat) : Int)], rowI bx8 c9 3 1 ((ints qs2[u * l.n + i].xs) ++ [.int .i64 (((t * l.n) + (l.ix (i + 1)) : Nat) : Int)]), oI bx6 54 [.int .i64 b.edges[k].fr, .int .i64 b.edges[k].to, .int .u8 ((b.edges[k].pos : Nat) : Int), .int .u8 ((b.edges[k].neg : Nat) : Int)], oI bx5 3 [(.int .i64 (i : Int))], oI zG 79 [(.slice (some ⟨zN, 0, none⟩) (n * l.n) (n * l.n)), (.slice (some ⟨zM, 0, none⟩) (n * l.n) (n * l.n)), .int .u64 ((2 ^ b.sets.length - 1 : Nat) : Int)], rowI (some ⟨zN, 0, none⟩) (n * l.n) 22 1 (vals qs2), rowI (some ⟨zM, 0, none⟩) (n * l.n) 52 1 (uns ms), oI bx3 3 [(.int .i64 ((l.n : Nat) : Int))], oI bx2 29 (laCells l pb pc lb lc), oI bx1 26 (buCells b sb sc eb ec tb tc)] (itms 3 (qs2.eraseIdx (u * l.n + i))) rfl rfl, ?_⟩))
        refine DO.quiet rfl (q_ix (i := ((u * l.n) + i)) Try.underlying24 inf22 rfl rfl (rowO (List.mem_of_getElem? (i := 3) rfl))) ?_
        refine DO.last rfl rfl (l_st (j := ((u * l.n) + i)) (v := (.slice bx8 ((qs2[u * l.n + i].xs.length) + 1) c9)) (vs := [(.slice bx8 ((qs2[u * l.n + i].xs.length) + 1) c9)]) (cs := vals qs2) 5 inf22 rfl rfl rfl rfl rfl (by simp) rfl (by first | (simp; omega) | (simp_all; omega)) ?_)
        refine DO.sub (O' := ([rowI (some ⟨bx7, 0, none⟩) 1 3 1 [.int .i64 (((t * l.n) + (l.ix (i + 1)) : Nat) : Int)], rowI bx8 c9 3 1 ((ints qs2[u * l.n + i].xs) ++ [.int .i64 (((t * l.n) + (l.ix (i + 1)) : Nat) : Int)]), oI bx6 54 [.int .i64 b.edges[k].fr, .int .i64 b.edges[k].to, .int .u8 ((b.edges[k].pos : Nat) : Int), .int .u8 ((b.edges[k].neg : Nat) : Int)], oI bx5 3 [(.int .i64 (i : Int))], oI zG 79 [(.slice (some ⟨zN, 0, none⟩) (n * l.n) (n * l.n)), (.slice (some ⟨zM, 0, none⟩) (n * l.n) (n * l.n)), .int .u64 ((2 ^ b.sets.length - 1 : Nat) : Int)], rowI (some ⟨zN, 0, none⟩) (n * l.n) 22 1 (vals (qs2.set (u * l.n + i) ⟨bx8, c9, qs2[u * l.n + i].xs ++ [((t * l.n + l.ix (i + 1) : Nat) : Int)]⟩)), rowI (some ⟨zM, 0, none⟩) (n * l.n) 52 1 (uns ms), oI bx3 3 [(.int .i64 ((l.n : Nat) : Int))], oI bx2 29 (laCells l pb pc lb lc), oI bx1 26 (buCells b sb sc eb ec tb tc)] ++ (itms 3 (qs2.eraseIdx (u * l.n + i))))) (by rw [show putL (vals qs2) ((u * l.n) + i) [(.slice bx8 ((qs2[u * l.n + i].xs.length) + 1) c9)] = vals (qs2.set (u * l.n + i) ⟨bx8, c9, qs2[u * l.n + i].xs ++ [((t * l.n + l.ix (i + 1) : Nat) : Int)]⟩) from (by simp [putL, Rec.val])]; exact Sub.of (List.Sublist.refl _)) ?_
        refine DO.sub (O' := [rowI bx8 c9 3 1 ((ints qs2[u * l.n + i].xs) ++ [.int .i64 (((t * l.n) + (l.ix (i + 1)) : Nat) : Int)]), oI bx5 3 [(.int .i64 (i : Int))], oI zG 79 [(.slice (some ⟨zN, 0, none⟩) (n * l.n) (n * l.n)), (.slice (some ⟨zM, 0, none⟩) (n * l.n) (n * l.n)), .int .u64 ((2 ^ b.sets.length - 1 : Nat) : Int)], rowI (some ⟨zN, 0, none⟩) (n * l.n) 22 1 (vals (qs2.set (u * l.n + i) ⟨bx8, c9, qs2[u * l.n + i].xs ++ [((t * l.n + l.ix (i + 1) : Nat) : Int)]⟩)), rowI (some ⟨zM, 0, none⟩) (n * l.n) 52 1 (uns ms), oI bx3 3 [(.int .i64 ((l.n : Nat) : Int))], oI bx2 29 (laCells l pb pc lb lc), oI bx1 26 (buCells b sb sc eb ec tb tc)] ++ (itms 3 (qs2.eraseIdx (u * l.n + i)))) (Sub.pickR [1, 2, 2, 2, 2, 2, 2, 2] [rowI (some ⟨bx7, 0, none⟩) 1 3 1 [.int .i64 (((t * l.n) + (l.ix (i + 1)) : Nat) : Int)], rowI bx8 c9 3 1 ((ints qs2[u * l.n + i].xs) ++ [.int .i64 (((t * l.n) + (l.ix (i + 1)) : Nat) : Int)]), oI bx6 54 [.int .i64 b.edges[k].fr, .int .i64 b.edges[k].to, .int .u8 ((b.edges[k].pos : Nat) : Int), .int .u8 ((b.edges[k].neg : Nat) : Int)], oI bx5 3 [(.int .i64 (i : Int))], oI zG 79 [(.slice (some ⟨zN, 0, none⟩) (n * l.n) (n * l.n)), (.slice (some ⟨zM, 0, none⟩) (n * l.n) (n * l.n)), .int .u64 ((2 ^ b.sets.length - 1 : Nat) : Int)], rowI (some ⟨zN, 0, none⟩) (n * l.n) 22 1 (vals (qs2.set (u * l.n + i) ⟨bx8, c9, qs2[u * l.n + i].xs ++ [((t * l.n + l.ix (i + 1) : Nat) : Int)]⟩)), rowI (some ⟨zM, 0, none⟩) (n * l.n) 52 1 (uns ms), oI bx3 3 [(.int .i64 ((l.n : Nat) : Int))], oI bx2 29 (laCells l pb pc lb lc), oI bx1 26 (buCells b sb sc eb ec tb tc)] (itms 3 (qs2.eraseIdx (u * l.n + i))) rfl rfl) ?_
        refine DO.sub (O' := [oI bx5 3 [(.int .i64 (i : Int))], oI zG 79 [(.slice (some ⟨zN, 0, none⟩) (n * l.n) (n * l.n)), (.slice (some ⟨zM, 0, none⟩) (n * l.n) (n * l.n)), .int .u64 ((2 ^ b.sets.length - 1 : Nat) : Int)], rowI (some ⟨zN, 0, none⟩) (n * l.n) 22 1 (vals (qs2.set (u * l.n + i) ⟨bx8, c9, qs2[u * l.n + i].xs ++ [((t * l.n + l.ix (i + 1) : Nat) : Int)]⟩)), rowI (some ⟨zM, 0, none⟩) (n * l.n) 52 1 (uns ms), oI bx3 3 [(.int .i64 ((l.n : Nat) : Int))], oI bx2 29 (laCells l pb pc lb lc), oI bx1 26 (buCells b sb sc eb ec tb tc)] ++ (itms 3 (qs2.set (u * l.n + i) ⟨bx8, c9, qs2[u * l.n + i].xs ++ [((t * l.n + l.ix (i + 1) : Nat) : Int)]⟩))) (sub_in hqu [oI bx5 3 [(.int .i64 (i : Int))], oI zG 79 [(.slice (some ⟨zN, 0, none⟩) (n * l.n) (n * l.n)), (.slice (some ⟨zM, 0, none⟩) (n * l.n) (n * l.n)), .int .u64 ((2 ^ b.sets.length - 1 : Nat) : Int)], rowI (some ⟨zN, 0, none⟩) (n * l.n) 22 1 (vals (qs2.set (u * l.n + i) ⟨bx8, c9, qs2[u * l.n + i].xs ++ [((t * l.n + l.ix (i + 1) : Nat) : Int)]⟩)), rowI (some ⟨zM, 0, none⟩) (n * l.n) 52 1 (uns ms), oI bx3 3 [(.int .i64 ((l.n : Nat) : Int))], oI bx2 29 (laCells l pb pc lb lc), oI bx1 26 (buCells b sb sc eb ec tb tc)] ⟨bx8, c9, qs2[u * l.n + i].xs ++ [((t * l.n + l.ix (i + 1) : Nat) : Int)]⟩ (by simp)) ?_
        refine DO.done ?_
        exact .inl ⟨rfl, qs2.set (u * l.n + i) ⟨bx8, c9, qs2[u * l.n + i].xs ++ [((t * l.n + l.ix (i + 1) : Nat) : Int)]⟩, rfl, hrw2.push hqu _ (fun w9 y hw => by
          rw [prodR_hit hk]
          have e1 : b.edges[k].fr * (l.n : Int) = ((u * l.n : Nat) : Int) := by rw [hu, Int.natCast_mul]
          have e2 : b.edges[k].to * (l.n : Int) = ((t * l.n : Nat) : Int) := by rw [ht, Int.natCast_mul]
          unfold prodP; rw [e1, e2]
          constructor
          · rintro (h9 | ⟨_, h9, h8⟩)
            · exact .inl h9
            · exact .inr ⟨by omega, by omega⟩
          · rintro (h9 | ⟨h9, h8⟩)
            · exact .inl h9
            · exact .inr ⟨hmt, by omega, by omega⟩) _ _⟩
      · exact ⟨qs, rfl, hrw⟩
      rintro vr O' (⟨qs2, rfl, hrw2⟩ | hF)
      rotate_left
      · exact hF.elim
      refine ⟨none, _, rfl, ?_⟩
      refine T.region ?_
      refine TO.quiet (q_addN (a := i) (b := 1) rfl rfl (by omega)) (TO.quiet (q_move rfl) ?_)
      refine TO.nil ?_
      exact ⟨i + 1, by omega, ([oI zG 79 [(.slice (some ⟨zN, 0, none⟩) (n * l.n) (n * l.n)), (.slice (some ⟨zM, 0, none⟩) (n * l.n) (n * l.n)), .int .u64 ((2 ^ b.sets.length - 1 : Nat) : Int)], rowI (some ⟨zN, 0, none⟩) (n * l.n) 22 1 (vals qs2), rowI (some ⟨zM, 0, none⟩) (n * l.n) 52 1 (uns ms), oI bx3 3 [(.int .i64 ((l.n : Nat) : Int))], oI bx2 29 (laCells l pb pc lb lc), oI bx1 26 (buCells b sb sc eb ec tb tc)] ++ (itms 3 qs2)), (Sub.pickR [1, 1, 1, 1, 1, 1] [oI bx5 3 [(.int .i64 (i : Int))], oI zG 79 [(.slice (some ⟨zN, 0, none⟩) (n * l.n) (n * l.n)), (.slice (some ⟨zM, 0, none⟩) (n * l.n) (n * l.n)), .int .u64 ((2 ^ b.sets.length - 1 : Nat) : Int)], rowI (some ⟨zN, 0, none⟩) (n * l.n) 22 1 (vals qs2), rowI (some ⟨zM, 0, none⟩) (n * l.n) 52 1 (uns ms), oI bx3 3 [(.int .i64 ((l.n : Nat) : Int))], oI bx2 29 (laCells l pb pc lb lc), oI bx1 26 (buCells b sb sc eb ec tb tc)] (itms 3 qs2) rfl rfl), qs2, rfl, by omega, (hrw2.same (fun u y _ => prodR_row)).more (by omega), ⟨rfl, rfl, rfl, rfl, rfl, rfl, rfl, rfl, rfl, rfl, rfl, rfl, trivial⟩⟩
    have hge77 : ¬ i < l.n := by omega
    refine T.exit ?_
    refine T.seq ?_
    have hml8 := hml
    have hie : i = l.n := by omega
    subst hie
    have hg : ProdG b l (nums qs) ms := ⟨⟨5000 * l.n, by omega, by rw [hnn]; exact hrw⟩, by rw [hnn]; exact hml, fun v hv9 => by rw [hms v (by rw [hnn] at hv9; exact hv9)]; simp⟩
    refine T.region ?_
    refine TO.quiet (q_load_boxAgg 0 Try.underlying79 rfl inf79 rfl rfl rfl) ?_
    have hk114 := fun (w1 : World) (hI : Inv w ([oI zG 79 [(.slice (some ⟨zN, 0, none⟩) (n * l.n) (n * l.n)), (.slice (some ⟨zM, 0, none⟩) (n * l.n) (n * l.n)), .int .u64 ((2 ^ b.sets.length - 1 : Nat) : Int)], rowI (some ⟨zN, 0, none⟩) (n * l.n) 22 1 (vals qs), rowI (some ⟨zM, 0, none⟩) (n * l.n) 52 1 (uns ms), oI bx3 3 [(.int .i64 ((l.n : Nat) : Int))], oI bx2 29 (laCells l pb pc lb lc), oI bx1 26 (buCells b sb sc eb ec tb tc)] ++ (itms 3 qs)) w1) => (by
      have hL := liveF w1 (some ⟨zN, 0, none⟩) (some ⟨zM, 0, none⟩) (n * l.n) (n * l.n) (vals qs) (nums qs) ms b.sets.length (hI.slOf (List.mem_of_getElem? (i := 1) rfl)) (Inv.recs (E := 3) hI (fun q hq => List.mem_append_right _ (List.mem_map.2 ⟨q, hq, rfl⟩))) (by rw [hrw.l]; omega) (fun r hr => by obtain ⟨i, hi9, rfl⟩ := List.mem_iff_getElem.1 hr; have h9 := hrw.b i; rw [getD_at hi9] at h9; omega) (hg.ok hv hl0) (hI.slOf (List.mem_of_getElem? (i := 2) rfl)) (by rw [hml, hrw.l]) hg.lt hv.m8
      rw [hrw.l, hml] at hL; exact hL)
    refine TO.loud rfl (l_call ent55 (CallT.of_pure hk114) rfl ?_)
    clear hk114
    rintro vr O' ⟨N, rfl, lb2, lc2, kb2, kc2, ls, co, rfl, rfl, hll, hlc, hlv⟩
    refine TO.quiet (q_move rfl) (TO.quiet (q_extract (vs := _) rfl rfl) (TO.quiet (q_extract (vs := _) rfl rfl) ?_))
    refine TO.loud rfl (l_alloc inf39 rfl (fun bx10 => ?_))
    refine TO.loud rfl (l_store_box (v := (.slice lb2 (n * l.n) lc2)) (vs := [(.slice lb2 (n * l.n) lc2)]) 0 inf39 rfl rfl rfl rfl rfl rfl (by simp [putL]) ?_)
    refine TO.quiet (q_assign rfl) ?_
    refine TO.nil (T.seq ?_)
    have hll2 : ls.length = n * l.n := hll
    refine T.region ?_
    refine TO.quiet (q_fieldAddr Try.underlying26 rfl inf22 rfl rfl) (TO.quiet (q_load_box 8 Try.underlying22 rfl rfl rfl rfl) (TO.quiet (q_makeFunc) ?_))
    have hk120 := CallT.under (A := [oI bx10 39 [(.slice lb2 (n * l.n) lc2)], oI bx3 3 [(.int .i64 ((l.n : Nat) : Int))], rowI lb2 lc2 4 1 (bools ls)]) (B := []) (O := ([oI bx10 39 [(.slice lb2 (n * l.n) lc2)], rowI lb2 lc2 4 1 (bools ls), rowI kb2 kc2 4 1 (bools co), oI zG 79 [(.slice (some ⟨zN, 0, none⟩) (n * l.n) (n * l.n)), (.slice (some ⟨zM, 0, none⟩) (n * l.n) (n * l.n)), .int .u64 ((2 ^ b.sets.length - 1 : Nat) : Int)], rowI (some ⟨zN, 0, none⟩) (n * l.n) 22 1 (vals qs), rowI (some ⟨zM, 0, none⟩) (n * l.n) 52 1 (uns ms), oI bx3 3 [(.int .i64 ((l.n : Nat) : Int))], oI bx2 29 (laCells l pb pc lb lc), oI bx1 26 (buCells b sb sc eb ec tb tc)] ++ (itms 3 qs))) ((containsFuncI w sb sc b.start [oI bx10 39 [(.slice lb2 (n * l.n) lc2)], oI bx3 3 [(.int .i64 ((l.n : Nat) : Int))], rowI lb2 lc2 4 1 (bools ls)] (Sl.o h.st) (by have := hB.st; omega) (.func (.func 57) #[] #[.pointer (some ⟨bx10, 0, none⟩), .pointer (some ⟨bx3, 0, none⟩)]) (fun s => ls.getD (s.toNat * l.n) false) (fun s hs => CallV.of_fn (first := []) (args := [.int .i64 s]) (caps := [.pointer (some ⟨bx10, 0, none⟩), .pointer (some ⟨bx3, 0, none⟩)]) ent57 (by
      have h7 := hv.st s hs
      have h8 : s.toNat * l.n + l.n ≤ n * l.n := by have h9 := Nat.mul_le_mul_right l.n (show s.toNat + 1 ≤ n by omega); rwa [Nat.succ_mul] at h9
      have h9 := startLive w bx10 bx3 lb2 lc2 l.n ls s h7.1 (by omega) (by omega)
      rw [hll2] at h9; exact h9)))) (Sub.pick0 [0, 5, 0] [oI bx10 39 [(.slice lb2 (n * l.n) lc2)], rowI lb2 lc2 4 1 (bools ls), rowI kb2 kc2 4 1 (bools co), oI zG 79 [(.slice (some ⟨zN, 0, none⟩) (n * l.n) (n * l.n)), (.slice (some ⟨zM, 0, none⟩) (n * l.n) (n * l.n)), .int .u64 ((2 ^ b.sets.length - 1 : Nat) : Int)], rowI (some ⟨zN, 0, none⟩) (n * l.n) 22 1 (vals qs), rowI (some ⟨zM, 0, none⟩) (n * l.n) 52 1 (uns ms), oI bx3 3 [(.int .i64 ((l.n : Nat) : Int))], oI bx2 29 (laCells l pb pc lb lc), oI bx1 26 (buCells b sb sc eb ec tb tc)] (itms 3 qs) rfl rfl)
    refine TO.loud rfl (l_call ent56 hk120 rfl ?_)
    clear hk120
    rintro vr O' ⟨A1, rfl, rfl, rfl⟩
    refine TO.quiet (q_assign rfl) (TO.quiet (q_assign rfl) ?_)
    refine TO.nil (T.ret (Res.drop ?_))
    refine Res.two (.bool (b.start.any fun s => ls.getD (s.toNat * l.n) false)) (.int .i64 0) Try.results17 rfl rfl ?_
    have hA := acc_any he0 hel0 (ls := ls) (fun s hs => by
      have h7 := hv.st s hs
      have h8 : s.toNat * l.n + l.n ≤ n * l.n := by have h9 := Nat.mul_le_mul_right l.n (show s.toNat + 1 ≤ n by omega); rwa [Nat.succ_mul] at h9
      exact (hlv _ (by omega)).1.trans (hg.liv hv hl0 _))
    exact ⟨[], Sub.of (List.nil_sublist _), by rw [hA]; unfold accE; rw [if_pos he0, hel0]; rfl, rfl⟩
  refine TO.quiet (q_extract (vs := _) rfl rfl) ?_
  refine TO.nil (T.seq ?_)
  refine T.cond1 rfl ?_
  refine T.skip (T.block (T.seq ?_))
  obtain ⟨x, hx, hxn⟩ : ∃ x : Nat, le.1 = (x : Int) ∧ x < n := by
    obtain ⟨S, hS, hS2⟩ := hin le (hsub le (by rw [hleft]; simp))
    have := hv.se S hS _ hS2
    exact ⟨le.1.toNat, by omega, by omega⟩
  refine T.region ?_
  refine TO.quiet (q_entryMap (K := KI) (V := VU) rfl (List.mem_of_getElem? (i := 0) rfl)) (TO.quiet (QT.cast (q_extract (vs := _) rfl rfl) (v' := .int .i64 ((x : Nat) : Int)) (by show Value.int _ _ = _; rw [hx])) (TO.quiet (q_extract (vs := _) rfl rfl) (TO.quiet (q_assign rfl) ?_)))
  refine TO.quiet (q_assign rfl) ?_
  refine TO.nil (T.seq (T.region ?_))
  refine TO.quiet (q_load_box 4 Try.underlying3 rfl rfl rfl rfl) (TO.quiet (q_move rfl) ?_)
  refine TO.nil (T.block ?_)
  refine T.loop (fun (i : Nat) ρ O => ∃ (ms2 : List Nat), O = [iterI KI VU mm it4 m9 (lA ++ lB) (some le), oI zG 79 [(.slice (some ⟨zN, 0, none⟩) (n * l.n) (n * l.n)), (.slice (some ⟨zM, 0, none⟩) (n * l.n) (n * l.n)), .int .u64 ((2 ^ b.sets.length - 1 : Nat) : Int)], rowI (some ⟨zN, 0, none⟩) (n * l.n) 22 1 (List.replicate (n * l.n) (.slice none 0 0)), rowI (some ⟨zM, 0, none⟩) (n * l.n) 52 1 (uns ms2), oI bx3 3 [(.int .i64 ((l.n : Nat) : Int))], oI bx2 29 (laCells l pb pc lb lc), oI bx1 26 (buCells b sb sc eb ec tb tc)] ∧ i ≤ l.n ∧ ms2.length = n * l.n ∧ (∀ v, v < n * l.n → ms2.getD v 0 = if v / l.n = x ∧ v % l.n < i then le.2 else ms.getD v 0) ∧ Heads [(0, (.agg (buCells b sb sc eb ec tb tc).toArray)), (1, (.agg (laCells l pb pc lb lc).toArray)), (2, (.pointer (some ⟨bx1, 0, none⟩))), (3, (.pointer (some ⟨bx2, 0, none⟩))), (4, .bool false), (5, .int .i64 0), (6, .int .i64 (checkB b : Int)), (7, .int .i64 (checkLV b.vars l : Int)), (8, (.pointer (some ⟨bx3, 0, none⟩))), (9, (.pointer (some ⟨zG, 0, none⟩))), (10, .int .i64 ((x : Nat) : Int)), (11, .int .u64 ((le.2 : Nat) : Int)), (55, (.pointer (some ⟨it4, 0, none⟩))), (61, (.int .i64 ((l.n : Nat) : Int))), (62, .int .i64 (i : Int))] ρ) (fun i => l.n - i) 0 ?_ ?_
  · exact ⟨ms, rfl, Nat.zero_le _, hml, (fun v hv9 => by rw [if_neg (by omega)]), ⟨rfl, rfl, rfl, rfl, rfl, rfl, rfl, rfl, rfl, rfl, rfl, rfl, rfl, rfl, rfl, trivial⟩⟩
  rintro i ρ O ⟨ms2, rfl, hi, hml2, hms2, hH⟩
  obtain ⟨ρ0, rfl⟩ := hH.elim
  clear hH
  refine T.seq (T.region ?_)
  refine TO.quiet (q_lss rfl rfl) ?_
  refine TO.nil (T.seq ?_)
  refine T.condP rfl (fun hc => ?_) (fun hc => ?_)
  · have hlt63 : i < l.n := by omega
    have hpm := prod_marks hml2 hlt63 hxn hms2
    refine T.skip (T.seq (T.block (T.seq (T.region ?_))))
    refine TO.quiet (q_move rfl) (TO.quiet (q_assign rfl) ?_)
    refine TO.nil (T.region ?_)
    refine TO.quiet (q_fieldAddr Try.underlying79 rfl inf77 rfl rfl) (TO.quiet (q_load_box 1 Try.underlying77 rfl rfl rfl rfl) (TO.quiet (q_move rfl) (TO.quiet (q_load_box 4 Try.underlying3 rfl rfl rfl rfl) ?_)))
    refine TO.quiet (q_mulN (a := x) (b := l.n) rfl rfl (by have := Nat.mul_le_mul_right l.n (Nat.le_of_lt hxn); omega)) (TO.quiet (q_move rfl) (TO.quiet (q_addN (a := (x * l.n)) (b := i) rfl rfl (by omega)) (TO.quiet (q_move rfl) ?_)))
    refine TO.quiet (q_ix (i := ((x * l.n) + i)) Try.underlying77 inf52 rfl rfl (rowO (List.mem_of_getElem? (i := 3) rfl))) ?_
    refine TO.loud rfl (l_st (j := ((x * l.n) + i)) (v := .int .u64 ((le.2 : Nat) : Int)) (vs := [(.int .u64 ((le.2 : Nat) : Int))]) (cs := uns ms2) 3 inf52 rfl rfl rfl rfl rfl (by simp) rfl (by first | (simp; omega) | (simp_all; omega)) ?_)
    refine TO.sub (O' := [iterI KI VU mm it4 m9 (lA ++ lB) (some le), oI zG 79 [(.slice (some ⟨zN, 0, none⟩) (n * l.n) (n * l.n)), (.slice (some ⟨zM, 0, none⟩) (n * l.n) (n * l.n)), .int .u64 ((2 ^ b.sets.length - 1 : Nat) : Int)], rowI (some ⟨zN, 0, none⟩) (n * l.n) 22 1 (List.replicate (n * l.n) (.slice none 0 0)), rowI (some ⟨zM, 0, none⟩) (n * l.n) 52 1 (uns (ms2.set (x * l.n + i) le.2)), oI bx3 3 [(.int .i64 ((l.n : Nat) : Int))], oI bx2 29 (laCells l pb pc lb lc), oI bx1 26 (buCells b sb sc eb ec tb tc)]) (by rw [show putL (uns ms2) ((x * l.n) + i) [(.int .u64 ((le.2 : Nat) : Int))] = uns (ms2.set (x * l.n + i) le.2) from (by simp [putL])]; exact Sub.of (List.Sublist.refl _)) ?_
    refine TO.nil (T.region ?_)
    refine TO.quiet (q_addN (a := i) (b := 1) rfl rfl (by omega)) (TO.quiet (q_move rfl) ?_)
    refine TO.nil ?_
    exact ⟨i + 1, by omega, ms2.set (x * l.n + i) le.2, rfl, by omega, by simp [hml2], hpm.2, ⟨rfl, rfl, rfl, rfl, rfl, rfl, rfl, rfl, rfl, rfl, rfl, rfl, rfl, rfl, rfl, trivial⟩⟩
  have hge63 : ¬ i < l.n := by omega
  refine T.exit ?_
  subst hleft
  exact ⟨lA ++ lB, by simp, some le, ms2, rfl, fun q hq => hsub q (by rcases List.mem_append.1 hq with h | h <;> simp [h]), nodup_mid hnd, hml2, fun v hv9 => by
    rw [hms2 v hv9, ← marks_stepG hnd (hmp.val (hsub le (by simp))) hx (hms v hv9)]
    have := Nat.mod_lt v hL0
    by_cases e : v / l.n = x
    · rw [if_pos ⟨e, by omega⟩, if_pos e]
    · rw [if_neg (fun q => e q.1), if_neg e], ⟨rfl, rfl, rfl, rfl, rfl, rfl, rfl, rfl, rfl, rfl, rfl, trivial⟩⟩
end Go.Proofs.Ytnamoapbienooaa


namespace Go.Lx
open Go.RowKit
set_option linter.unusedVariables false
open Classical in
theorem accV_iff {b : Bu} {l : La} (he : checkB b = 0) (hel : checkLV b.vars l = 0) : accV b l = true ↔ Acc b l.at := by
  unfold accV
  rw [if_pos ⟨he, hel⟩, decide_eq_true_iff, accL_iff (checkB_zero.1 he) (checkL_loop hel).1]
theorem checkLV_of {v : Int} {l : La} (h0 : 0 ≤ v ∧ v ≤ 6) (hl : 0 < l.loop.length) (h1 : l.pre.length ≤ 64) (h2 : l.loop.length ≤ 64) (h3 : ∀ x ∈ l.pre, x < 2 ^ v.toNat) (h4 : ∀ x ∈ l.loop, x < 2 ^ v.toNat) : checkLV v l = 0 := by
  unfold checkLV checkL
  rw [if_neg (fun q => q h0), if_neg (by omega), if_neg (by omega), if_pos]
  exact ⟨List.all_eq_true.2 (fun x hx => decide_eq_true (h3 x hx)), List.all_eq_true.2 (fun x hx => decide_eq_true (h4 x hx))⟩
def alwB : Bu := { vars := 1, states := 2, start := [0], edges := [⟨0, 0, 0, 0⟩, ⟨0, 1, 1, 0⟩, ⟨1, 1, 1, 0⟩], sets := [[1]] }
def alwC : Bu := { alwB with sets := [[1], [0]] }
theorem alwB_check : checkB alwB = 0 := by decide
theorem alwC_check : checkB alwC = 0 := by decide
theorem alwB_valid : ValidB alwB := checkB_zero.1 alwB_check
def la1 : La := ⟨[0], [1]⟩
def la2 : La := ⟨[], [0, 1]⟩
theorem la1_check : checkLV alwB.vars la1 = 0 := by decide
theorem la2_check : checkLV alwB.vars la2 = 0 := by decide
theorem la1_at (i : Nat) : la1.at i = if i = 0 then 0 else 1 := by
  cases i with
  | zero => rfl
  | succ i => show (if i + 1 < 1 then _ else [1].getD ((i + 1 - 1) % max 1 1) 0) = _; rw [if_neg (by omega), if_neg (by omega), show max 1 1 = 1 from rfl, Nat.mod_one]; rfl
theorem la2_at (i : Nat) : la2.at i = i % 2 := by
  show (if i < 0 then _ else [0, 1].getD ((i - 0) % max 2 1) 0) = _
  rw [if_neg (by omega), Nat.sub_zero, show max 2 1 = 2 from rfl]
  have : i % 2 < 2 := Nat.mod_lt _ (by omega)
  generalize i % 2 = j at this ⊢
  match j, this with
  | 0, _ => rfl
  | 1, _ => rfl
theorem alw_edges {e : Ed} (h : e ∈ alwB.edges) : e = ⟨0, 0, 0, 0⟩ ∨ e = ⟨0, 1, 1, 0⟩ ∨ e = ⟨1, 1, 1, 0⟩ := by
  simpa [alwB] using h
theorem la1_acc : Acc alwB la1.at := by
  refine ⟨0, by simp [alwB], fun i => if i ≤ 1 then 0 else 1, rfl, fun i => ?_, fun S hS N => ?_⟩
  · rw [la1_at]
    show ∃ e ∈ alwB.edges, e.fr = ((if i ≤ 1 then 0 else 1 : Nat) : Int) ∧ e.to = ((if i + 1 ≤ 1 then 0 else 1 : Nat) : Int) ∧ _
    by_cases h0 : i = 0
    · subst h0; exact ⟨⟨0, 0, 0, 0⟩, by simp [alwB], rfl, rfl, by constructor <;> rfl⟩
    · by_cases h1 : i = 1
      · subst h1; exact ⟨⟨0, 1, 1, 0⟩, by simp [alwB], rfl, rfl, by constructor <;> rfl⟩
      · refine ⟨⟨1, 1, 1, 0⟩, by simp [alwB], ?_, ?_, ?_⟩
        · rw [if_neg (by omega)]; rfl
        · rw [if_neg (by omega)]; rfl
        · rw [if_neg h0]; constructor <;> rfl
  · have : S = [1] := by simpa [alwB] using hS
    subst this
    refine ⟨N + 2, by omega, ?_⟩
    show ((if N + 2 ≤ 1 then 0 else 1 : Nat) : Int) ∈ [(1 : Int)]
    rw [if_neg (by omega)]; simp
theorem la2_rej : ¬ Acc alwB la2.at := by
  rintro ⟨s, _, r, h⟩
  have stay : ∀ i, r i = 1 → r (i + 1) = 1 ∧ i % 2 = 1 := fun i hi => by
    obtain ⟨e, he, h1, h2, h3, _⟩ := h.st i
    rw [la2_at] at h3
    rcases alw_edges he with rfl | rfl | rfl
    · rw [hi] at h1; simp at h1
    · rw [hi] at h1; simp at h1
    · refine ⟨by have : (1 : Int) = r (i + 1) := h2; omega, ?_⟩
      have : i % 2 < 2 := Nat.mod_lt _ (by omega)
      by_cases e : i % 2 = 1
      · exact e
      · have e0 : i % 2 = 0 := by omega
        rw [e0] at h3; simp at h3
  obtain ⟨i, _, hi⟩ := h.inf [1] (by simp [alwB]) 0
  have hi' : r i = 1 := by simp at hi; omega
  have h1 := stay i hi'
  have h2 := stay (i + 1) h1.1
  omega
theorem alw_core : coreB alwB 1 := by
  refine ⟨⟨1, ⟨⟨1, 1, 1, 0⟩, by simp [alwB], rfl, rfl⟩, .refl _⟩, fun k hk => ?_⟩
  have hk' : k < 1 := hk
  have : k = 0 := by omega
  subst this
  exact ⟨1, ⟨by decide, [1], rfl, by simp⟩, .refl _, .refl _⟩
theorem alw_live1 : liveB alwB 1 := ⟨1, .refl _, alw_core⟩
theorem alw_live0 : liveB alwB 0 := ⟨1, .one ⟨⟨0, 1, 1, 0⟩, by simp [alwB], rfl, rfl⟩, alw_core⟩
theorem alw_lives : livesB alwB = [true, true] := by
  symm
  apply livesB_of alwB_check rfl
  intro v hv
  have hv' : v < 2 := hv
  match v, hv' with
  | 0, _ => exact ⟨fun _ => alw_live0, fun _ => rfl⟩
  | 1, _ => exact ⟨fun _ => alw_live1, fun _ => rfl⟩
theorem alw_wit : witE alwB = 0 := by
  unfold witE
  rw [if_neg (by rw [alwB_check]; exact fun h => h rfl), if_pos ⟨0, by simp [alwB], alw_live0⟩]
theorem alwC_stay {u v : Nat} (h : Rch (autE alwC) u v) : u = 1 → v = 1 := by
  induction h with
  | refl => exact id
  | step e h ih =>
    intro hu
    obtain ⟨ed, he, h1, h2⟩ := e
    apply ih
    rcases alw_edges he with rfl | rfl | rfl
    · rw [hu] at h1; simp at h1
    · rw [hu] at h1; simp at h1
    · have : (1 : Int) = _ := h2; omega
theorem alwC_nocore (u : Nat) : ¬ coreB alwC u := by
  rintro ⟨_, h⟩
  obtain ⟨x, ⟨_, S, h1, h2⟩, h3, h4⟩ := h 0 (by decide)
  obtain ⟨y, ⟨_, S', h5, h6⟩, h7, h8⟩ := h 1 (by decide)
  have e1 : S = [1] := by simpa [alwC] using h1.symm
  have e2 : S' = [0] := by simpa [alwC] using h5.symm
  subst e1; subst e2
  have hx : x = 1 := by simp at h2; omega
  have hy : y = 0 := by simp at h6; omega
  have := alwC_stay (h4.trans h7) hx
  omega
theorem alwC_dead (u : Nat) : ¬ liveB alwC u := fun ⟨x, _, h⟩ => alwC_nocore x h
theorem alwC_wit : witE alwC = 9 := by
  unfold witE
  rw [if_neg (by rw [alwC_check]; exact fun h => h rfl), if_neg (fun ⟨s, _, h⟩ => alwC_dead s h)]
theorem alwC_trim : (trimB alwC).states = 0 ∧ (trimB alwC).sets.length = 2 := by
  have hk : keepB alwC = [false, false] := by
    symm
    apply keepB_of rfl
    intro v hv
    constructor
    · intro h
      have hv' : v < 2 := hv
      match v, hv', h with
      | 0, _, h => cases h
      | 1, _, h => cases h
    · exact fun h => absurd h.1 (alwC_dead v)
  unfold trimB
  rw [if_pos alwC_check, hk]
  exact ⟨rfl, rfl⟩
theorem WitOf.chk {b : Bu} {c : La} (h : WitOf b c) (hv : ValidB b) (h1 : c.pre.length ≤ 64) (h2 : c.loop.length ≤ 64) : checkLV b.vars c = 0 :=
  checkLV_of ⟨hv.v0, hv.v6⟩ h.can.pos h1 h2 (fun x hx => by obtain ⟨e, he, rfl⟩ := h.mem x (.inl hx); exact (hv.cu e he).1) (fun x hx => by obtain ⟨e, he, rfl⟩ := h.mem x (.inr hx); exact (hv.cu e he).1)
theorem alw_witacc {c : La} (h : WitOf alwB c) : accV alwB c = true ∧ accE alwB c = 0 := by
  have hp : c.pre.length ≤ 2 := h.pre
  have hl : c.loop.length ≤ 2 * (1 + 1) := h.loop
  have hc := h.chk alwB_valid (by omega) (by omega)
  exact ⟨(accV_iff alwB_check hc).2 h.acc, by unfold accE; rw [if_pos alwB_check]; exact hc⟩
theorem WitOf.lab {b : Bu} {c : La} (h : WitOf b c) (hB : BuB b) (hv : ValidB b) : LaB c := by
  have h3 : b.states.toNat * (b.sets.length + 1) ≤ 4096 * 9 := Nat.mul_le_mul (by have := hv.n4; omega) (by have := hv.m8; omega)
  exact ⟨by have := h.pre; have := hv.n4; omega, by have := h.loop; omega, fun x hx => by obtain ⟨e, he, rfl⟩ := h.mem x (.inl hx); exact (hB.pn e he).1, fun x hx => by obtain ⟨e, he, rfl⟩ := h.mem x (.inr hx); exact (hB.pn e he).1⟩
theorem alwB_B : BuB alwB := ⟨by decide, by decide, by decide, by decide, by decide⟩
theorem alwC_B : BuB alwC := ⟨by decide, by decide, by decide, by decide, by decide⟩
end Go.Lx


namespace Go.Proofs.Ytnamoapbienooaa
open Go.Lx Go.RowKit
set_option linter.unusedVariables false
set_option linter.unusedSimpArgs false
set_option maxHeartbeats 1000000 in
set_option maxRecDepth 20000 in
theorem alwaysF (w : World) :
    PureT Try.prog 44 [] w fun v N => ∃ sb eb tb qb, v = .agg (buCells alwB sb 1 eb 3 tb 1).toArray ∧ N = [rowI sb 1 3 1 (ints alwB.start), rowI eb 3 54 4 (edsC alwB.edges), rowI tb 1 22 1 [.slice qb 1 1], rowI qb 1 3 1 (ints [1])] := by
  refine CallT.enter Try.func44 rfl Try.ntmps44 rfl ?_
  refine T.seq (T.region ?_)
  refine TO.loud rfl (l_alloc inf26 rfl (fun bx1 => ?_))
  refine TO.nil (T.seq (T.region ?_))
  refine TO.loud rfl (l_build1 (v := .int .i64 0) Try.underlying22 inf3 rfl rfl rfl (fun bx2 => ?_))
  refine TO.quiet (q_build (cs := [.int .i64 0, .int .i64 0, (.int .u8 0), (.int .u8 0)]) plan54 inf54 (by kernel_rfl)) (TO.quiet (q_build (cs := [.int .i64 0, .int .i64 1, .int .u8 1, (.int .u8 0)]) plan54 inf54 (by kernel_rfl)) (TO.quiet (q_build (cs := [.int .i64 1, .int .i64 1, .int .u8 1, (.int .u8 0)]) plan54 inf54 (by kernel_rfl)) ?_))
  refine TO.loud rfl (l_buildSlice (m := 3) (parts := [(0, _), (1, _), (2, _)]) (cs := [.int .i64 0, .int .i64 0, (.int .u8 0), (.int .u8 0), .int .i64 0, .int .i64 1, .int .u8 1, (.int .u8 0), .int .i64 1, .int .i64 1, .int .u8 1, (.int .u8 0)]) Try.underlying23 inf54 (by decide) (by kernel_rfl) rfl (fun bx3 => ?_))
  refine TO.loud rfl (l_build1 (v := .int .i64 1) Try.underlying22 inf3 rfl rfl rfl (fun bx4 => ?_))
  refine TO.loud rfl (l_build1 (v := (.slice (some ⟨bx4, 0, none⟩) 1 1)) Try.underlying24 inf22 rfl rfl rfl (fun bx5 => ?_))
  refine TO.quiet (q_build (cs := [.int .i64 1, .int .i64 2, (.slice (some ⟨bx2, 0, none⟩) 1 1), (.slice (some ⟨bx3, 0, none⟩) 3 3), (.slice (some ⟨bx5, 0, none⟩) 1 1)]) plan26 inf26 (by kernel_rfl)) ?_
  refine TO.loud rfl (l_store_box (v := (.agg #[.int .i64 1, .int .i64 2, (.slice (some ⟨bx2, 0, none⟩) 1 1), (.slice (some ⟨bx3, 0, none⟩) 3 3), (.slice (some ⟨bx5, 0, none⟩) 1 1)])) (vs := [.int .i64 1, .int .i64 2, (.slice (some ⟨bx2, 0, none⟩) 1 1), (.slice (some ⟨bx3, 0, none⟩) 3 3), (.slice (some ⟨bx5, 0, none⟩) 1 1)]) 4 inf26 rfl rfl rfl rfl rfl rfl (by simp [putL]) ?_)
  refine TO.nil (T.ret (Res.drop ?_))
  refine Res.cell1 (i := 4) Try.results44 Try.underlying26 rfl inf26 rfl rfl rfl ?_
  exact ⟨[rowI (some ⟨bx2, 0, none⟩) 1 3 1 [.int .i64 0], rowI (some ⟨bx3, 0, none⟩) 3 54 4 [.int .i64 0, .int .i64 0, (.int .u8 0), (.int .u8 0), .int .i64 0, .int .i64 1, .int .u8 1, (.int .u8 0), .int .i64 1, .int .i64 1, .int .u8 1, (.int .u8 0)], rowI (some ⟨bx5, 0, none⟩) 1 22 1 [(.slice (some ⟨bx4, 0, none⟩) 1 1)], rowI (some ⟨bx4, 0, none⟩) 1 3 1 [.int .i64 1]], (Sub.pick [3, 2, 0, 0] rfl), _, _, _, _, rfl, rfl⟩
theorem accAlw1 (w : World) (sb eb tb : Option Addr) (sc ec tc : Nat) (vs : List Value) (h : BuAt w alwB sb eb tb vs) (pb lb : Option Addr) (pc lc : Nat) (h2 : LaAt w la1 pb lb pc lc) :
    PureT Try.prog 17 [.agg (buCells alwB sb sc eb ec tb tc).toArray, .agg (laCells la1 pb pc lb lc).toArray] w fun v N => v = .tuple #[.bool true, .int .i64 0] ∧ N = [] := by
  have h9 := acceptsF w alwB sb eb tb sc ec tc vs h alwB_B la1 pb lb pc lc h2 ⟨by decide, by decide, by decide, by decide⟩ (by decide)
  rw [(accV_iff alwB_check la1_check).2 la1_acc, show accE alwB la1 = 0 from rfl] at h9
  exact h9
theorem accAlw2 (w : World) (sb eb tb : Option Addr) (sc ec tc : Nat) (vs : List Value) (h : BuAt w alwB sb eb tb vs) (pb lb : Option Addr) (pc lc : Nat) (h2 : LaAt w la2 pb lb pc lc) :
    PureT Try.prog 17 [.agg (buCells alwB sb sc eb ec tb tc).toArray, .agg (laCells la2 pb pc lb lc).toArray] w fun v N => v = .tuple #[.bool false, .int .i64 0] ∧ N = [] := by
  have h9 := acceptsF w alwB sb eb tb sc ec tc vs h alwB_B la2 pb lb pc lc h2 ⟨by decide, by decide, by decide, by decide⟩ (by decide)
  rw [show accV alwB la2 = false by rw [← Bool.not_eq_true]; exact fun q => la2_rej ((accV_iff alwB_check la2_check).1 q), show accE alwB la2 = 0 from rfl] at h9
  exact h9
theorem livAlw (w : World) (sb eb tb : Option Addr) (sc ec tc : Nat) (vs : List Value) (h : BuAt w alwB sb eb tb vs) :
    PureT Try.prog 19 [.agg (buCells alwB sb sc eb ec tb tc).toArray] w fun v N => ∃ lb lc, v = .tuple #[.slice lb 2 lc, .int .i64 0] ∧ N = [rowI lb lc 4 1 (bools [true, true])] := by
  have h9 := livesF w alwB sb eb tb sc ec tc vs h alwB_B
  rw [alw_lives, alwB_check] at h9
  exact h9
theorem witAlw (w : World) (sb eb tb : Option Addr) (sc ec tc : Nat) (vs : List Value) (h : BuAt w alwB sb eb tb vs) :
    PureT Try.prog 27 [.agg (buCells alwB sb sc eb ec tb tc).toArray] w fun v N => ∃ (c : La) (pb lb : Option Addr) (pc lc : Nat), v = .tuple #[.agg (laCells c pb pc lb lc).toArray, .int .i64 0] ∧ N = [rowI pb pc 5 1 (byts c.pre), rowI lb lc 5 1 (byts c.loop)] ∧ WitOf alwB c :=
  (witnessF w alwB sb eb tb sc ec tc vs h alwB_B).mono fun v N ⟨c, pb, lb, pc, lc, e, h1, h2, h3, h4, h5⟩ => ⟨c, pb, lb, pc, lc, by rw [h1, h3, alw_wit]; rfl, h2, h5 (by rw [h3, alw_wit])⟩
theorem witAlwC (w : World) (sb eb tb : Option Addr) (sc ec tc : Nat) (vs : List Value) (h : BuAt w alwC sb eb tb vs) :
    PureT Try.prog 27 [.agg (buCells alwC sb sc eb ec tb tc).toArray] w fun v N => ∃ (pb lb : Option Addr) (pc lc : Nat), v = .tuple #[.agg (laCells ⟨[], []⟩ pb pc lb lc).toArray, .int .i64 9] ∧ N = [rowI pb pc 5 1 [], rowI lb lc 5 1 []] :=
  (witnessF w alwC sb eb tb sc ec tc vs h alwC_B).mono fun v N ⟨c, pb, lb, pc, lc, e, h1, h2, h3, h4, h5⟩ => by
    have he : e = 9 := by rw [h3, alwC_wit]
    have hc := h4 (by omega)
    subst he; subst hc
    exact ⟨pb, lb, pc, lc, h1, h2⟩
theorem trmAlwC (w : World) (sb eb tb : Option Addr) (sc ec tc : Nat) (vs : List Value) (h : BuAt w alwC sb eb tb vs) :
    PureT Try.prog 28 [.agg (buCells alwC sb sc eb ec tb tc).toArray] w fun v N => ∃ (z0 : Int) (sb2 : Option Addr) (n1 sc2 : Nat) (eb2 : Option Addr) (n2 ec2 : Nat) (tb2 : Option Addr) (tc2 : Nat), v = .tuple #[.agg #[.int .i64 z0, .int .i64 0, .slice sb2 n1 sc2, .slice eb2 n2 ec2, .slice tb2 2 tc2], .int .i64 0] :=
  (trimF w alwC sb eb tb sc ec tc vs h alwC_B).mono fun v N ⟨sb2, eb2, tb2, sc2, ec2, tc2, qs, h1, h2, h3⟩ => ⟨(trimB alwC).vars, sb2, (trimB alwC).start.length, sc2, eb2, (trimB alwC).edges.length, ec2, tb2, tc2, by rw [h1, alwC_check]; show Value.tuple #[.agg (buCells (trimB alwC) sb2 sc2 eb2 ec2 tb2 tc2).toArray, _] = _; simp only [buCells, alwC_trim.1, alwC_trim.2]; rfl⟩
theorem accWit (w : World) (sb eb tb : Option Addr) (sc ec tc : Nat) (vs : List Value) (h : BuAt w alwB sb eb tb vs) (c : La) (hw : WitOf alwB c) (pb lb : Option Addr) (pc lc : Nat) (h2 : LaAt w c pb lb pc lc) :
    PureT Try.prog 17 [.agg (buCells alwB sb sc eb ec tb tc).toArray, .agg (laCells c pb pc lb lc).toArray] w fun v N => v = .tuple #[.bool true, .int .i64 0] ∧ N = [] := by
  have h9 := acceptsF w alwB sb eb tb sc ec tc vs h alwB_B c pb lb pc lc h2 (hw.lab alwB_B alwB_valid) (by decide)
  rw [(alw_witacc hw).1, (alw_witacc hw).2] at h9
  exact h9
end Go.Proofs.Ytnamoapbienooaa


namespace Go.Proofs.Ytnamoapbienooaa
open Go.Lx Go.RowKit
set_option linter.unusedVariables false
set_option linter.unusedSimpArgs false
set_option maxHeartbeats 4000000 in
set_option maxRecDepth 20000 in
theorem awakeF (w : World) : PureT Try.prog 14 [] w fun v N => v = .bool true ∧ N = [] := by
  refine CallT.enter Try.func14 rfl Try.ntmps14 rfl ?_
  refine T.seq (T.region ?_)
  refine TO.quiet (q_assign rfl) ?_
  refine TO.nil (T.seq (T.region ?_))
  have hk17 := fun (w1 : World) (hI : Inv w [] w1) => alwaysF w1
  refine TO.loud rfl (l_call ent44 (CallT.of_pure hk17) rfl ?_)
  clear hk17
  rintro vr O' ⟨N, rfl, sb1, eb1, tb1, qb1, rfl, rfl⟩
  have hk18 := fun (w1 : World) (hI : Inv w [rowI sb1 1 3 1 (ints alwB.start), rowI eb1 3 54 4 (edsC alwB.edges), rowI tb1 1 22 1 [(.slice qb1 1 1)], rowI qb1 1 3 1 (ints [1])] w1) => alwaysF w1
  refine TO.loud rfl (l_call ent44 (CallT.of_pure hk18) rfl ?_)
  clear hk18
  rintro vr O' ⟨N, rfl, sb2, eb2, tb2, qb2, rfl, rfl⟩
  refine TO.loud rfl (l_alloc inf26 rfl (fun bx1 => ?_))
  refine TO.loud rfl (l_alloc inf26 rfl (fun bx2 => ?_))
  refine TO.loud rfl (l_store_box (v := (.agg #[(.int .i64 1), (.int .i64 2), (.slice sb1 1 1), (.slice eb1 3 3), (.slice tb1 1 1)])) (vs := [(.int .i64 1), (.int .i64 2), (.slice sb1 1 1), (.slice eb1 3 3), (.slice tb1 1 1)]) 1 inf26 rfl rfl rfl rfl rfl rfl (by simp [putL]) ?_)
  refine TO.loud rfl (l_store_box (v := (.agg #[(.int .i64 1), (.int .i64 2), (.slice sb2 1 1), (.slice eb2 3 3), (.slice tb2 1 1)])) (vs := [(.int .i64 1), (.int .i64 2), (.slice sb2 1 1), (.slice eb2 3 3), (.slice tb2 1 1)]) 0 inf26 rfl rfl rfl rfl rfl rfl (by simp [putL]) ?_)
  refine TO.nil (T.seq (T.region ?_))
  refine TO.quiet (q_fieldAddr Try.underlying26 rfl inf24 rfl rfl) (TO.quiet (q_load_box 0 Try.underlying24 rfl rfl rfl rfl) ?_)
  refine TO.loud rfl (l_build1 (v := .int .i64 0) Try.underlying22 inf3 rfl rfl rfl (fun bx3 => ?_))
  refine TO.loud rfl (l_build1 (v := (.slice (some ⟨bx3, 0, none⟩) 1 1)) Try.underlying24 inf22 rfl rfl rfl (fun bx4 => ?_))
  refine TO.loud rfl (l_append 6 Try.underlying24 Try.underlying24 inf22 rfl rfl rfl rfl (by simp) (by decide) (Src.row (j := 0) rfl (by simp)) (by simp [oneB]) (by omega) (by decide) (by decide) (fun bx5 c6 => ?_))
  refine TO.quiet (q_fieldAddr Try.underlying26 rfl inf24 rfl rfl) ?_
  refine TO.loud rfl (l_store_box (v := (.slice bx5 (1 + 1) c6)) (vs := [(.slice bx5 (1 + 1) c6)]) 2 inf24 rfl rfl rfl rfl rfl rfl (by simp [putL]) ?_)
  refine TO.sub (O' := [rowI (some ⟨bx4, 0, none⟩) 1 22 1 [(.slice (some ⟨bx3, 0, none⟩) 1 1)], rowI (some ⟨bx3, 0, none⟩) 1 3 1 [.int .i64 0], oI bx2 26 [(.int .i64 1), (.int .i64 2), (.slice sb2 1 1), (.slice eb2 3 3), (.slice bx5 (1 + 1) c6)], oI bx1 26 [(.int .i64 1), (.int .i64 2), (.slice sb1 1 1), (.slice eb1 3 3), (.slice tb1 1 1)], rowI sb2 1 3 1 (ints alwB.start), rowI eb2 3 54 4 (edsC alwB.edges), rowI bx5 c6 22 1 ([(.slice qb2 1 1)] ++ [(.slice (some ⟨bx3, 0, none⟩) 1 1)]), rowI qb2 1 3 1 (ints [1]), rowI sb1 1 3 1 (ints alwB.start), rowI eb1 3 54 4 (edsC alwB.edges), rowI tb1 1 22 1 [(.slice qb1 1 1)], rowI qb1 1 3 1 (ints [1])]) (Sub.pick [0, 0, 0, 0, 0, 0, 0, 0, 0, 0, 0, 0] rfl) ?_
  refine TO.nil (T.seq ?_)
  
  refine T.region ?_
  refine TO.quiet (q_load_boxAgg 3 Try.underlying26 rfl inf26 rfl rfl rfl) ?_
  refine TO.loud rfl (l_build1 (v := .int .u8 0) Try.underlying27 inf5 rfl rfl rfl (fun bx7 => ?_))
  refine TO.loud rfl (l_build1 (v := .int .u8 1) Try.underlying27 inf5 rfl rfl rfl (fun bx8 => ?_))
  refine TO.quiet (q_build (cs := [(.slice (some ⟨bx7, 0, none⟩) 1 1), (.slice (some ⟨bx8, 0, none⟩) 1 1)]) plan29 inf29 (by kernel_rfl)) ?_
  have hk30 := fun (w1 : World) (hI : Inv w [rowI (some ⟨bx8, 0, none⟩) 1 5 1 [.int .u8 1], rowI (some ⟨bx7, 0, none⟩) 1 5 1 [.int .u8 0], rowI (some ⟨bx4, 0, none⟩) 1 22 1 [(.slice (some ⟨bx3, 0, none⟩) 1 1)], rowI (some ⟨bx3, 0, none⟩) 1 3 1 [.int .i64 0], oI bx2 26 [(.int .i64 1), (.int .i64 2), (.slice sb2 1 1), (.slice eb2 3 3), (.slice bx5 (1 + 1) c6)], oI bx1 26 [(.int .i64 1), (.int .i64 2), (.slice sb1 1 1), (.slice eb1 3 3), (.slice tb1 1 1)], rowI sb2 1 3 1 (ints alwB.start), rowI eb2 3 54 4 (edsC alwB.edges), rowI bx5 c6 22 1 ([(.slice qb2 1 1)] ++ [(.slice (some ⟨bx3, 0, none⟩) 1 1)]), rowI qb2 1 3 1 (ints [1]), rowI sb1 1 3 1 (ints alwB.start), rowI eb1 3 54 4 (edsC alwB.edges), rowI tb1 1 22 1 [(.slice qb1 1 1)], rowI qb1 1 3 1 (ints [1])] w1) => accAlw1 w1 sb1 eb1 tb1 1 3 1 [.slice qb1 1 1] ⟨(hI.slOf (List.mem_of_getElem? (i := 10) rfl)), (hI.slOf (List.mem_of_getElem? (i := 11) rfl)), (hI.slOf (List.mem_of_getElem? (i := 12) rfl)), (RowsR.cons (⟨rfl, fun i r h9 => by simp at h9⟩ : RowsR w1 [] []) (b := qb1) (c := 1) (hI.slOf (List.mem_of_getElem? (i := 13) rfl)))⟩ (some ⟨bx7, 0, none⟩) (some ⟨bx8, 0, none⟩) 1 1 ⟨(hI.slOf (List.mem_of_getElem? (i := 1) rfl)), (hI.slOf (List.mem_of_getElem? (i := 0) rfl)), Nat.le_refl _, Nat.le_refl _⟩
  refine TO.loud rfl (l_call ent17 (CallT.of_pure hk30) rfl ?_)
  clear hk30
  rintro vr O' ⟨N, rfl, rfl, rfl⟩
  refine TO.quiet (q_move rfl) (TO.quiet (q_extract (vs := _) rfl rfl) (TO.quiet (q_extract (vs := _) rfl rfl) (TO.quiet (q_assign rfl) ?_)))
  refine TO.quiet (q_assign rfl) ?_
  refine TO.nil (T.seq (T.region ?_))
  refine TO.quiet (q_load_boxAgg 5 Try.underlying26 rfl inf26 rfl rfl rfl) ?_
  refine TO.loud rfl (l_buildSlice (m := 2) (parts := [(0, .const (.int .u8 0)), (1, .const (.int .u8 1))]) (cs := [.int .u8 0, .int .u8 1]) Try.underlying27 inf5 (by decide) (by kernel_rfl) rfl (fun bx9 => ?_))
  refine TO.quiet (q_build (cs := [(.slice none 0 0), (.slice (some ⟨bx9, 0, none⟩) 2 2)]) plan29 inf29 (by kernel_rfl)) ?_
  have hk37 := fun (w1 : World) (hI : Inv w [rowI (some ⟨bx9, 0, none⟩) 2 5 1 [.int .u8 0, .int .u8 1], rowI (some ⟨bx8, 0, none⟩) 1 5 1 [.int .u8 1], rowI (some ⟨bx7, 0, none⟩) 1 5 1 [.int .u8 0], rowI (some ⟨bx4, 0, none⟩) 1 22 1 [(.slice (some ⟨bx3, 0, none⟩) 1 1)], rowI (some ⟨bx3, 0, none⟩) 1 3 1 [.int .i64 0], oI bx2 26 [(.int .i64 1), (.int .i64 2), (.slice sb2 1 1), (.slice eb2 3 3), (.slice bx5 (1 + 1) c6)], oI bx1 26 [(.int .i64 1), (.int .i64 2), (.slice sb1 1 1), (.slice eb1 3 3), (.slice tb1 1 1)], rowI sb2 1 3 1 (ints alwB.start), rowI eb2 3 54 4 (edsC alwB.edges), rowI bx5 c6 22 1 ([(.slice qb2 1 1)] ++ [(.slice (some ⟨bx3, 0, none⟩) 1 1)]), rowI qb2 1 3 1 (ints [1]), rowI sb1 1 3 1 (ints alwB.start), rowI eb1 3 54 4 (edsC alwB.edges), rowI tb1 1 22 1 [(.slice qb1 1 1)], rowI qb1 1 3 1 (ints [1])] w1) => accAlw2 w1 sb1 eb1 tb1 1 3 1 [.slice qb1 1 1] ⟨(hI.slOf (List.mem_of_getElem? (i := 11) rfl)), (hI.slOf (List.mem_of_getElem? (i := 12) rfl)), (hI.slOf (List.mem_of_getElem? (i := 13) rfl)), (RowsR.cons (⟨rfl, fun i r h9 => by simp at h9⟩ : RowsR w1 [] []) (b := qb1) (c := 1) (hI.slOf (List.mem_of_getElem? (i := 14) rfl)))⟩ none (some ⟨bx9, 0, none⟩) 0 2 ⟨Sl.nil _ _, (hI.slOf (List.mem_of_getElem? (i := 0) rfl)), Nat.le_refl _, Nat.le_refl _⟩
  refine TO.loud rfl (l_call ent17 (CallT.of_pure hk37) rfl ?_)
  clear hk37
  rintro vr O' ⟨N, rfl, rfl, rfl⟩
  refine TO.quiet (q_move rfl) (TO.quiet (q_extract (vs := _) rfl rfl) (TO.quiet (q_extract (vs := _) rfl rfl) (TO.quiet (q_assign rfl) ?_)))
  refine TO.quiet (q_assign rfl) ?_
  refine TO.nil (T.seq (T.region ?_))
  refine TO.quiet (q_load_boxAgg 6 Try.underlying26 rfl inf26 rfl rfl rfl) ?_
  have hk42 := fun (w1 : World) (hI : Inv w [rowI (some ⟨bx9, 0, none⟩) 2 5 1 [.int .u8 0, .int .u8 1], rowI (some ⟨bx8, 0, none⟩) 1 5 1 [.int .u8 1], rowI (some ⟨bx7, 0, none⟩) 1 5 1 [.int .u8 0], rowI (some ⟨bx4, 0, none⟩) 1 22 1 [(.slice (some ⟨bx3, 0, none⟩) 1 1)], rowI (some ⟨bx3, 0, none⟩) 1 3 1 [.int .i64 0], oI bx2 26 [(.int .i64 1), (.int .i64 2), (.slice sb2 1 1), (.slice eb2 3 3), (.slice bx5 (1 + 1) c6)], oI bx1 26 [(.int .i64 1), (.int .i64 2), (.slice sb1 1 1), (.slice eb1 3 3), (.slice tb1 1 1)], rowI sb2 1 3 1 (ints alwB.start), rowI eb2 3 54 4 (edsC alwB.edges), rowI bx5 c6 22 1 ([(.slice qb2 1 1)] ++ [(.slice (some ⟨bx3, 0, none⟩) 1 1)]), rowI qb2 1 3 1 (ints [1]), rowI sb1 1 3 1 (ints alwB.start), rowI eb1 3 54 4 (edsC alwB.edges), rowI tb1 1 22 1 [(.slice qb1 1 1)], rowI qb1 1 3 1 (ints [1])] w1) => livAlw w1 sb1 eb1 tb1 1 3 1 [.slice qb1 1 1] ⟨(hI.slOf (List.mem_of_getElem? (i := 11) rfl)), (hI.slOf (List.mem_of_getElem? (i := 12) rfl)), (hI.slOf (List.mem_of_getElem? (i := 13) rfl)), (RowsR.cons (⟨rfl, fun i r h9 => by simp at h9⟩ : RowsR w1 [] []) (b := qb1) (c := 1) (hI.slOf (List.mem_of_getElem? (i := 14) rfl)))⟩
  refine TO.loud rfl (l_call ent19 (CallT.of_pure hk42) rfl ?_)
  clear hk42
  rintro vr O' ⟨N, rfl, lb, lc, rfl, rfl⟩
  refine TO.quiet (q_move rfl) (TO.quiet (q_extract (vs := _) rfl rfl) (TO.quiet (q_extract (vs := _) rfl rfl) (TO.quiet (q_assign rfl) ?_)))
  refine TO.quiet (q_assign rfl) ?_
  refine TO.nil (T.seq (T.region ?_))
  refine TO.quiet (q_load_boxAgg 7 Try.underlying26 rfl inf26 rfl rfl rfl) ?_
  have hk47 := fun (w1 : World) (hI : Inv w [rowI lb lc 4 1 (bools [true, true]), rowI (some ⟨bx9, 0, none⟩) 2 5 1 [.int .u8 0, .int .u8 1], rowI (some ⟨bx8, 0, none⟩) 1 5 1 [.int .u8 1], rowI (some ⟨bx7, 0, none⟩) 1 5 1 [.int .u8 0], rowI (some ⟨bx4, 0, none⟩) 1 22 1 [(.slice (some ⟨bx3, 0, none⟩) 1 1)], rowI (some ⟨bx3, 0, none⟩) 1 3 1 [.int .i64 0], oI bx2 26 [(.int .i64 1), (.int .i64 2), (.slice sb2 1 1), (.slice eb2 3 3), (.slice bx5 (1 + 1) c6)], oI bx1 26 [(.int .i64 1), (.int .i64 2), (.slice sb1 1 1), (.slice eb1 3 3), (.slice tb1 1 1)], rowI sb2 1 3 1 (ints alwB.start), rowI eb2 3 54 4 (edsC alwB.edges), rowI bx5 c6 22 1 ([(.slice qb2 1 1)] ++ [(.slice (some ⟨bx3, 0, none⟩) 1 1)]), rowI qb2 1 3 1 (ints [1]), rowI sb1 1 3 1 (ints alwB.start), rowI eb1 3 54 4 (edsC alwB.edges), rowI tb1 1 22 1 [(.slice qb1 1 1)], rowI qb1 1 3 1 (ints [1])] w1) => witAlw w1 sb1 eb1 tb1 1 3 1 [.slice qb1 1 1] ⟨(hI.slOf (List.mem_of_getElem? (i := 12) rfl)), (hI.slOf (List.mem_of_getElem? (i := 13) rfl)), (hI.slOf (List.mem_of_getElem? (i := 14) rfl)), (RowsR.cons (⟨rfl, fun i r h9 => by simp at h9⟩ : RowsR w1 [] []) (b := qb1) (c := 1) (hI.slOf (List.mem_of_getElem? (i := 15) rfl)))⟩
  refine TO.loud rfl (l_call ent27 (CallT.of_pure hk47) rfl ?_)
  clear hk47
  rintro vr O' ⟨N, rfl, c, wp, wl, wpc, wlc, rfl, rfl, hw⟩
  refine TO.quiet (q_move rfl) (TO.quiet (q_extract (vs := _) rfl rfl) (TO.quiet (q_extract (vs := _) rfl rfl) ?_))
  refine TO.loud rfl (l_alloc inf29 rfl (fun bx10 => ?_))
  refine TO.loud rfl (l_store_box (v := (.agg (laCells c wp wpc wl wlc).toArray)) (vs := (laCells c wp wpc wl wlc)) 0 inf29 rfl rfl rfl rfl rfl rfl (by simp [putL]) ?_)
  refine TO.quiet (q_assign rfl) ?_
  refine TO.nil (T.seq (T.region ?_))
  refine TO.quiet (q_load_boxAgg 9 Try.underlying26 rfl inf26 rfl rfl rfl) ?_
  have hk52 := fun (w1 : World) (hI : Inv w [oI bx10 29 (laCells c wp wpc wl wlc), rowI wp wpc 5 1 (byts c.pre), rowI wl wlc 5 1 (byts c.loop), rowI lb lc 4 1 (bools [true, true]), rowI (some ⟨bx9, 0, none⟩) 2 5 1 [.int .u8 0, .int .u8 1], rowI (some ⟨bx8, 0, none⟩) 1 5 1 [.int .u8 1], rowI (some ⟨bx7, 0, none⟩) 1 5 1 [.int .u8 0], rowI (some ⟨bx4, 0, none⟩) 1 22 1 [(.slice (some ⟨bx3, 0, none⟩) 1 1)], rowI (some ⟨bx3, 0, none⟩) 1 3 1 [.int .i64 0], oI bx2 26 [(.int .i64 1), (.int .i64 2), (.slice sb2 1 1), (.slice eb2 3 3), (.slice bx5 (1 + 1) c6)], oI bx1 26 [(.int .i64 1), (.int .i64 2), (.slice sb1 1 1), (.slice eb1 3 3), (.slice tb1 1 1)], rowI sb2 1 3 1 (ints alwB.start), rowI eb2 3 54 4 (edsC alwB.edges), rowI bx5 c6 22 1 ([(.slice qb2 1 1)] ++ [(.slice (some ⟨bx3, 0, none⟩) 1 1)]), rowI qb2 1 3 1 (ints [1]), rowI sb1 1 3 1 (ints alwB.start), rowI eb1 3 54 4 (edsC alwB.edges), rowI tb1 1 22 1 [(.slice qb1 1 1)], rowI qb1 1 3 1 (ints [1])] w1) => witAlwC w1 sb2 eb2 bx5 1 3 c6 [.slice qb2 1 1, .slice (some ⟨bx3, 0, none⟩) 1 1] ⟨(hI.slOf (List.mem_of_getElem? (i := 11) rfl)), (hI.slOf (List.mem_of_getElem? (i := 12) rfl)), (hI.slOf (List.mem_of_getElem? (i := 13) rfl)), (RowsR.cons (RowsR.cons (⟨rfl, fun i r h9 => by simp at h9⟩ : RowsR w1 [] []) (b := (some ⟨bx3, 0, none⟩)) (c := 1) (hI.slOf (List.mem_of_getElem? (i := 8) rfl))) (b := qb2) (c := 1) (hI.slOf (List.mem_of_getElem? (i := 14) rfl)))⟩
  refine TO.loud rfl (l_call ent27 (CallT.of_pure hk52) rfl ?_)
  clear hk52
  rintro vr O' ⟨N, rfl, xp, xl, xpc, xlc, rfl, rfl⟩
  refine TO.quiet (q_move rfl) (TO.quiet (q_extract (vs := _) rfl rfl) (TO.quiet (q_extract (vs := _) rfl rfl) ?_))
  refine TO.loud rfl (l_alloc inf29 rfl (fun bx11 => ?_))
  refine TO.loud rfl (l_store_box (v := (.agg #[(.slice xp 0 xpc), (.slice xl 0 xlc)])) (vs := [(.slice xp 0 xpc), (.slice xl 0 xlc)]) 0 inf29 rfl rfl rfl rfl rfl rfl (by simp [putL]) ?_)
  refine TO.quiet (q_assign rfl) ?_
  refine TO.nil (T.seq (T.region ?_))
  refine TO.quiet (q_load_boxAgg 12 Try.underlying26 rfl inf26 rfl rfl rfl) ?_
  have hk57 := fun (w1 : World) (hI : Inv w [oI bx11 29 [(.slice xp 0 xpc), (.slice xl 0 xlc)], rowI xp xpc 5 1 [], rowI xl xlc 5 1 [], oI bx10 29 (laCells c wp wpc wl wlc), rowI wp wpc 5 1 (byts c.pre), rowI wl wlc 5 1 (byts c.loop), rowI lb lc 4 1 (bools [true, true]), rowI (some ⟨bx9, 0, none⟩) 2 5 1 [.int .u8 0, .int .u8 1], rowI (some ⟨bx8, 0, none⟩) 1 5 1 [.int .u8 1], rowI (some ⟨bx7, 0, none⟩) 1 5 1 [.int .u8 0], rowI (some ⟨bx4, 0, none⟩) 1 22 1 [(.slice (some ⟨bx3, 0, none⟩) 1 1)], rowI (some ⟨bx3, 0, none⟩) 1 3 1 [.int .i64 0], oI bx2 26 [(.int .i64 1), (.int .i64 2), (.slice sb2 1 1), (.slice eb2 3 3), (.slice bx5 (1 + 1) c6)], oI bx1 26 [(.int .i64 1), (.int .i64 2), (.slice sb1 1 1), (.slice eb1 3 3), (.slice tb1 1 1)], rowI sb2 1 3 1 (ints alwB.start), rowI eb2 3 54 4 (edsC alwB.edges), rowI bx5 c6 22 1 ([(.slice qb2 1 1)] ++ [(.slice (some ⟨bx3, 0, none⟩) 1 1)]), rowI qb2 1 3 1 (ints [1]), rowI sb1 1 3 1 (ints alwB.start), rowI eb1 3 54 4 (edsC alwB.edges), rowI tb1 1 22 1 [(.slice qb1 1 1)], rowI qb1 1 3 1 (ints [1])] w1) => trmAlwC w1 sb2 eb2 bx5 1 3 c6 [.slice qb2 1 1, .slice (some ⟨bx3, 0, none⟩) 1 1] ⟨(hI.slOf (List.mem_of_getElem? (i := 14) rfl)), (hI.slOf (List.mem_of_getElem? (i := 15) rfl)), (hI.slOf (List.mem_of_getElem? (i := 16) rfl)), (RowsR.cons (RowsR.cons (⟨rfl, fun i r h9 => by simp at h9⟩ : RowsR w1 [] []) (b := (some ⟨bx3, 0, none⟩)) (c := 1) (hI.slOf (List.mem_of_getElem? (i := 11) rfl))) (b := qb2) (c := 1) (hI.slOf (List.mem_of_getElem? (i := 17) rfl)))⟩
  refine TO.loud rfl (l_call ent28 (CallT.of_pure hk57) rfl ?_)
  clear hk57
  rintro vr O' ⟨N, rfl, z0, s3, n1, c3, e3, n2, d3, t3, f3, rfl⟩
  refine TO.sub (O' := ([oI bx11 29 [(.slice xp 0 xpc), (.slice xl 0 xlc)], rowI xp xpc 5 1 [], rowI xl xlc 5 1 [], oI bx10 29 (laCells c wp wpc wl wlc), rowI wp wpc 5 1 (byts c.pre), rowI wl wlc 5 1 (byts c.loop), rowI lb lc 4 1 (bools [true, true]), rowI (some ⟨bx9, 0, none⟩) 2 5 1 [.int .u8 0, .int .u8 1], rowI (some ⟨bx8, 0, none⟩) 1 5 1 [.int .u8 1], rowI (some ⟨bx7, 0, none⟩) 1 5 1 [.int .u8 0], rowI (some ⟨bx4, 0, none⟩) 1 22 1 [(.slice (some ⟨bx3, 0, none⟩) 1 1)], rowI (some ⟨bx3, 0, none⟩) 1 3 1 [.int .i64 0], oI bx2 26 [(.int .i64 1), (.int .i64 2), (.slice sb2 1 1), (.slice eb2 3 3), (.slice bx5 (1 + 1) c6)], oI bx1 26 [(.int .i64 1), (.int .i64 2), (.slice sb1 1 1), (.slice eb1 3 3), (.slice tb1 1 1)], rowI sb2 1 3 1 (ints alwB.start), rowI eb2 3 54 4 (edsC alwB.edges), rowI bx5 c6 22 1 ([(.slice qb2 1 1)] ++ [(.slice (some ⟨bx3, 0, none⟩) 1 1)]), rowI qb2 1 3 1 (ints [1]), rowI sb1 1 3 1 (ints alwB.start), rowI eb1 3 54 4 (edsC alwB.edges), rowI tb1 1 22 1 [(.slice qb1 1 1)], rowI qb1 1 3 1 (ints [1])] ++ N)) (Sub.cnt [] (by intro a; simp only [itms, oI, List.set_cons_zero, List.set_cons_succ, putL, List.cons_append, List.nil_append, List.append_nil, List.append_assoc, List.map_append, List.map_cons, List.map_nil, cnt_append, cnt_cons, cnt_nil, buCells, laCells] <;> omega)) ?_
  refine TO.quiet (q_move rfl) (TO.quiet (q_extract (vs := _) rfl rfl) (TO.quiet (q_extract (vs := _) rfl rfl) ?_))
  refine TO.loud rfl (l_alloc inf26 rfl (fun bx12 => ?_))
  refine TO.loud rfl (l_store_box (v := (.agg #[(.int .i64 z0), (.int .i64 0), (.slice s3 n1 c3), (.slice e3 n2 d3), (.slice t3 2 f3)])) (vs := [(.int .i64 z0), (.int .i64 0), (.slice s3 n1 c3), (.slice e3 n2 d3), (.slice t3 2 f3)]) 0 inf26 rfl rfl rfl rfl rfl rfl (by simp [putL]) ?_)
  refine TO.quiet (q_assign rfl) ?_
  refine TO.nil (T.seq (T.region ?_))
  refine TO.quiet (q_load_boxAgg 14 Try.underlying26 rfl inf26 rfl rfl rfl) (TO.quiet (q_load_boxAgg 4 Try.underlying29 rfl inf29 rfl rfl rfl) ?_)
  have hk63 := fun (w1 : World) (hI : Inv w ([oI bx12 26 [(.int .i64 z0), (.int .i64 0), (.slice s3 n1 c3), (.slice e3 n2 d3), (.slice t3 2 f3)], oI bx11 29 [(.slice xp 0 xpc), (.slice xl 0 xlc)], rowI xp xpc 5 1 [], rowI xl xlc 5 1 [], oI bx10 29 (laCells c wp wpc wl wlc), rowI wp wpc 5 1 (byts c.pre), rowI wl wlc 5 1 (byts c.loop), rowI lb lc 4 1 (bools [true, true]), rowI (some ⟨bx9, 0, none⟩) 2 5 1 [.int .u8 0, .int .u8 1], rowI (some ⟨bx8, 0, none⟩) 1 5 1 [.int .u8 1], rowI (some ⟨bx7, 0, none⟩) 1 5 1 [.int .u8 0], rowI (some ⟨bx4, 0, none⟩) 1 22 1 [(.slice (some ⟨bx3, 0, none⟩) 1 1)], rowI (some ⟨bx3, 0, none⟩) 1 3 1 [.int .i64 0], oI bx2 26 [(.int .i64 1), (.int .i64 2), (.slice sb2 1 1), (.slice eb2 3 3), (.slice bx5 (1 + 1) c6)], oI bx1 26 [(.int .i64 1), (.int .i64 2), (.slice sb1 1 1), (.slice eb1 3 3), (.slice tb1 1 1)], rowI sb2 1 3 1 (ints alwB.start), rowI eb2 3 54 4 (edsC alwB.edges), rowI bx5 c6 22 1 ([(.slice qb2 1 1)] ++ [(.slice (some ⟨bx3, 0, none⟩) 1 1)]), rowI qb2 1 3 1 (ints [1]), rowI sb1 1 3 1 (ints alwB.start), rowI eb1 3 54 4 (edsC alwB.edges), rowI tb1 1 22 1 [(.slice qb1 1 1)], rowI qb1 1 3 1 (ints [1])] ++ N) w1) => accWit w1 sb1 eb1 tb1 1 3 1 [.slice qb1 1 1] ⟨(hI.slOf (List.mem_of_getElem? (i := 19) rfl)), (hI.slOf (List.mem_of_getElem? (i := 20) rfl)), (hI.slOf (List.mem_of_getElem? (i := 21) rfl)), (RowsR.cons (⟨rfl, fun i r h9 => by simp at h9⟩ : RowsR w1 [] []) (b := qb1) (c := 1) (hI.slOf (List.mem_of_getElem? (i := 22) rfl)))⟩ c hw wp wl wpc wlc ⟨(hI.slOf (List.mem_of_getElem? (i := 5) rfl)), (hI.slOf (List.mem_of_getElem? (i := 6) rfl)), by have h9 := rowP.cap (hI.row (i := 5) rfl); simpa using h9, by have h9 := rowP.cap (hI.row (i := 6) rfl); simpa using h9⟩
  refine TO.loud rfl (l_call ent17 (CallT.of_pure hk63) rfl ?_)
  clear hk63
  rintro vr O' ⟨N, rfl, rfl, rfl⟩
  refine TO.quiet (q_move rfl) (TO.quiet (q_extract (vs := _) rfl rfl) (TO.quiet (q_extract (vs := _) rfl rfl) (TO.quiet (q_assign rfl) ?_)))
  refine TO.quiet (q_assign rfl) ?_
  refine TO.nil (T.seq (T.region ?_))
  refine TO.quiet (q_move rfl) (TO.quiet (q_move rfl) ?_)
  refine TO.guarded rfl rfl rfl (LT.of_quiet rfl rfl (q_move rfl) ?_)
  refine TO.guarded rfl rfl rfl (LT.of_quiet rfl rfl (q_not rfl) ?_)
  refine TO.quiet (q_pick1 rfl rfl) (TO.quiet (q_move rfl) ?_)
  refine TO.guarded rfl rfl rfl (LT.of_quiet rfl rfl (q_move rfl) ?_)
  refine TO.guarded rfl rfl rfl (LT.of_quiet rfl rfl (q_eql rfl rfl) ?_)
  refine TO.quiet (q_pick1 rfl rfl) (TO.quiet (q_move rfl) ?_)
  refine TO.guarded rfl rfl rfl (LT.of_quiet rfl rfl (q_move rfl) ?_)
  refine TO.guarded rfl rfl rfl (LT.of_quiet rfl rfl (q_eql rfl rfl) ?_)
  refine TO.quiet (q_pick1 rfl rfl) (TO.quiet (q_move rfl) ?_)
  refine TO.guarded rfl rfl rfl (LT.of_quiet rfl rfl (q_move rfl) ?_)
  refine TO.guarded rfl rfl rfl (LT.of_quiet rfl rfl (q_eql rfl rfl) ?_)
  refine TO.quiet (q_pick1 rfl rfl) (TO.quiet (q_move rfl) ?_)
  refine TO.guarded rfl rfl rfl (LT.of_quiet rfl rfl (q_move rfl) ?_)
  refine TO.guarded rfl rfl rfl (l_buildSlice (m := 2) (parts := [(0, .const (.bool true)), (1, .const (.bool true))]) (cs := [.bool true, .bool true]) Try.underlying39 inf4 (by decide) (by kernel_rfl) rfl (fun bx13 => ?_))
  have hk86 := fun (w1 : World) (hI : Inv w ([rowI (some ⟨bx13, 0, none⟩) 2 4 1 [.bool true, .bool true], oI bx12 26 [(.int .i64 z0), (.int .i64 0), (.slice s3 n1 c3), (.slice e3 n2 d3), (.slice t3 2 f3)], oI bx11 29 [(.slice xp 0 xpc), (.slice xl 0 xlc)], rowI xp xpc 5 1 [], rowI xl xlc 5 1 [], oI bx10 29 (laCells c wp wpc wl wlc), rowI wp wpc 5 1 (byts c.pre), rowI wl wlc 5 1 (byts c.loop), rowI lb lc 4 1 (bools [true, true]), rowI (some ⟨bx9, 0, none⟩) 2 5 1 [.int .u8 0, .int .u8 1], rowI (some ⟨bx8, 0, none⟩) 1 5 1 [.int .u8 1], rowI (some ⟨bx7, 0, none⟩) 1 5 1 [.int .u8 0], rowI (some ⟨bx4, 0, none⟩) 1 22 1 [(.slice (some ⟨bx3, 0, none⟩) 1 1)], rowI (some ⟨bx3, 0, none⟩) 1 3 1 [.int .i64 0], oI bx2 26 [(.int .i64 1), (.int .i64 2), (.slice sb2 1 1), (.slice eb2 3 3), (.slice bx5 (1 + 1) c6)], oI bx1 26 [(.int .i64 1), (.int .i64 2), (.slice sb1 1 1), (.slice eb1 3 3), (.slice tb1 1 1)], rowI sb2 1 3 1 (ints alwB.start), rowI eb2 3 54 4 (edsC alwB.edges), rowI bx5 c6 22 1 ([(.slice qb2 1 1)] ++ [(.slice (some ⟨bx3, 0, none⟩) 1 1)]), rowI qb2 1 3 1 (ints [1]), rowI sb1 1 3 1 (ints alwB.start), rowI eb1 3 54 4 (edsC alwB.edges), rowI tb1 1 22 1 [(.slice qb1 1 1)], rowI qb1 1 3 1 (ints [1])] ++ N) w1) => equalBools w1 lb (some ⟨bx13, 0, none⟩) lc 2 [true, true] [true, true] (hI.slOf (List.mem_of_getElem? (i := 8) rfl)) (hI.slOf (List.mem_of_getElem? (i := 0) rfl)) (by decide)
  refine TO.guarded rfl rfl rfl (l_call ent23 (CallT.of_pure hk86) rfl ?_)
  clear hk86
  rintro vr O' ⟨N, rfl, rfl, rfl⟩
  refine TO.quiet (q_pick1 rfl rfl) (TO.quiet (q_move rfl) ?_)
  refine TO.guarded rfl rfl rfl (LT.of_quiet rfl rfl (q_move rfl) ?_)
  refine TO.guarded rfl rfl rfl (LT.of_quiet rfl rfl (q_eql rfl rfl) ?_)
  refine TO.quiet (q_pick1 rfl rfl) (TO.quiet (q_move rfl) ?_)
  refine TO.guarded rfl rfl rfl (LT.of_quiet rfl rfl (q_move rfl) ?_)
  refine TO.quiet (q_pick1 rfl rfl) (TO.quiet (q_move rfl) ?_)
  refine TO.guarded rfl rfl rfl (LT.of_quiet rfl rfl (q_move rfl) ?_)
  refine TO.guarded rfl rfl rfl (LT.of_quiet rfl rfl (q_eql rfl rfl) ?_)
  refine TO.quiet (q_pick1 rfl rfl) (TO.quiet (q_move rfl) ?_)
  refine TO.guarded rfl rfl rfl (LT.of_quiet rfl rfl (q_move rfl) ?_)
  refine TO.guarded rfl rfl rfl (LT.of_quiet rfl rfl (q_eql rfl rfl) ?_)
  refine TO.quiet (q_pick1 rfl rfl) (TO.quiet (q_move rfl) ?_)
  refine TO.guarded rfl rfl rfl (LT.of_quiet rfl rfl (q_move rfl) ?_)
  refine TO.guarded rfl rfl rfl (LT.of_quiet rfl rfl (q_eql rfl rfl) ?_)
  refine TO.quiet (q_pick1 rfl rfl) (TO.quiet (q_move rfl) ?_)
  refine TO.guarded rfl rfl rfl (LT.of_quiet rfl rfl (q_fieldAddr Try.underlying26 rfl inf3 rfl rfl) ?_)
  refine TO.guarded rfl rfl rfl (LT.of_quiet rfl rfl (q_load_box 1 Try.underlying3 rfl rfl rfl rfl) ?_)
  refine TO.guarded rfl rfl rfl (LT.of_quiet rfl rfl (q_eql rfl rfl) ?_)
  refine TO.quiet (q_pick1 rfl rfl) (TO.quiet (q_move rfl) ?_)
  refine TO.guarded rfl rfl rfl (LT.of_quiet rfl rfl (q_fieldAddr Try.underlying26 rfl inf24 rfl rfl) ?_)
  refine TO.guarded rfl rfl rfl (LT.of_quiet rfl rfl (q_load_box 1 Try.underlying24 rfl rfl rfl rfl) ?_)
  refine TO.guarded rfl rfl rfl (LT.of_quiet rfl rfl (q_len Try.underlying24 rfl) ?_)
  refine TO.guarded rfl rfl rfl (LT.of_quiet rfl rfl (q_eql rfl rfl) ?_)
  refine TO.quiet (q_pick1 rfl rfl) (TO.quiet (q_assign rfl) ?_)
  refine TO.nil (T.ret (Res.drop ?_))
  refine Res.one (.bool true) Try.results14 rfl ?_
  exact ⟨[], (Sub.pick0 [] [rowI (some ⟨bx13, 0, none⟩) 2 4 1 [.bool true, .bool true], oI bx12 26 [(.int .i64 z0), (.int .i64 0), (.slice s3 n1 c3), (.slice e3 n2 d3), (.slice t3 2 f3)], oI bx11 29 [(.slice xp 0 xpc), (.slice xl 0 xlc)], rowI xp xpc 5 1 [], rowI xl xlc 5 1 [], oI bx10 29 (laCells c wp wpc wl wlc), rowI wp wpc 5 1 (byts c.pre), rowI wl wlc 5 1 (byts c.loop), rowI lb lc 4 1 (bools [true, true]), rowI (some ⟨bx9, 0, none⟩) 2 5 1 [.int .u8 0, .int .u8 1], rowI (some ⟨bx8, 0, none⟩) 1 5 1 [.int .u8 1], rowI (some ⟨bx7, 0, none⟩) 1 5 1 [.int .u8 0], rowI (some ⟨bx4, 0, none⟩) 1 22 1 [(.slice (some ⟨bx3, 0, none⟩) 1 1)], rowI (some ⟨bx3, 0, none⟩) 1 3 1 [.int .i64 0], oI bx2 26 [(.int .i64 1), (.int .i64 2), (.slice sb2 1 1), (.slice eb2 3 3), (.slice bx5 (1 + 1) c6)], oI bx1 26 [(.int .i64 1), (.int .i64 2), (.slice sb1 1 1), (.slice eb1 3 3), (.slice tb1 1 1)], rowI sb2 1 3 1 (ints alwB.start), rowI eb2 3 54 4 (edsC alwB.edges), rowI bx5 c6 22 1 ([(.slice qb2 1 1)] ++ [(.slice (some ⟨bx3, 0, none⟩) 1 1)]), rowI qb2 1 3 1 (ints [1]), rowI sb1 1 3 1 (ints alwB.start), rowI eb1 3 54 4 (edsC alwB.edges), rowI tb1 1 22 1 [(.slice qb1 1 1)], rowI qb1 1 3 1 (ints [1])] N rfl rfl), rfl, rfl⟩
end Go.Proofs.Ytnamoapbienooaa


namespace Go.Lx
open Go.Lib
end Go.Lx


namespace Go.Lx
open Go.RowKit Go.Sort
set_option linter.unusedVariables false
set_option linter.unusedSimpArgs false
def tzTab : List Int := Lib.deBruijn64tab.map fun n : Nat => (n : Int)
class Tab (P : Program) (base : World) : Prop where
  tab : ∀ w, Below base.heap.size base w → Lib.TabIs P w "internal/strconv.uint64pow10" .u64 Lib.pow10Tab
  tz : P.globalNamed "math/bits.deBruijn64tab" = none ∨ ∀ w, Below base.heap.size base w → Lib.TabIs P w "math/bits.deBruijn64tab" .u8 tzTab
theorem Tab.of {P : Program} {w : World} (h : Lib.TabIs P w "internal/strconv.uint64pow10" .u64 Lib.pow10Tab) (h2 : P.globalNamed "math/bits.deBruijn64tab" = none ∨ Lib.TabIs P w "math/bits.deBruijn64tab" .u8 tzTab) : Tab P w := ⟨fun w' hb => Lib.tabBelow_of_tabIs h w' hb, h2.imp id fun h w' hb => Lib.tabBelow_of_tabIs h w' hb⟩
theorem Tab.is {P : Program} {w : World} (h : Tab P w) : Lib.TabIs P w "internal/strconv.uint64pow10" .u64 Lib.pow10Tab := h.tab w (Below.refl _ _)
theorem Inv.tab {P : Program} {base : World} {O : List Item} {w : World} (hI : Inv base O w) [t : Tab P base] : Tab P w := .of (t.tab w hI.below) (t.tz.imp id fun h => h w hI.below)
theorem Inv.grow {base : World} {O : List Item} {w : World} (h : Inv base O w) (k : Nat) (os : Array Obj) : Inv base O (Go.Sort.grow (w.drewN k) os) := by
  refine Inv.new (N := []) h rfl rfl rfl ?_ ?_ (by simp) (by simp) (by simp)
  · show w.heap.size ≤ (w.heap ++ os).size
    simp
  · intro b hb
    show (w.heap ++ os)[b]? = w.heap[b]?
    rw [Array.getElem?_append_left hb]
theorem CallT.drop {P : Program} {base : World} {f : FuncId} {args : List Value} {O : List Item} {R R' : Value → List Item → Prop} (h : CallT P base f args O R) (hr : ∀ v O', R v O' → ∃ O'', Sub O'' O' ∧ R' v O'') : CallT P base f args O R' :=
  fun w M hI => (h w M hI).mono fun _ _ ⟨v, O', h1, h2, h3⟩ => let ⟨O'', hs, h4⟩ := hr v O' h3; ⟨v, O'', h1, h2.subp hs.app, h4⟩
section
variable {P : Program} {r : Option Nat} {base : World} {n : Nat} {ρ : Env} {O : List Item} {dst : Option Nat} {d : Nat} {t : TypeId} {p : String} {af : Array Edge} {g : Option (Nat × Bool)} {K : Env → List Item → Prop}
end
end Go.Lx


namespace Go.Lx
open Go.RowKit Go.ChangeShapes Go.WideShapes Go.Deep
set_option linter.unusedVariables false
section
variable {H : Type} {enc : TypeId × Value → H} {P : Program}
theorem TrodAll_stays (hl : laidOutB P = true) {W W' : World} {sp' : Nat → Bool} : ∀ {ts : List TypeId} {vs : List Value} {ds : List (DataW H)} {ps : List MemPlace},
    (∀ t ∈ ts, P.readableRec t = true ∧ t < P.types.size) → DataW.TrodAll enc P W 0 (fun _ => true) true ts vs ds ps → (∀ p ∈ ps, W.sameAt W' p) → (∀ p ∈ ps, sp' p.block = true) → DataW.TrodAll enc P W' 0 sp' true ts vs ds ps
  | [], _, _, _, _, h, _, _ => by
    obtain ⟨rfl, rfl, rfl⟩ := trodAll_nil h
    rfl
  | t :: ts, _, _, _, hr, h, hs, hsp => by
    obtain ⟨v, vs1, d, ds1, p, q, rfl, rfl, rfl, h1, h2⟩ := trodAll_cons h
    have ht := hr t (by simp)
    exact ⟨p, q, WideElems.Trod_stays hl ht.1 ht.2 h1 (fun x hx => hs x (List.mem_append_left _ hx)) (fun x hx => hsp x (List.mem_append_left _ hx)),
      TrodAll_stays hl (fun t ht => hr t (by simp [ht])) h2 (fun x hx => hs x (List.mem_append_right _ hx)) (fun x hx => hsp x (List.mem_append_right _ hx)), rfl⟩
theorem post_law {f : Func} {s : ChangeSpec} {W W' : World} {args : Array Value} {ds gs : List (DataW H)} {before : List MemPlace} {tb : TypeId}
    (hl : laidOutB P = true) (hr : ∀ t ∈ f.params.toList, P.readableRec t = true ∧ t < P.types.size) (hres : f.resultTypes = #[tb]) (hb : P.underlying tb = some .bool) (hv : s.vars = [])
    (hW : DataW.Whole enc P f.params.toList s.vars false W args.toList ds gs before)
    (h1 : (s.fn H ds).results = [.lit (.bool true)]) (h2 : (s.fn H ds).args = ds) (h3 : (s.fn H ds).vars = [])
    (hB : Below W.heap.size W W') : s.post enc P f false true false false W args (.bool true) W' := by
  have hW0 := hW
  obtain ⟨p, q, hA, hV, rfl, hz, hn⟩ := hW
  rw [hv] at hV
  obtain ⟨rfl, rfl⟩ := trodVars_none hV
  simp only [List.append_nil] at hW0 hz hn
  have hlt := hW0.lt
  have hsame : ∀ x ∈ p, W.sameAt W' x := fun x hx => hB.same (hlt x hx)
  have hargs : ∀ sp : Nat → Bool, (∀ x ∈ p, sp x.block = true) → DataW.TrodAll enc P W' 0 sp true f.params.toList args.toList (s.fn H (ds ++ [])).args p := fun sp hsp => by
    rw [List.append_nil, h2]
    exact TrodAll_stays hl hr hA hsame hsp
  have hvars : ∀ sp : Nat → Bool, DataW.TrodVars enc P W' sp s.vars (s.fn H (ds ++ [])).vars [] := fun sp => by
    rw [List.append_nil, hv, h3]; rfl
  have hresult : ∀ (b : Nat) (sp : Nat → Bool) (hd : Bool), DataW.TrodAll enc P W' b sp hd f.resultTypes.toList ((Value.bool true).resultList f.resultTypes.size) (s.fn H (ds ++ [])).results [] := fun b sp hd => by
    rw [List.append_nil, h1, hres]
    exact trodAll_cons_mk (shut_bool hb _) trodAll_mk0
  have hold : ∀ x ∈ p, (fun b => decide (b < W.heap.size)) x.block = true := fun x hx => by simpa using hlt x hx
  refine ⟨ds, [], p, [], p, [], hW0, hresult _ _ _, hargs _ hold, hvars _, World.keptBut_mono (fun x hx => ⟨hx, ?_⟩) (hB.frame _), fun _ => ?_⟩
  · exact Or.inr (by simpa using hx)
  · refine ⟨ok_one hres rfl (okWide_bool_mk hb _), _, _, ([] ++ p) ++ [], ⟨[] ++ p, [], trodAll_append (hargs _ (fun _ _ => rfl)) (hresult _ _ _), hvars _, rfl, ?_, ?_⟩, ?_⟩
    · intro b off hx
      have hx' : MemPlace.cell b off ∈ p := by simpa using hx
      rw [hB.frozen (p := ⟨b, off, none⟩) (hlt _ hx')]
      exact hz b off hx'
    · intro ha; cases ha
    · intro x hx _
      simpa using hx
end
end Go.Lx


namespace Go.Lx
open Go.RowKit Go.ChangeShapes Go.WideShapes Go.Deep
set_option linter.unusedVariables false
section
variable {H : Type} {enc : TypeId × Value → H} {P : Program}
end
end Go.Lx


namespace Go.Proofs.Ytnamoapbienooaa
open Go.ChangeShapes Go.WideShapes Go.ChangeAt Go.RowKit Go.Lx
set_option maxRecDepth 100000
theorem own : ownKnob Try.prog.godebug = none := by kernel_rfl
theorem laidOut : laidOutB Try.prog = true := by kernel_rfl
noncomputable def laidWorld (os : Os) : World := World.holding Try.prog os ⟨#[], #[], []⟩
end Go.Proofs.Ytnamoapbienooaa

