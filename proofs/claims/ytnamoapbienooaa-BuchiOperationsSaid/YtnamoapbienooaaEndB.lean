/- Contracts of functions of the program (BTrc, BTrm, BAcc, AwB, BAlw, BAwk, BLw0, Close, CloseB, EndB): what each call answers and that it leaves memory as it was. Conditions: those each theorem names. -/
import Derived.Test.YtnamoapbienooaaTrm
import Derived.Test.YtnamoapbienooaaPth
import Derived.Test.YtnamoapbienooaaBComp
import Derived.OpenShut
import Derived.Deep.DeepHandedRow
import Derived.Deep.Matrix
import Derived.Deep.Grids
import Derived.WideKeyArgs
import Derived.SizedLaws
import Derived.Test.YtnamoapbienooaaCoreK
import Derived.Deep.Slices
import Derived.Test.YtnamoapbienooaaBDel
import Derived.Test.YtnamoapbienooaaRows
import Derived.WalkKit
import Derived.ProofKit
import Derived.Lib.LaidTab
set_option linter.unusedSectionVars false
set_option linter.unusedSimpArgs false
set_option linter.unusedVariables false
set_option linter.unnecessarySimpa false
namespace Go.Proofs.Ytnamoapbienooaa
open Go.Lx Go.RowKit
set_option linter.unusedVariables false
set_option linter.unusedSimpArgs false
set_option maxHeartbeats 1000000 in
set_option maxRecDepth 20000 in
theorem trimVisit (base : World) (b4 b5 b6 : Nat) (lb kb tb : Option Addr) (lc lq kc kq tc : Nat) (ls ks : List Bool) (todo : List Nat) (s : Nat) (hs : s < ls.length) (hs2 : s < ks.length) (hb : todo.length ≤ 1000000) :
    CallT Try.prog base 77 [.int .i64 (s : Int), .pointer (some ⟨b4, 0, none⟩), .pointer (some ⟨b5, 0, none⟩), .pointer (some ⟨b6, 0, none⟩)] [oI b4 39 [(.slice lb ls.length lc)], rowI lb lq 4 1 (bools ls), oI b5 39 [(.slice kb ks.length kc)], rowI kb kq 4 1 (bools ks), oI b6 22 [(.slice tb todo.length tc)], rowI tb tc 3 1 (nats todo)] (fun _ O' => ∃ tb' tc', O' = [oI b4 39 [(.slice lb ls.length lc)], rowI lb lq 4 1 (bools ls), oI b5 39 [(.slice kb ks.length kc)], rowI kb kq 4 1 (bools (visK (fun v => ls.getD v false) ks s)), oI b6 22 [(.slice tb' ((visT (fun v => ls.getD v false) ks todo s).length) tc')], rowI tb' tc' 3 1 (nats (visT (fun v => ls.getD v false) ks todo s))]) := by
  refine CallT.enter Try.func77 rfl Try.ntmps77 rfl ?_
  refine T.seq (T.region ?_)
  refine TO.quiet (q_load_box 0 Try.underlying39 rfl rfl rfl rfl) (TO.quiet (q_move rfl) (TO.quiet (q_ix (i := s) Try.underlying39 inf4 rfl rfl (rowO (List.mem_of_getElem? (i := 1) rfl))) (TO.quiet (q_ld Try.underlying4 rfl rfl (rowO (List.mem_of_getElem? (i := 1) rfl)) bools_get) ?_)))
  by_cases hs9 : ls[s] = true
  · refine TO.quiet (QT.toB (q_move rfl) (hs9)) ?_
    refine TO.guarded rfl rfl rfl (LT.of_quiet rfl rfl (q_load_box 2 Try.underlying39 rfl rfl rfl rfl) ?_)
    refine TO.guarded rfl rfl rfl (LT.of_quiet rfl rfl (q_move rfl) ?_)
    refine TO.guarded rfl rfl rfl (LT.of_quiet rfl rfl (q_ix (i := s) Try.underlying39 inf4 rfl rfl (rowO (List.mem_of_getElem? (i := 3) rfl))) ?_)
    refine TO.guarded rfl rfl rfl (LT.of_quiet rfl rfl (q_ld Try.underlying4 rfl rfl (rowO (List.mem_of_getElem? (i := 3) rfl)) bools_get) ?_)
    refine TO.guarded rfl rfl rfl (LT.of_quiet rfl rfl (q_not rfl) ?_)
    refine TO.quiet (q_pick1 rfl rfl) ?_
    refine TO.nil ?_
    refine T.cond rfl (fun hc => ?_) (fun hc => ?_)
    · refine T.seq ?_
      refine T.region ?_
      refine TO.quiet (q_load_box 2 Try.underlying39 rfl rfl rfl rfl) (TO.quiet (q_move rfl) (TO.quiet (q_ix (i := s) Try.underlying39 inf4 rfl rfl (rowO (List.mem_of_getElem? (i := 3) rfl))) ?_))
      refine TO.loud rfl (l_st (j := s) (v := .bool true) (vs := [(.bool true)]) (cs := bools ks) 3 inf4 rfl rfl rfl rfl rfl (by simp) rfl (by first | (simp; omega) | (simp_all; omega)) ?_)
      refine TO.sub (O' := [oI b4 39 [(.slice lb ls.length lc)], rowI lb lq 4 1 (bools ls), oI b5 39 [(.slice kb ks.length kc)], rowI kb kq 4 1 (bools (ks.set s true)), oI b6 22 [(.slice tb todo.length tc)], rowI tb tc 3 1 (nats todo)]) (by rw [show putL (bools ks) s [(.bool true)] = bools (ks.set s true) from (by simp [putL])]; exact Sub.of (List.Sublist.refl _)) ?_
      refine TO.nil (T.region ?_)
      refine TO.quiet (q_load_box 4 Try.underlying22 rfl rfl rfl rfl) (TO.quiet (q_move rfl) ?_)
      refine TO.loud rfl (l_build1 (v := .int .i64 (s : Int)) Try.underlying22 inf3 rfl rfl rfl (fun bx1 => ?_))
      refine TO.loud rfl (l_append 6 Try.underlying22 Try.underlying22 inf3 rfl rfl rfl rfl (by simp) (by decide) (Src.row (j := 0) rfl (by simp)) (by simp [oneB]) (by omega) (by decide) (by decide) (fun bx2 c3 => ?_))
      refine TO.loud rfl (l_store_box (v := (.slice bx2 (todo.length + 1) c3)) (vs := [(.slice bx2 (todo.length + 1) c3)]) 5 inf22 rfl rfl rfl rfl rfl rfl (by simp [putL]) ?_)
      refine TO.nil (Res.drop ?_)
      refine Res.zero Try.results77 ?_
      have hvis := vis_hit (al := fun v => ls.getD v false) (keep := ks) (todo := todo) (v := s) (by rw [gb hs]; assumption) (by rw [gb hs2]; simp_all)
      rw [hvis.1, hvis.2]
      exact ⟨[oI b4 39 [(.slice lb ls.length lc)], rowI lb lq 4 1 (bools ls), oI b5 39 [(.slice kb ks.length kc)], rowI kb kq 4 1 (bools (ks.set s true)), oI b6 22 [(.slice bx2 (todo.length + 1) c3)], rowI bx2 c3 3 1 ((nats todo) ++ [.int .i64 (s : Int)])], (Sub.pick [1, 1, 1, 1, 1, 1] rfl), bx2, c3, by rw [List.length_append, show nats (todo ++ [s]) = nats todo ++ [.int .i64 (s : Int)] from List.map_append]; rfl⟩
    refine T.skip (Res.drop ?_)
    refine Res.zero Try.results77 ?_
    have hvis := vis_miss (al := fun v => ls.getD v false) (keep := ks) (todo := todo) (v := s) (by rw [gb hs, gb hs2]; simp_all)
    rw [hvis.1, hvis.2]
    exact ⟨[oI b4 39 [(.slice lb ls.length lc)], rowI lb lq 4 1 (bools ls), oI b5 39 [(.slice kb ks.length kc)], rowI kb kq 4 1 (bools ks), oI b6 22 [(.slice tb todo.length tc)], rowI tb tc 3 1 (nats todo)], (Sub.pick [0, 0, 0, 0, 0, 0] rfl), tb, tc, rfl⟩
  refine TO.quiet (QT.toB (q_move rfl) (Bool.eq_false_iff.2 hs9)) ?_
  refine TO.passed rfl rfl ?_
  refine TO.passed rfl rfl ?_
  refine TO.passed rfl rfl ?_
  refine TO.passed rfl rfl ?_
  refine TO.passed rfl rfl ?_
  refine TO.quiet (q_pick0 rfl rfl) ?_
  refine TO.nil ?_
  refine T.cond0 rfl ?_
  refine T.skip (Res.drop ?_)
  refine Res.zero Try.results77 ?_
  have hvis := vis_miss (al := fun v => ls.getD v false) (keep := ks) (todo := todo) (v := s) (by rw [gb hs, gb hs2]; simp_all)
  rw [hvis.1, hvis.2]
  exact ⟨[oI b4 39 [(.slice lb ls.length lc)], rowI lb lq 4 1 (bools ls), oI b5 39 [(.slice kb ks.length kc)], rowI kb kq 4 1 (bools ks), oI b6 22 [(.slice tb todo.length tc)], rowI tb tc 3 1 (nats todo)], (Sub.pick [0, 0, 0, 0, 0, 0] rfl), tb, tc, rfl⟩
set_option maxHeartbeats 1000000 in
set_option maxRecDepth 20000 in
theorem trimRename (base : World) (b5 b14 : Nat) (kb nb lb : Option Addr) (kc kq nc nq lc : Nat) (ks : List Bool) (ns : List Nat) (l : List Int) (hN : NumP ks ks.length ns) (hL : Sl base lb (ints l)) (hl : ∀ x ∈ l, 0 ≤ x ∧ x.toNat < ks.length) (hb : l.length ≤ 1000000) :
    CallT Try.prog base 78 [.slice lb l.length lc, .pointer (some ⟨b5, 0, none⟩), .pointer (some ⟨b14, 0, none⟩)] [oI b5 39 [(.slice kb ks.length kc)], rowI kb kq 4 1 (bools ks), oI b14 22 [(.slice nb ns.length nc)], rowI nb nq 3 1 (nats ns)] (fun v O' => ∃ rb rc, v = .slice rb (renK ks l).length rc ∧ O' = [rowI rb rc 3 1 (ints (renK ks l)), oI b5 39 [(.slice kb ks.length kc)], rowI kb kq 4 1 (bools ks), oI b14 22 [(.slice nb ns.length nc)], rowI nb nq 3 1 (nats ns)]) := by
  refine CallT.enter Try.func78 rfl Try.ntmps78 rfl ?_
  refine T.seq (T.region ?_)
  refine TO.quiet (q_assign rfl) ?_
  refine TO.nil (T.seq (T.seq (T.region ?_)))
  refine TO.quiet (q_move rfl) (TO.quiet (q_len Try.underlying22 rfl) (TO.quiet (q_move rfl) ?_))
  refine TO.nil (T.block ?_)
  refine T.nilRow 3 1 ?_
  refine T.loopS (fun (k : Nat) ρ O => ∃ (rb : Option Addr) (rc : Nat), O = [rowI rb rc 3 1 (ints (renK ks (l.take k))), oI b5 39 [(.slice kb ks.length kc)], rowI kb kq 4 1 (bools ks), oI b14 22 [(.slice nb ns.length nc)], rowI nb nq 3 1 (nats ns)] ∧ k ≤ l.length ∧ Heads [(0, (.slice lb l.length lc)), (1, (.pointer (some ⟨b5, 0, none⟩))), (2, (.pointer (some ⟨b14, 0, none⟩))), (4, (.slice rb ((renK ks (l.take k)).length) rc)), (7, (.slice lb l.length lc)), (8, .int .i64 (l.length : Int)), (9, .int .i64 (k : Int))] ρ) (fun k => l.length - k) 0 ?_ ?_
  · exact ⟨none, 0, rfl, Nat.zero_le _, ⟨rfl, rfl, rfl, rfl, rfl, rfl, rfl, trivial⟩⟩
  rintro k ρ O ⟨rb, rc, rfl, hk, hH⟩
  obtain ⟨ρ0, rfl⟩ := hH.elim
  clear hH
  refine T.seq (T.region ?_)
  refine TO.quiet (q_lss rfl rfl) ?_
  refine TO.nil (T.seq ?_)
  refine T.condP rfl (fun hc => ?_) (fun hc => ?_)
  · have hlt10 : k < l.length := by omega
    obtain ⟨s, hsx, hsn⟩ : ∃ s : Nat, l[k] = (s : Int) ∧ s < ks.length := by
      have := hl _ (List.getElem_mem hlt10)
      exact ⟨l[k].toNat, by omega, by omega⟩
    have hsn2 : s < ns.length := by rw [hN.l]; exact hsn
    have hrl := renK_lenT ks l k
    refine T.skip (T.seq (T.block (T.seq (T.region ?_))))
    refine TO.quiet (q_ix (i := k) Try.underlying22 inf3 rfl rfl (fun w hI => hI.sl hL)) (TO.quiet (q_ld Try.underlying3 rfl rfl (fun w hI => hI.sl hL) (show (ints l)[k]? = _ by rw [ints_get hlt10, hsx])) (TO.quiet (q_assign rfl) ?_))
    refine TO.nil (T.seq (T.region ?_))
    refine TO.quiet (q_load_box 1 Try.underlying39 rfl rfl rfl rfl) (TO.quiet (q_move rfl) (TO.quiet (q_ix (i := s) Try.underlying39 inf4 rfl rfl (rowO (List.mem_of_getElem? (i := 2) rfl))) (TO.quiet (q_ld Try.underlying4 rfl rfl (rowO (List.mem_of_getElem? (i := 2) rfl)) bools_get) ?_)))
    refine TO.nil ?_
    refine T.cond rfl (fun hc => ?_) (fun hc => ?_)
    · refine T.region ?_
      refine TO.quiet (q_move rfl) (TO.quiet (q_load_box 3 Try.underlying22 rfl rfl rfl rfl) (TO.quiet (q_move rfl) (TO.quiet (q_ix (i := s) Try.underlying22 inf3 rfl rfl (rowO (List.mem_of_getElem? (i := 4) rfl))) ?_)))
      refine TO.quiet (q_ld Try.underlying3 rfl rfl (rowO (List.mem_of_getElem? (i := 4) rfl)) (show (nats ns)[s]? = some (.int .i64 ((cntK ks s : Nat) : Int)) by rw [nats_get hsn2, hN.get hsn2 (by rw [gb hsn]; assumption)])) ?_
      refine TO.loud rfl (l_build1 (v := .int .i64 ((cntK ks s : Nat) : Int)) Try.underlying22 inf3 rfl rfl rfl (fun bx1 => ?_))
      refine TO.loud rfl (l_append 1 Try.underlying22 Try.underlying22 inf3 rfl rfl rfl rfl (by simp) (by decide) (Src.row (j := 0) rfl (by simp)) (by simp [oneB]) (by omega) (by decide) (by decide) (fun bx2 c3 => ?_))
      refine TO.quiet (q_assign rfl) ?_
      refine TO.nil (T.region ?_)
      refine TO.quiet (q_addN (a := k) (b := 1) rfl rfl (by omega)) (TO.quiet (q_move rfl) ?_)
      refine TO.nil ?_
      refine ⟨k + 1, by omega, [rowI bx2 c3 3 1 ((ints (renK ks (l.take k))) ++ [.int .i64 ((cntK ks s : Nat) : Int)]), oI b5 39 [(.slice kb ks.length kc)], rowI kb kq 4 1 (bools ks), oI b14 22 [(.slice nb ns.length nc)], rowI nb nq 3 1 (nats ns)], (Sub.pick [1, 1, 1, 1, 1] rfl), bx2, c3, ?_, by omega, ⟨rfl, rfl, rfl, (by rw [renK_yes hlt10 hsx (by rw [gb hsn]; assumption), List.length_append]; rfl), rfl, rfl, rfl, trivial⟩⟩
      rw [renK_yes hlt10 hsx (by rw [gb hsn]; assumption), show ints (renK ks (l.take k) ++ [((cntK ks s : Nat) : Int)]) = ints (renK ks (l.take k)) ++ [.int .i64 ((cntK ks s : Nat) : Int)] from List.map_append]
    refine T.skip (T.region ?_)
    refine TO.quiet (q_addN (a := k) (b := 1) rfl rfl (by omega)) (TO.quiet (q_move rfl) ?_)
    refine TO.nil ?_
    refine ⟨k + 1, by omega, [rowI rb rc 3 1 (ints (renK ks (l.take k))), oI b5 39 [(.slice kb ks.length kc)], rowI kb kq 4 1 (bools ks), oI b14 22 [(.slice nb ns.length nc)], rowI nb nq 3 1 (nats ns)], (Sub.pick [0, 0, 0, 0, 0] rfl), rb, rc, ?_, by omega, ⟨rfl, rfl, rfl, (by rw [renK_no hlt10 hsx (by rw [gb hsn]; simp_all)]; rfl), rfl, rfl, rfl, trivial⟩⟩
    rw [renK_no hlt10 hsx (by rw [gb hsn]; simp_all)]
  have hge10 : ¬ k < l.length := by omega
  refine T.exit ?_
  refine T.seq (T.region ?_)
  refine TO.quiet (q_move rfl) (TO.quiet (q_assign rfl) ?_)
  refine TO.nil (T.ret (Res.drop ?_))
  refine Res.one (.slice rb ((renK ks (l.take k)).length) rc) Try.results78 rfl ?_
  have hkt : l.take k = l := List.take_of_length_le (by omega)
  rw [hkt]
  exact ⟨[rowI rb rc 3 1 (ints (renK ks l)), oI b5 39 [(.slice kb ks.length kc)], rowI kb kq 4 1 (bools ks), oI b14 22 [(.slice nb ns.length nc)], rowI nb nq 3 1 (nats ns)], (Sub.pick [0, 0, 0, 0, 0] rfl), rb, rc, rfl, rfl⟩
end Go.Proofs.Ytnamoapbienooaa


namespace Go.Proofs.Ytnamoapbienooaa
open Go.Lx Go.RowKit
set_option linter.unusedVariables false
set_option linter.unusedSimpArgs false
theorem nums_at {qs : List Rec} {u : Nat} (h : u < qs.length) : (nums qs)[u]'(by simpa [nums] using h) = qs[u].xs := by simp [nums]
set_option maxHeartbeats 4000000 in
set_option maxRecDepth 20000 in
theorem trimF (w : World) (b : Bu) (sb eb tb : Option Addr) (sc ec tc : Nat) (vs : List Value) (h : BuAt w b sb eb tb vs) (hB : BuB b) :
    PureT Try.prog 28 [.agg (buCells b sb sc eb ec tb tc).toArray] w fun v N => ∃ sb2 eb2 tb2 sc2 ec2 tc2 qs, v = .tuple #[.agg (buCells (trimB b) sb2 sc2 eb2 ec2 tb2 tc2).toArray, .int .i64 (checkB b : Int)] ∧ N = [rowI sb2 sc2 3 1 (ints (trimB b).start), rowI eb2 ec2 54 4 (edsC (trimB b).edges), rowI tb2 tc2 22 1 (vals qs)] ++ itms 3 qs ∧ nums qs = (trimB b).sets := by
  refine CallT.enter Try.func28 rfl Try.ntmps28 rfl ?_
  have hst := hB.st; have hed := hB.ed; have hse := hB.se
  refine T.seq (T.region ?_)
  refine TO.loud rfl (l_box (v := (.agg (buCells b sb sc eb ec tb tc).toArray)) (cs := (buCells b sb sc eb ec tb tc)) rfl rfl (fun bx1 => ?_))
  refine TO.loud rfl (l_alloc inf26 rfl (fun bx2 => ?_))
  refine TO.quiet (q_assign rfl) ?_
  refine TO.nil (T.seq (T.region ?_))
  refine TO.quiet (q_load_boxAgg 1 Try.underlying26 rfl inf26 rfl rfl rfl) ?_
  have hk23 := fun (w1 : World) (hI : Inv w [oI bx2 26 [(.int .i64 0), (.int .i64 0), (.slice none 0 0), (.slice none 0 0), (.slice none 0 0)], oI bx1 26 (buCells b sb sc eb ec tb tc)] w1) => livesF w1 b sb eb tb sc ec tc vs (hI.bu h) hB
  refine TO.loud rfl (l_call ent19 (CallT.of_pure hk23) rfl ?_)
  clear hk23
  rintro vr O' ⟨N, rfl, lb, lc, rfl, rfl⟩
  refine TO.quiet (q_move rfl) (TO.quiet (q_extract (vs := _) rfl rfl) (TO.quiet (q_extract (vs := _) rfl rfl) ?_))
  refine TO.loud rfl (l_alloc inf39 rfl (fun bx3 => ?_))
  refine TO.loud rfl (l_store_box (v := (.slice lb ((livesB b).length) lc)) (vs := [(.slice lb ((livesB b).length) lc)]) 0 inf39 rfl rfl rfl rfl rfl rfl (by simp [putL]) ?_)
  refine TO.quiet (q_assign rfl) ?_
  refine TO.nil (T.seq (T.seq (T.region ?_)))
  refine TO.quiet (q_move rfl) (TO.quiet (q_neq rfl rfl) ?_)
  refine TO.nil ?_
  refine T.condP rfl (fun hc => ?_) (fun hc => ?_)
  · have hlt27 : checkB b ≠ 0 := by omega
    refine T.seq ?_
    refine T.nilRow 22 1 ?_
    refine T.nilRow 54 4 ?_
    refine T.nilRow 3 1 ?_
    refine T.region ?_
    refine TO.quiet (q_load_boxAgg 5 Try.underlying26 rfl inf26 rfl rfl rfl) (TO.quiet (q_move rfl) ?_)
    refine TO.loud rfl (l_store_box (v := (.agg #[(.int .i64 0), (.int .i64 0), (.slice none 0 0), (.slice none 0 0), (.slice none 0 0)])) (vs := [(.int .i64 0), (.int .i64 0), (.slice none 0 0), (.slice none 0 0), (.slice none 0 0)]) 5 inf26 rfl rfl rfl rfl rfl rfl (by simp [putL]) ?_)
    refine TO.quiet (q_assign rfl) ?_
    refine TO.nil (T.ret (Res.drop ?_))
    refine Res.cell1b (.int .i64 (checkB b : Int)) (i := 5) Try.results28 Try.underlying26 rfl inf26 rfl rfl rfl rfl ?_
    have htr : trimB b = zeroBu := by unfold trimB; rw [if_neg (by omega)]
    refine ⟨[rowI none 0 3 1 [], rowI none 0 54 4 [], rowI none 0 22 1 []] ++ itms 3 [], ?_, none, none, none, 0, 0, 0, [], ?_, ?_, ?_⟩
    · exact Sub.cnt [oI bx3 39 [(.slice lb ((livesB b).length) lc)], rowI lb lc 4 1 (bools (livesB b)), oI bx2 26 [(.int .i64 0), (.int .i64 0), (.slice none 0 0), (.slice none 0 0), (.slice none 0 0)], oI bx1 26 (buCells b sb sc eb ec tb tc)] (by intro a; simp only [itms, oI, List.set_cons_zero, List.set_cons_succ, putL, List.cons_append, List.nil_append, List.append_nil, List.append_assoc, List.map_append, List.map_cons, List.map_nil, cnt_append, cnt_cons, cnt_nil, buCells, laCells] <;> omega)
    · rw [htr]; rfl
    · rw [htr]; rfl
    · rw [htr]; rfl
  have hge27 : ¬ checkB b ≠ 0 := by omega
  refine T.skip (T.seq ?_)
  have he : checkB b = 0 := by omega
  have hv : ValidB b := checkB_zero.1 he
  have hv0 := hv.n0; have hv4 := hv.n4; have hm8 := hv.m8
  refine T.region ?_
  refine TO.quiet (q_fieldAddr Try.underlying26 rfl inf3 rfl rfl) (TO.quiet (QT.cast (q_load_box 3 Try.underlying3 rfl rfl rfl rfl) (v' := .int .i64 ((b.states.toNat : Nat) : Int)) (by show Value.int _ b.states = _; rw [Int.toNat_of_nonneg hv0])) ?_)
  refine TO.loud rfl (l_makeSlice (m := b.states.toNat) Try.underlying39 inf4 rfl rfl (by omega) (by omega) (fun bx4 => ?_))
  refine TO.loud rfl (l_alloc inf39 rfl (fun bx5 => ?_))
  refine TO.loud rfl (l_store_box (v := (.slice (some ⟨bx4, 0, none⟩) b.states.toNat b.states.toNat)) (vs := [(.slice (some ⟨bx4, 0, none⟩) b.states.toNat b.states.toNat)]) 0 inf39 rfl rfl rfl rfl rfl rfl (by simp [putL]) ?_)
  refine TO.nil (T.seq (T.region ?_))
  refine TO.loud rfl (l_alloc inf22 rfl (fun bx6 => ?_))
  refine TO.nil (T.seq (T.region ?_))
  refine TO.quiet (q_makeFunc) (TO.quiet (q_assign rfl) ?_)
  refine TO.nil (T.seq (T.region ?_))
  refine TO.quiet (q_load_boxAgg 6 Try.underlying26 rfl inf26 rfl rfl rfl) ?_
  have hk35 := fun (w1 : World) (hI : Inv w [oI bx6 22 [(.slice none 0 0)], oI bx5 39 [(.slice (some ⟨bx4, 0, none⟩) b.states.toNat b.states.toNat)], rowI (some ⟨bx4, 0, none⟩) b.states.toNat 4 1 (List.replicate b.states.toNat (.bool false)), oI bx3 39 [(.slice lb ((livesB b).length) lc)], rowI lb lc 4 1 (bools (livesB b)), oI bx2 26 [(.int .i64 0), (.int .i64 0), (.slice none 0 0), (.slice none 0 0), (.slice none 0 0)], oI bx1 26 (buCells b sb sc eb ec tb tc)] w1) => automatonF w1 b sb eb tb sc ec tc vs (hI.bu h) hB hv
  refine TO.loud rfl (l_call ent62 (CallT.of_pure hk35) rfl ?_)
  clear hk35
  rintro vr O' ⟨N, rfl, nb2, nc2, mb2, mc2, qs, ms, rfl, rfl, hg⟩
  refine TO.sub (O' := ([rowI nb2 b.states.toNat 22 1 (vals qs), rowI mb2 b.states.toNat 52 1 (uns ms), oI bx6 22 [(.slice none 0 0)], oI bx5 39 [(.slice (some ⟨bx4, 0, none⟩) b.states.toNat b.states.toNat)], rowI (some ⟨bx4, 0, none⟩) b.states.toNat 4 1 (List.replicate b.states.toNat (.bool false)), oI bx3 39 [(.slice lb ((livesB b).length) lc)], rowI lb lc 4 1 (bools (livesB b)), oI bx2 26 [(.int .i64 0), (.int .i64 0), (.slice none 0 0), (.slice none 0 0), (.slice none 0 0)], oI bx1 26 (buCells b sb sc eb ec tb tc)] ++ (itms 3 qs))) (Sub.cnt [] (by intro a; simp only [itms, oI, List.set_cons_zero, List.set_cons_succ, putL, List.cons_append, List.nil_append, List.append_nil, List.append_assoc, List.map_append, List.map_cons, List.map_nil, cnt_append, cnt_cons, cnt_nil, buCells, laCells] <;> omega)) ?_
  refine TO.quiet (q_field Try.underlying79 rfl Try.underlying24 rfl rfl rfl) (TO.quiet (q_assign rfl) ?_)
  refine TO.nil (T.seq (T.seq (T.region ?_)))
  refine TO.quiet (q_fieldAddr Try.underlying26 rfl inf22 rfl rfl) (TO.quiet (q_load_box 8 Try.underlying22 rfl rfl rfl rfl) (TO.quiet (q_len Try.underlying22 rfl) (TO.quiet (q_move rfl) ?_)))
  refine TO.nil (T.block ?_)
  refine T.nilRow 3 1 ?_
  refine T.sub (O' := [oI bx3 39 [(.slice lb ((livesB b).length) lc)], rowI lb lc 4 1 (bools (livesB b)), oI bx5 39 [(.slice (some ⟨bx4, 0, none⟩) b.states.toNat b.states.toNat)], rowI (some ⟨bx4, 0, none⟩) b.states.toNat 4 1 (List.replicate b.states.toNat (.bool false)), oI bx6 22 [(.slice none 0 0)], rowI none 0 3 1 [], oI bx2 26 [(.int .i64 0), (.int .i64 0), (.slice none 0 0), (.slice none 0 0), (.slice none 0 0)], oI bx1 26 (buCells b sb sc eb ec tb tc), rowI nb2 b.states.toNat 22 1 (vals qs)] ++ itms 3 qs) (Sub.pickR [6, 6, 4, 4, 3, 0, 2, 2, 0] [rowI none 0 3 1 [], rowI nb2 b.states.toNat 22 1 (vals qs), rowI mb2 b.states.toNat 52 1 (uns ms), oI bx6 22 [(.slice none 0 0)], oI bx5 39 [(.slice (some ⟨bx4, 0, none⟩) b.states.toNat b.states.toNat)], rowI (some ⟨bx4, 0, none⟩) b.states.toNat 4 1 (List.replicate b.states.toNat (.bool false)), oI bx3 39 [(.slice lb ((livesB b).length) lc)], rowI lb lc 4 1 (bools (livesB b)), oI bx2 26 [(.int .i64 0), (.int .i64 0), (.slice none 0 0), (.slice none 0 0), (.slice none 0 0)], oI bx1 26 (buCells b sb sc eb ec tb tc)] (itms 3 qs) rfl rfl) ?_
  have hql : qs.length = b.states.toNat := by have h9 := hg.r.l; simpa [nums] using h9
  refine T.loop (fun (k : Nat) ρ O => ∃ (ka : List Bool) (ta : List Nat) (tb1 : Option Addr) (tc1 : Nat), O = ([oI bx3 39 [(.slice lb ((livesB b).length) lc)], rowI lb lc 4 1 (bools (livesB b)), oI bx5 39 [(.slice (some ⟨bx4, 0, none⟩) b.states.toNat b.states.toNat)], rowI (some ⟨bx4, 0, none⟩) b.states.toNat 4 1 (bools ka), oI bx6 22 [(.slice tb1 ta.length tc1)], rowI tb1 tc1 3 1 (nats ta), oI bx2 26 [(.int .i64 0), (.int .i64 0), (.slice none 0 0), (.slice none 0 0), (.slice none 0 0)], oI bx1 26 (buCells b sb sc eb ec tb tc), rowI nb2 b.states.toNat 22 1 (vals qs)] ++ (itms 3 qs)) ∧ k ≤ b.start.length ∧ SeaP (nums qs) (fun v => (livesB b).getD v false) b.start (fun _ => False) ka ta k (nums qs).length 0 ∧ Heads [(0, (.agg (buCells b sb sc eb ec tb tc).toArray)), (1, (.pointer (some ⟨bx1, 0, none⟩))), (2, (.pointer (some ⟨bx2, 0, none⟩))), (3, .int .i64 (checkB b : Int)), (4, (.pointer (some ⟨bx3, 0, none⟩))), (5, (.pointer (some ⟨bx5, 0, none⟩))), (6, (.pointer (some ⟨bx6, 0, none⟩))), (7, (.func (.func 77) #[] #[(.pointer (some ⟨bx3, 0, none⟩)), (.pointer (some ⟨bx5, 0, none⟩)), (.pointer (some ⟨bx6, 0, none⟩))])), (8, (.slice nb2 b.states.toNat nc2)), (38, (.slice sb b.start.length sc)), (39, .int .i64 (b.start.length : Int)), (40, .int .i64 (k : Int))] ρ) (fun k => b.start.length - k) 0 ?_ ?_
  · refine ⟨List.replicate b.states.toNat false, [], none, 0, by simp only [List.map_replicate]; rfl, Nat.zero_le _, ?_, ⟨rfl, rfl, rfl, rfl, rfl, rfl, rfl, rfl, rfl, rfl, rfl, rfl, trivial⟩⟩
    have h9 := SeaP.start0 (nx := nums qs) (al := (fun v => (livesB b).getD v false)) (fun _ => False) (roots := b.start) (todo := []) (fun _ h => h.elim) (fun u h => absurd h (List.not_mem_nil)) (Nat.zero_le _)
    rw [hg.r.l] at h9 ⊢; exact h9
  rintro k ρ O ⟨ka, ta, tb1, tc1, rfl, hk, hsa, hH⟩
  obtain ⟨ρ0, rfl⟩ := hH.elim
  clear hH
  have hka : ka.length = b.states.toNat := by rw [hsa.l, hg.r.l]
  have hma := hsa.mu
  rw [hg.r.l] at hma
  refine T.seq (T.region ?_)
  refine TO.quiet (q_lss rfl rfl) ?_
  refine TO.nil (T.seq ?_)
  refine T.condP rfl (fun hc => ?_) (fun hc => ?_)
  · have hlt41 : k < b.start.length := by omega
    obtain ⟨x, hx, hxn⟩ : ∃ x : Nat, b.start[k] = (x : Int) ∧ x < b.states.toNat := by
      have := hv.st _ (List.getElem_mem hlt41)
      exact ⟨b.start[k].toNat, by omega, by omega⟩
    refine T.skip (T.seq (T.block (T.seq (T.region ?_))))
    refine TO.quiet (q_ix (i := k) Try.underlying22 inf3 rfl rfl (Sl.o h.st)) (TO.quiet (q_ld Try.underlying3 rfl rfl (Sl.o h.st) (show (ints b.start)[k]? = _ by rw [ints_get hlt41, hx])) (TO.quiet (q_assign rfl) ?_))
    refine TO.nil (T.region ?_)
    refine TO.quiet (q_move rfl) (TO.quiet (q_move rfl) ?_)
    have hk46 := ((CallV.of_fn (first := []) (args := [.int .i64 ((x : Nat) : Int)]) (caps := [.pointer (some ⟨bx3, 0, none⟩), .pointer (some ⟨bx5, 0, none⟩), .pointer (some ⟨bx6, 0, none⟩)]) ent77 (by
      have h9 := trimVisit w bx3 bx5 bx6 lb (some ⟨bx4, 0, none⟩) tb1 lc lc b.states.toNat b.states.toNat tc1 (livesB b) ka ta x (by rw [livesB_len he]; omega) (by omega) (by omega)
      rw [hka] at h9; exact h9)).under (B := [oI bx2 26 [(.int .i64 0), (.int .i64 0), (.slice none 0 0), (.slice none 0 0), (.slice none 0 0)], oI bx1 26 (buCells b sb sc eb ec tb tc), rowI nb2 b.states.toNat 22 1 (vals qs)] ++ itms 3 qs) (O := ([oI bx3 39 [(.slice lb ((livesB b).length) lc)], rowI lb lc 4 1 (bools (livesB b)), oI bx5 39 [(.slice (some ⟨bx4, 0, none⟩) b.states.toNat b.states.toNat)], rowI (some ⟨bx4, 0, none⟩) b.states.toNat 4 1 (bools ka), oI bx6 22 [(.slice tb1 ta.length tc1)], rowI tb1 tc1 3 1 (nats ta), oI bx2 26 [(.int .i64 0), (.int .i64 0), (.slice none 0 0), (.slice none 0 0), (.slice none 0 0)], oI bx1 26 (buCells b sb sc eb ec tb tc), rowI nb2 b.states.toNat 22 1 (vals qs)] ++ (itms 3 qs))) (Sub.of (List.Sublist.refl _)))
    refine TO.loud rfl (l_callG hk46 rfl rfl ?_)
    clear hk46
    rintro vr O' ⟨A1, rfl, tb8, tc8, rfl⟩
    refine TO.nil (T.region ?_)
    refine TO.quiet (q_addN (a := k) (b := 1) rfl rfl (by omega)) (TO.quiet (q_move rfl) ?_)
    refine TO.nil ?_
    exact ⟨k + 1, by omega, _, _, tb8, tc8, rfl, by omega, hsa.root hlt41 hx (by rw [hg.r.l]; exact hxn), ⟨rfl, rfl, rfl, rfl, rfl, rfl, rfl, rfl, rfl, rfl, rfl, rfl, trivial⟩⟩
  have hge41 : ¬ k < b.start.length := by omega
  refine T.exit ?_
  refine T.seq (T.block ?_)
  have hke : k = b.start.length := by omega
  subst hke
  refine T.loop (fun (M : Nat) ρ O => ∃ (ks : List Bool) (todo : List Nat) (tb2 : Option Addr) (tc2 cur jl : Nat), O = ([oI bx3 39 [(.slice lb ((livesB b).length) lc)], rowI lb lc 4 1 (bools (livesB b)), oI bx5 39 [(.slice (some ⟨bx4, 0, none⟩) b.states.toNat b.states.toNat)], rowI (some ⟨bx4, 0, none⟩) b.states.toNat 4 1 (bools ks), oI bx6 22 [(.slice tb2 todo.length tc2)], rowI tb2 tc2 3 1 (nats todo), oI bx2 26 [(.int .i64 0), (.int .i64 0), (.slice none 0 0), (.slice none 0 0), (.slice none 0 0)], oI bx1 26 (buCells b sb sc eb ec tb tc), rowI nb2 b.states.toNat 22 1 (vals qs)] ++ (itms 3 qs)) ∧ SeaP (nums qs) (fun v => (livesB b).getD v false) b.start (fun _ => False) ks todo b.start.length cur jl ∧ (∀ r, (nums qs)[cur]? = some r → r.length ≤ jl) ∧ todo.length + ks.count false = M ∧ Heads [(0, (.agg (buCells b sb sc eb ec tb tc).toArray)), (1, (.pointer (some ⟨bx1, 0, none⟩))), (2, (.pointer (some ⟨bx2, 0, none⟩))), (3, .int .i64 (checkB b : Int)), (4, (.pointer (some ⟨bx3, 0, none⟩))), (5, (.pointer (some ⟨bx5, 0, none⟩))), (6, (.pointer (some ⟨bx6, 0, none⟩))), (7, (.func (.func 77) #[] #[(.pointer (some ⟨bx3, 0, none⟩)), (.pointer (some ⟨bx5, 0, none⟩)), (.pointer (some ⟨bx6, 0, none⟩))])), (8, (.slice nb2 b.states.toNat nc2))] ρ) (fun M => M) (ta.length + ka.count false) ?_ ?_
  · exact ⟨ka, ta, tb1, tc1, (nums qs).length, 0, rfl, hsa, (fun r hr => by rw [List.getElem?_eq_none (Nat.le_refl _)] at hr; cases hr), rfl, ⟨rfl, rfl, rfl, rfl, rfl, rfl, rfl, rfl, rfl, trivial⟩⟩
  rintro M ρ O ⟨ks, todo, tb2, tc2, cur, jl, rfl, hsb, hjl, hM, hH⟩
  obtain ⟨ρ0, rfl⟩ := hH.elim
  clear hH
  have hkb : ks.length = b.states.toNat := by rw [hsb.l, hg.r.l]
  have hmb := hsb.mu
  rw [hg.r.l] at hmb
  refine T.seq (T.seq (T.region ?_))
  refine TO.quiet (q_load_box 4 Try.underlying22 rfl rfl rfl rfl) (TO.quiet (q_len Try.underlying22 rfl) (TO.quiet (q_gtr rfl rfl) ?_))
  refine TO.nil ?_
  refine T.condP rfl (fun hc => ?_) (fun hc => ?_)
  · have hlt50 : todo.length > 0 := by omega
    obtain ⟨u, rest, htd⟩ : ∃ u rest, todo = u :: rest := List.exists_cons_of_length_pos (by omega)
    refine T.skip (T.block (T.seq (T.region ?_)))
    refine TO.quiet (q_load_box 4 Try.underlying22 rfl rfl rfl rfl) (TO.quiet (q_ix (i := 0) Try.underlying22 inf3 rfl rfl (rowO (List.mem_of_getElem? (i := 5) rfl))) (TO.quiet (q_ld Try.underlying3 rfl rfl (rowO (List.mem_of_getElem? (i := 5) rfl)) (show (nats todo)[0]? = some (.int .i64 ((u : Nat) : Int)) by rw [htd]; rfl)) (TO.quiet (q_assign rfl) ?_)))
    refine TO.nil (T.seq (T.region ?_))
    refine TO.quiet (q_load_box 4 Try.underlying22 rfl rfl rfl rfl) ?_
    refine TO.loud rfl (l_tail 5 Try.underlying22 inf3 (by decide) rfl rfl rfl (by simp) (by omega) (fun bx7 => ?_))
    refine TO.loud rfl (l_store_box (v := (.slice bx7 (todo.length - 1) (tc2 - 1))) (vs := [(.slice bx7 (todo.length - 1) (tc2 - 1))]) 4 inf22 rfl rfl rfl rfl rfl rfl (by simp [putL]) ?_)
    refine TO.nil (T.seq ?_)
    refine T.sub (O' := [oI bx3 39 [(.slice lb ((livesB b).length) lc)], rowI lb lc 4 1 (bools (livesB b)), oI bx5 39 [(.slice (some ⟨bx4, 0, none⟩) b.states.toNat b.states.toNat)], rowI (some ⟨bx4, 0, none⟩) b.states.toNat 4 1 (bools ks), oI bx6 22 [(.slice bx7 todo.tail.length (tc2 - 1))], rowI bx7 (tc2 - 1) 3 1 (nats todo.tail), oI bx2 26 [(.int .i64 0), (.int .i64 0), (.slice none 0 0), (.slice none 0 0), (.slice none 0 0)], oI bx1 26 (buCells b sb sc eb ec tb tc), rowI nb2 b.states.toNat 22 1 (vals qs)] ++ itms 3 qs) (by rw [show nats todo.tail = (nats todo).drop 1 by cases todo <;> rfl, List.length_tail]; exact Sub.of (List.Sublist.refl _)) ?_
    have hun : u < b.states.toNat := by have h9 := (hsb.td u (by rw [htd]; simp)).1; rw [hg.r.l] at h9; exact h9
    have hqu : u < qs.length := by omega
    have hqr := hg.r.rl hqu
    have hku : ks.getD u false = true := (hsb.td u (by rw [htd]; simp)).2.elim (fun q => q.elim) id
    have htl : todo.length = todo.tail.length + 1 := by rw [htd]; rfl
    have hp : SeaP (nums qs) (fun v => (livesB b).getD v false) b.start (fun _ => False) ks todo.tail b.start.length u 0 := by
      rw [htd] at hsb ⊢; exact hsb.pop hjl
    refine T.region ?_
    refine TO.quiet (q_move rfl) (TO.quiet (q_move rfl) (TO.quiet (q_ix (i := u) Try.underlying24 inf22 rfl rfl (rowO (List.mem_of_getElem? (i := 8) rfl))) (TO.quiet (q_ld Try.underlying22 rfl rfl (rowO (List.mem_of_getElem? (i := 8) rfl)) (vals_at hqu)) ?_)))
    refine TO.quiet (q_len Try.underlying22 rfl) (TO.quiet (q_move rfl) ?_)
    refine TO.nil (T.block ?_)
    refine T.loop (fun (j : Nat) ρ O => ∃ (k3 : List Bool) (t3 : List Nat) (tb3 : Option Addr) (tc3 : Nat), O = ([oI bx3 39 [(.slice lb ((livesB b).length) lc)], rowI lb lc 4 1 (bools (livesB b)), oI bx5 39 [(.slice (some ⟨bx4, 0, none⟩) b.states.toNat b.states.toNat)], rowI (some ⟨bx4, 0, none⟩) b.states.toNat 4 1 (bools k3), oI bx6 22 [(.slice tb3 t3.length tc3)], rowI tb3 tc3 3 1 (nats t3), oI bx2 26 [(.int .i64 0), (.int .i64 0), (.slice none 0 0), (.slice none 0 0), (.slice none 0 0)], oI bx1 26 (buCells b sb sc eb ec tb tc), rowI nb2 b.states.toNat 22 1 (vals qs)] ++ (itms 3 qs)) ∧ j ≤ qs[u].xs.length ∧ SeaP (nums qs) (fun v => (livesB b).getD v false) b.start (fun _ => False) k3 t3 b.start.length u j ∧ t3.length + k3.count false + 1 = M ∧ k3.getD u false = true ∧ Heads [(0, (.agg (buCells b sb sc eb ec tb tc).toArray)), (1, (.pointer (some ⟨bx1, 0, none⟩))), (2, (.pointer (some ⟨bx2, 0, none⟩))), (3, .int .i64 (checkB b : Int)), (4, (.pointer (some ⟨bx3, 0, none⟩))), (5, (.pointer (some ⟨bx5, 0, none⟩))), (6, (.pointer (some ⟨bx6, 0, none⟩))), (7, (.func (.func 77) #[] #[(.pointer (some ⟨bx3, 0, none⟩)), (.pointer (some ⟨bx5, 0, none⟩)), (.pointer (some ⟨bx6, 0, none⟩))])), (8, (.slice nb2 b.states.toNat nc2)), (11, .int .i64 ((u : Nat) : Int)), (59, (.slice qs[u].b qs[u].xs.length qs[u].c)), (60, .int .i64 (qs[u].xs.length : Int)), (61, .int .i64 (j : Int))] ρ) (fun j => qs[u].xs.length - j) 0 ?_ ?_
    · exact ⟨ks, todo.tail, bx7, tc2 - 1, rfl, Nat.zero_le _, hp, by omega, hku, ⟨rfl, rfl, rfl, rfl, rfl, rfl, rfl, rfl, rfl, rfl, rfl, rfl, rfl, trivial⟩⟩
    rintro j ρ O ⟨k3, t3, tb3, tc3, rfl, hj, hs3, hM3, hk3, hH⟩
    obtain ⟨ρ0, rfl⟩ := hH.elim
    clear hH
    have hkc : k3.length = b.states.toNat := by rw [hs3.l, hg.r.l]
    have hmc := hs3.mu
    rw [hg.r.l] at hmc
    refine T.seq (T.region ?_)
    refine TO.quiet (q_lss rfl rfl) ?_
    refine TO.nil (T.seq ?_)
    refine T.condP rfl (fun hc => ?_) (fun hc => ?_)
    · have hlt62 : j < qs[u].xs.length := by omega
      obtain ⟨y, hy, hyn⟩ : ∃ y : Nat, qs[u].xs[j] = (y : Int) ∧ y < b.states.toNat := by
        have h9 := hg.ok hv qs[u].xs (List.mem_map.2 ⟨_, List.getElem_mem hqu, rfl⟩) _ (List.getElem_mem hlt62)
        rw [hg.r.l] at h9
        exact ⟨qs[u].xs[j].toNat, by omega, by omega⟩
      refine T.skip (T.seq (T.block (T.seq (T.region ?_))))
      refine TO.quiet (q_ix (i := j) Try.underlying22 inf3 rfl rfl (fun w hI => hI.slOf (itms_at (E := 3) hqu))) (TO.quiet (q_ld Try.underlying3 rfl rfl (fun w hI => hI.slOf (itms_at (E := 3) hqu)) (show (ints qs[u].xs)[j]? = _ by rw [ints_get hlt62, hy])) (TO.quiet (q_assign rfl) ?_))
      refine TO.nil (T.region ?_)
      refine TO.quiet (q_move rfl) (TO.quiet (q_move rfl) ?_)
      have hk67 := ((CallV.of_fn (first := []) (args := [.int .i64 ((y : Nat) : Int)]) (caps := [.pointer (some ⟨bx3, 0, none⟩), .pointer (some ⟨bx5, 0, none⟩), .pointer (some ⟨bx6, 0, none⟩)]) ent77 (by
        have h9 := trimVisit w bx3 bx5 bx6 lb (some ⟨bx4, 0, none⟩) tb3 lc lc b.states.toNat b.states.toNat tc3 (livesB b) k3 t3 y (by rw [livesB_len he]; omega) (by omega) (by omega)
        rw [hkc] at h9; exact h9)).under (B := [oI bx2 26 [(.int .i64 0), (.int .i64 0), (.slice none 0 0), (.slice none 0 0), (.slice none 0 0)], oI bx1 26 (buCells b sb sc eb ec tb tc), rowI nb2 b.states.toNat 22 1 (vals qs)] ++ itms 3 qs) (O := ([oI bx3 39 [(.slice lb ((livesB b).length) lc)], rowI lb lc 4 1 (bools (livesB b)), oI bx5 39 [(.slice (some ⟨bx4, 0, none⟩) b.states.toNat b.states.toNat)], rowI (some ⟨bx4, 0, none⟩) b.states.toNat 4 1 (bools k3), oI bx6 22 [(.slice tb3 t3.length tc3)], rowI tb3 tc3 3 1 (nats t3), oI bx2 26 [(.int .i64 0), (.int .i64 0), (.slice none 0 0), (.slice none 0 0), (.slice none 0 0)], oI bx1 26 (buCells b sb sc eb ec tb tc), rowI nb2 b.states.toNat 22 1 (vals qs)] ++ (itms 3 qs))) (Sub.of (List.Sublist.refl _)))
      refine TO.loud rfl (l_callG hk67 rfl rfl ?_)
      clear hk67
      rintro vr O' ⟨A1, rfl, tb7, tc7, rfl⟩
      refine TO.nil (T.region ?_)
      refine TO.quiet (q_addN (a := j) (b := 1) rfl rfl (by omega)) (TO.quiet (q_move rfl) ?_)
      refine TO.nil ?_
      have hed3 := hs3.edge (by rw [hg.r.l]; omega) (.inr hk3) (by rw [nums_at hqu]; exact hlt62) (by simp only [nums_at hqu]; exact hy) (by rw [hg.r.l]; exact hyn)
      exact ⟨j + 1, by omega, _, _, tb7, tc7, rfl, by omega, hed3.1, by have := hed3.2; omega, SeaP.edge_mono _ hk3, ⟨rfl, rfl, rfl, rfl, rfl, rfl, rfl, rfl, rfl, rfl, rfl, rfl, rfl, trivial⟩⟩
    have hge62 : ¬ j < qs[u].xs.length := by omega
    refine T.exit ?_
    exact ⟨M - 1, by omega, k3, t3, tb3, tc3, u, j, rfl, hs3, (fun r hr => by
      have h9 : (nums qs)[u]? = some qs[u].xs := by simp [nums, hqu]
      rw [h9] at hr; cases hr; omega), by omega, ⟨rfl, rfl, rfl, rfl, rfl, rfl, rfl, rfl, rfl, trivial⟩⟩
  have hge50 : ¬ todo.length > 0 := by omega
  refine T.exit ?_
  refine T.seq (T.region ?_)
  refine TO.quiet (q_fieldAddr Try.underlying26 rfl inf3 rfl rfl) (TO.quiet (QT.cast (q_load_box 7 Try.underlying3 rfl rfl rfl rfl) (v' := .int .i64 ((b.states.toNat : Nat) : Int)) (by show Value.int _ b.states = _; rw [Int.toNat_of_nonneg hv0])) ?_)
  refine TO.loud rfl (l_makeSlice (m := b.states.toNat) Try.underlying22 inf3 rfl rfl (by omega) (by omega) (fun bx8 => ?_))
  refine TO.loud rfl (l_alloc inf22 rfl (fun bx9 => ?_))
  refine TO.loud rfl (l_store_box (v := (.slice (some ⟨bx8, 0, none⟩) b.states.toNat b.states.toNat)) (vs := [(.slice (some ⟨bx8, 0, none⟩) b.states.toNat b.states.toNat)]) 0 inf22 rfl rfl rfl rfl rfl rfl (by simp [putL]) ?_)
  refine TO.nil (T.seq (T.seq (T.region ?_)))
  refine TO.quiet (q_load_box 0 Try.underlying22 rfl rfl rfl rfl) (TO.quiet (q_len Try.underlying22 rfl) (TO.quiet (q_move rfl) ?_))
  refine TO.nil (T.block ?_)
  refine T.sub (O' := [oI bx5 39 [(.slice (some ⟨bx4, 0, none⟩) b.states.toNat b.states.toNat)], rowI (some ⟨bx4, 0, none⟩) b.states.toNat 4 1 (bools ks), oI bx9 22 [(.slice (some ⟨bx8, 0, none⟩) b.states.toNat b.states.toNat)], rowI (some ⟨bx8, 0, none⟩) b.states.toNat 3 1 (List.replicate b.states.toNat (.int .i64 0)), oI bx2 26 [(.int .i64 0), (.int .i64 0), (.slice none 0 0), (.slice none 0 0), (.slice none 0 0)], oI bx1 26 (buCells b sb sc eb ec tb tc)]) (Sub.pick0 [4, 4, 0, 0, 4, 4] [oI bx9 22 [(.slice (some ⟨bx8, 0, none⟩) b.states.toNat b.states.toNat)], rowI (some ⟨bx8, 0, none⟩) b.states.toNat 3 1 (List.replicate b.states.toNat (.int .i64 0)), oI bx3 39 [(.slice lb ((livesB b).length) lc)], rowI lb lc 4 1 (bools (livesB b)), oI bx5 39 [(.slice (some ⟨bx4, 0, none⟩) b.states.toNat b.states.toNat)], rowI (some ⟨bx4, 0, none⟩) b.states.toNat 4 1 (bools ks), oI bx6 22 [(.slice tb2 todo.length tc2)], rowI tb2 tc2 3 1 (nats todo), oI bx2 26 [(.int .i64 0), (.int .i64 0), (.slice none 0 0), (.slice none 0 0), (.slice none 0 0)], oI bx1 26 (buCells b sb sc eb ec tb tc), rowI nb2 b.states.toNat 22 1 (vals qs)] (itms 3 qs) rfl rfl) ?_
  have htn : todo = [] := List.eq_nil_of_length_eq_zero (by omega)
  have hkeep : ks = keepB b := keepB_of hkb (fun v hv9 => ((show SeaP (nums qs) (fun v => (livesB b).getD v false) b.start (fun _ => False) ks [] b.start.length cur jl by rw [← htn]; exact hsb).done (hg.ok hv) (Nat.le_refl _) hjl v).trans (keep_live he hv hg hv9))
  refine T.loop (fun (k4 : Nat) ρ O => ∃ (ns : List Nat), O = [oI bx5 39 [(.slice (some ⟨bx4, 0, none⟩) b.states.toNat b.states.toNat)], rowI (some ⟨bx4, 0, none⟩) b.states.toNat 4 1 (bools ks), oI bx9 22 [(.slice (some ⟨bx8, 0, none⟩) b.states.toNat b.states.toNat)], rowI (some ⟨bx8, 0, none⟩) b.states.toNat 3 1 (nats ns), oI bx2 26 [(.int .i64 0), (.int .i64 ((cntK ks k4 : Nat) : Int)), (.slice none 0 0), (.slice none 0 0), (.slice none 0 0)], oI bx1 26 (buCells b sb sc eb ec tb tc)] ∧ k4 ≤ b.states.toNat ∧ NumP ks k4 ns ∧ Heads [(0, (.agg (buCells b sb sc eb ec tb tc).toArray)), (1, (.pointer (some ⟨bx1, 0, none⟩))), (2, (.pointer (some ⟨bx2, 0, none⟩))), (3, .int .i64 (checkB b : Int)), (4, (.pointer (some ⟨bx3, 0, none⟩))), (5, (.pointer (some ⟨bx5, 0, none⟩))), (6, (.pointer (some ⟨bx6, 0, none⟩))), (7, (.func (.func 77) #[] #[(.pointer (some ⟨bx3, 0, none⟩)), (.pointer (some ⟨bx5, 0, none⟩)), (.pointer (some ⟨bx6, 0, none⟩))])), (8, (.slice nb2 b.states.toNat nc2)), (14, (.pointer (some ⟨bx9, 0, none⟩))), (73, .int .i64 (b.states.toNat : Int)), (74, .int .i64 (k4 : Int))] ρ) (fun k4 => b.states.toNat - k4) 0 ?_ ?_
  · exact ⟨List.replicate b.states.toNat 0, by simp only [List.map_replicate]; rfl, Nat.zero_le _, (by rw [← hkb]; exact NumP.start ks), ⟨rfl, rfl, rfl, rfl, rfl, rfl, rfl, rfl, rfl, rfl, rfl, rfl, trivial⟩⟩
  rintro k4 ρ O ⟨ns, rfl, hk4, hN, hH⟩
  obtain ⟨ρ0, rfl⟩ := hH.elim
  clear hH
  have hnl : ns.length = b.states.toNat := by rw [hN.l, hkb]
  have hcl := cntK_le ks k4
  refine T.seq (T.region ?_)
  refine TO.quiet (q_lss rfl rfl) ?_
  refine TO.nil (T.seq ?_)
  refine T.condP rfl (fun hc => ?_) (fun hc => ?_)
  · have hlt75 : k4 < b.states.toNat := by omega
    refine T.skip (T.seq (T.block (T.seq (T.region ?_))))
    refine TO.quiet (q_move rfl) (TO.quiet (q_assign rfl) ?_)
    refine TO.nil (T.seq (T.region ?_))
    refine TO.quiet (q_load_box 0 Try.underlying39 rfl rfl rfl rfl) (TO.quiet (q_move rfl) (TO.quiet (q_ix (i := k4) Try.underlying39 inf4 rfl rfl (rowO (List.mem_of_getElem? (i := 1) rfl))) (TO.quiet (q_ld Try.underlying4 rfl rfl (rowO (List.mem_of_getElem? (i := 1) rfl)) bools_get) ?_)))
    refine TO.nil ?_
    refine T.cond rfl (fun hc => ?_) (fun hc => ?_)
    · refine T.seq ?_
      refine T.region ?_
      refine TO.quiet (q_load_box 2 Try.underlying22 rfl rfl rfl rfl) (TO.quiet (q_move rfl) (TO.quiet (q_fieldAddr Try.underlying26 rfl inf3 rfl rfl) (TO.quiet (q_load_box 4 Try.underlying3 rfl rfl rfl rfl) ?_)))
      refine TO.quiet (q_ix (i := k4) Try.underlying22 inf3 rfl rfl (rowO (List.mem_of_getElem? (i := 3) rfl))) ?_
      refine TO.loud rfl (l_st (j := k4) (v := (.int .i64 ((cntK ks k4 : Nat) : Int))) (vs := [(.int .i64 ((cntK ks k4 : Nat) : Int))]) (cs := nats ns) 3 inf3 rfl rfl rfl rfl rfl (by simp) rfl (by first | (simp; omega) | (simp_all; omega)) ?_)
      refine TO.sub (O' := [oI bx5 39 [(.slice (some ⟨bx4, 0, none⟩) b.states.toNat b.states.toNat)], rowI (some ⟨bx4, 0, none⟩) b.states.toNat 4 1 (bools ks), oI bx9 22 [(.slice (some ⟨bx8, 0, none⟩) b.states.toNat b.states.toNat)], rowI (some ⟨bx8, 0, none⟩) b.states.toNat 3 1 (nats (ns.set k4 (cntK ks k4))), oI bx2 26 [(.int .i64 0), (.int .i64 ((cntK ks k4 : Nat) : Int)), (.slice none 0 0), (.slice none 0 0), (.slice none 0 0)], oI bx1 26 (buCells b sb sc eb ec tb tc)]) (by rw [show putL (nats ns) k4 [(.int .i64 ((cntK ks k4 : Nat) : Int))] = nats (ns.set k4 (cntK ks k4)) from (by simp [putL])]; exact Sub.of (List.Sublist.refl _)) ?_
      refine TO.nil (T.region ?_)
      refine TO.quiet (q_fieldAddr Try.underlying26 rfl inf3 rfl rfl) (TO.quiet (q_load_box 4 Try.underlying3 rfl rfl rfl rfl) (TO.quiet (q_addN (a := (cntK ks k4)) (b := 1) rfl rfl (by omega)) (TO.quiet (q_fieldAddr Try.underlying26 rfl inf3 rfl rfl) ?_)))
      refine TO.loud rfl (l_store_box (v := .int .i64 (((cntK ks k4) + 1 : Nat) : Int)) (vs := [(.int .i64 (((cntK ks k4) + 1 : Nat) : Int))]) 4 inf3 rfl rfl rfl rfl rfl rfl (by simp [putL]) ?_)
      refine TO.nil (T.region ?_)
      refine TO.quiet (q_addN (a := k4) (b := 1) rfl rfl (by omega)) (TO.quiet (q_move rfl) ?_)
      refine TO.nil ?_
      refine ⟨k4 + 1, by omega, ns.set k4 (cntK ks k4), ?_, by omega, hN.yes (by omega), ⟨rfl, rfl, rfl, rfl, rfl, rfl, rfl, rfl, rfl, rfl, rfl, rfl, trivial⟩⟩
      rw [cntK_succ (by omega), if_pos (by rw [gb (by omega)]; assumption)]; rfl
    refine T.skip (T.region ?_)
    refine TO.quiet (q_addN (a := k4) (b := 1) rfl rfl (by omega)) (TO.quiet (q_move rfl) ?_)
    refine TO.nil ?_
    refine ⟨k4 + 1, by omega, ns, ?_, by omega, hN.no (by rw [gb (by omega)]; simp_all), ⟨rfl, rfl, rfl, rfl, rfl, rfl, rfl, rfl, rfl, rfl, rfl, rfl, trivial⟩⟩
    rw [cntK_succ (by omega), if_neg (by rw [gb (by omega)]; simp_all), Nat.add_zero]
  have hge75 : ¬ k4 < b.states.toNat := by omega
  refine T.exit ?_
  refine T.seq ?_
  have hke4 : k4 = b.states.toNat := by omega
  have hNN : NumP ks ks.length ns := by rw [hkb, ← hke4]; exact hN
  refine T.region ?_
  refine TO.quiet (q_makeFunc) (TO.quiet (q_assign rfl) ?_)
  refine TO.nil (T.seq ?_)
  refine T.draws [oI bx1 26 (buCells b sb sc eb ec tb tc)] [(0, 0), (1, 0), (2, 0), (3, 0), (4, 0), (6, 0), (5, 1), (7, 2), (8, 2), (9, 2)] mixed (by kernel_rfl) (Sub.pick [5] rfl) (fun _ _ _ h => h) ?_
  refine DO.quiet rfl (q_fieldAddr Try.underlying26 rfl inf3 rfl rfl) (DO.quiet rfl (q_load_box 0 Try.underlying3 rfl rfl rfl rfl) (DO.quiet rfl (q_move rfl) (DO.quiet rfl (q_fieldAddr Try.underlying26 rfl inf22 rfl rfl) ?_)))
  refine DO.quiet rfl (q_load_box 0 Try.underlying22 rfl rfl rfl rfl) (DO.quiet rfl (q_fieldAddr Try.underlying26 rfl inf3 rfl rfl) ?_)
  have hk97 := ((CallV.of_fn (first := []) (args := [.slice sb b.start.length sc]) (caps := [.pointer (some ⟨bx5, 0, none⟩), .pointer (some ⟨bx9, 0, none⟩)]) ent78 (by
    have h9 := trimRename w bx5 bx9 (some ⟨bx4, 0, none⟩) (some ⟨bx8, 0, none⟩) sb b.states.toNat b.states.toNat b.states.toNat b.states.toNat sc ks ns b.start hNN h.st (fun x hx => by have := hv.st x hx; omega) (by omega)
    rw [hkb, hnl] at h9; exact h9)).under (B := [oI bx2 26 [(.int .i64 0), (.int .i64 ((cntK ks k4 : Nat) : Int)), (.slice none 0 0), (.slice none 0 0), (.slice none 0 0)], oI bx1 26 (buCells b sb sc eb ec tb tc)]) (O := [oI bx5 39 [(.slice (some ⟨bx4, 0, none⟩) b.states.toNat b.states.toNat)], rowI (some ⟨bx4, 0, none⟩) b.states.toNat 4 1 (bools ks), oI bx9 22 [(.slice (some ⟨bx8, 0, none⟩) b.states.toNat b.states.toNat)], rowI (some ⟨bx8, 0, none⟩) b.states.toNat 3 1 (nats ns), oI bx2 26 [(.int .i64 0), (.int .i64 ((cntK ks k4 : Nat) : Int)), (.slice none 0 0), (.slice none 0 0), (.slice none 0 0)], oI bx1 26 (buCells b sb sc eb ec tb tc)]) (Sub.pick [0, 0, 0, 0, 0, 0] rfl))
  refine DO.loud rfl rfl (l_callG hk97 rfl rfl ?_)
  clear hk97
  rintro vr O' ⟨A1, rfl, rb1, rc1, rfl, rfl⟩
  refine ⟨Sub.pick [6] rfl, ?_⟩
  refine DO.last rfl rfl (l_store_box (v := (.int .i64 b.vars)) (vs := [(.int .i64 b.vars)]) 5 inf3 rfl rfl rfl rfl rfl rfl (by simp [putL]) ?_)
  refine DO.last rfl rfl (LT.of_quiet rfl rfl (q_fieldAddr Try.underlying26 rfl inf22 rfl rfl) ?_)
  refine DO.last rfl rfl (l_store_box (v := (.slice rb1 ((renK ks b.start).length) rc1)) (vs := [(.slice rb1 ((renK ks b.start).length) rc1)]) 5 inf22 rfl rfl rfl rfl rfl rfl (by simp [putL]) ?_)
  refine DO.done ?_
  refine T.seq (T.seq (T.region ?_))
  refine TO.quiet (q_fieldAddr Try.underlying26 rfl inf24 rfl rfl) (TO.quiet (q_load_box 6 Try.underlying24 rfl rfl rfl rfl) (TO.quiet (q_len Try.underlying24 rfl) (TO.quiet (q_move rfl) ?_)))
  refine TO.nil (T.block ?_)
  refine T.nilRow 22 1 ?_
  refine T.sub (O' := [rowI none 0 22 1 [], rowI rb1 rc1 3 1 (ints (renK ks b.start)), oI bx5 39 [(.slice (some ⟨bx4, 0, none⟩) b.states.toNat b.states.toNat)], rowI (some ⟨bx4, 0, none⟩) b.states.toNat 4 1 (bools ks), oI bx9 22 [(.slice (some ⟨bx8, 0, none⟩) b.states.toNat b.states.toNat)], rowI (some ⟨bx8, 0, none⟩) b.states.toNat 3 1 (nats ns), oI bx2 26 [(.int .i64 b.vars), (.int .i64 ((cntK ks k4 : Nat) : Int)), (.slice rb1 ((renK ks b.start).length) rc1), (.slice none 0 0), (.slice none 0 0)], oI bx1 26 (buCells b sb sc eb ec tb tc)] ++ itms 3 []) (Sub.of (List.Sublist.refl _)) ?_
  refine T.loop (fun (k5 : Nat) ρ O => ∃ (q5 : List Rec) (tb5 : Option Addr) (tc5 : Nat), O = ([rowI tb5 tc5 22 1 (vals q5), rowI rb1 rc1 3 1 (ints (renK ks b.start)), oI bx5 39 [(.slice (some ⟨bx4, 0, none⟩) b.states.toNat b.states.toNat)], rowI (some ⟨bx4, 0, none⟩) b.states.toNat 4 1 (bools ks), oI bx9 22 [(.slice (some ⟨bx8, 0, none⟩) b.states.toNat b.states.toNat)], rowI (some ⟨bx8, 0, none⟩) b.states.toNat 3 1 (nats ns), oI bx2 26 [(.int .i64 b.vars), (.int .i64 ((cntK ks k4 : Nat) : Int)), (.slice rb1 ((renK ks b.start).length) rc1), (.slice none 0 0), (.slice tb5 k5 tc5)], oI bx1 26 (buCells b sb sc eb ec tb tc)] ++ (itms 3 q5)) ∧ k5 ≤ b.sets.length ∧ nums q5 = (b.sets.take k5).map (renK ks) ∧ Heads [(0, (.agg (buCells b sb sc eb ec tb tc).toArray)), (1, (.pointer (some ⟨bx1, 0, none⟩))), (2, (.pointer (some ⟨bx2, 0, none⟩))), (3, .int .i64 (checkB b : Int)), (4, (.pointer (some ⟨bx3, 0, none⟩))), (5, (.pointer (some ⟨bx5, 0, none⟩))), (6, (.pointer (some ⟨bx6, 0, none⟩))), (7, (.func (.func 77) #[] #[(.pointer (some ⟨bx3, 0, none⟩)), (.pointer (some ⟨bx5, 0, none⟩)), (.pointer (some ⟨bx6, 0, none⟩))])), (8, (.slice nb2 b.states.toNat nc2)), (14, (.pointer (some ⟨bx9, 0, none⟩))), (16, (.func (.func 78) #[] #[(.pointer (some ⟨bx5, 0, none⟩)), (.pointer (some ⟨bx9, 0, none⟩))])), (101, (.slice tb b.sets.length tc)), (102, .int .i64 (b.sets.length : Int)), (103, .int .i64 (k5 : Int))] ρ) (fun k5 => b.sets.length - k5) 0 ?_ ?_
  · exact ⟨[], none, 0, rfl, Nat.zero_le _, rfl, ⟨rfl, rfl, rfl, rfl, rfl, rfl, rfl, rfl, rfl, rfl, rfl, rfl, rfl, rfl, trivial⟩⟩
  rintro k5 ρ O ⟨q5, tb5, tc5, rfl, hk5, hq5, hH⟩
  obtain ⟨ρ0, rfl⟩ := hH.elim
  clear hH
  have hq5l : q5.length = k5 := by have h9 := congrArg List.length hq5; simp [nums] at h9; omega
  refine T.seq (T.region ?_)
  refine TO.quiet (q_lss rfl rfl) ?_
  refine TO.nil (T.seq ?_)
  refine T.condP rfl (fun hc => ?_) (fun hc => ?_)
  · have hlt104 : k5 < b.sets.length := by omega
    obtain ⟨sbk, sck, g1, s1⟩ := h.rows.get hlt104
    refine T.skip (T.seq (T.block (T.seq (T.region ?_))))
    refine TO.quiet (q_ix (i := k5) Try.underlying24 inf22 rfl rfl (Sl.o h.out) (by first | assumption | omega | (simp; omega) | simp_all) (by rw [h.rows.1]; exact hlt104)) (TO.quiet (q_ld Try.underlying22 rfl rfl (Sl.o h.out) g1) (TO.quiet (q_assign rfl) ?_))
    refine TO.nil ?_
    refine T.draws [oI bx5 39 [(.slice (some ⟨bx4, 0, none⟩) b.states.toNat b.states.toNat)], rowI (some ⟨bx4, 0, none⟩) b.states.toNat 4 1 (bools ks), oI bx9 22 [(.slice (some ⟨bx8, 0, none⟩) b.states.toNat b.states.toNat)], rowI (some ⟨bx8, 0, none⟩) b.states.toNat 3 1 (nats ns), oI bx2 26 [(.int .i64 b.vars), (.int .i64 ((cntK ks k4 : Nat) : Int)), (.slice rb1 ((renK ks b.start).length) rc1), (.slice none 0 0), (.slice tb5 k5 tc5)], oI bx1 26 (buCells b sb sc eb ec tb tc)] [(0, 0), (1, 0), (2, 0), (3, 0), (4, 1), (5, 1), (6, 2), (7, 2), (8, 2)] mixed (by kernel_rfl) (Sub.pick0 [2, 2, 2, 2, 2, 2] [rowI tb5 tc5 22 1 (vals q5), rowI rb1 rc1 3 1 (ints (renK ks b.start)), oI bx5 39 [(.slice (some ⟨bx4, 0, none⟩) b.states.toNat b.states.toNat)], rowI (some ⟨bx4, 0, none⟩) b.states.toNat 4 1 (bools ks), oI bx9 22 [(.slice (some ⟨bx8, 0, none⟩) b.states.toNat b.states.toNat)], rowI (some ⟨bx8, 0, none⟩) b.states.toNat 3 1 (nats ns), oI bx2 26 [(.int .i64 b.vars), (.int .i64 ((cntK ks k4 : Nat) : Int)), (.slice rb1 ((renK ks b.start).length) rc1), (.slice none 0 0), (.slice tb5 k5 tc5)], oI bx1 26 (buCells b sb sc eb ec tb tc)] (itms 3 q5) rfl rfl) (fun _ _ _ h => h) ?_
    refine DO.quiet rfl (q_fieldAddr Try.underlying26 rfl inf24 rfl rfl) (DO.quiet rfl (q_load_box 4 Try.underlying24 rfl rfl rfl rfl) (DO.quiet rfl (q_move rfl) (DO.quiet rfl (q_move rfl) ?_)))
    have hk111 := ((CallV.of_fn (first := []) (args := [.slice sbk b.sets[k5].length sck]) (caps := [.pointer (some ⟨bx5, 0, none⟩), .pointer (some ⟨bx9, 0, none⟩)]) ent78 (by
      have h9 := trimRename w bx5 bx9 (some ⟨bx4, 0, none⟩) (some ⟨bx8, 0, none⟩) sbk b.states.toNat b.states.toNat b.states.toNat b.states.toNat sck ks ns b.sets[k5] hNN s1 (fun x hx => by have := hv.se _ (List.getElem_mem hlt104) x hx; omega) (hB.sr _ (List.getElem_mem hlt104))
      rw [hkb, hnl] at h9; exact h9)).under (B := [rowI tb5 tc5 22 1 (vals q5), rowI rb1 rc1 3 1 (ints (renK ks b.start)), oI bx2 26 [(.int .i64 b.vars), (.int .i64 ((cntK ks k4 : Nat) : Int)), (.slice rb1 ((renK ks b.start).length) rc1), (.slice none 0 0), (.slice tb5 k5 tc5)], oI bx1 26 (buCells b sb sc eb ec tb tc)] ++ (itms 3 q5)) (O := ([rowI tb5 tc5 22 1 (vals q5), rowI rb1 rc1 3 1 (ints (renK ks b.start)), oI bx5 39 [(.slice (some ⟨bx4, 0, none⟩) b.states.toNat b.states.toNat)], rowI (some ⟨bx4, 0, none⟩) b.states.toNat 4 1 (bools ks), oI bx9 22 [(.slice (some ⟨bx8, 0, none⟩) b.states.toNat b.states.toNat)], rowI (some ⟨bx8, 0, none⟩) b.states.toNat 3 1 (nats ns), oI bx2 26 [(.int .i64 b.vars), (.int .i64 ((cntK ks k4 : Nat) : Int)), (.slice rb1 ((renK ks b.start).length) rc1), (.slice none 0 0), (.slice tb5 k5 tc5)], oI bx1 26 (buCells b sb sc eb ec tb tc)] ++ (itms 3 q5))) (Sub.pickR [2, 2, 2, 2, 0, 0, 0, 0] [rowI tb5 tc5 22 1 (vals q5), rowI rb1 rc1 3 1 (ints (renK ks b.start)), oI bx5 39 [(.slice (some ⟨bx4, 0, none⟩) b.states.toNat b.states.toNat)], rowI (some ⟨bx4, 0, none⟩) b.states.toNat 4 1 (bools ks), oI bx9 22 [(.slice (some ⟨bx8, 0, none⟩) b.states.toNat b.states.toNat)], rowI (some ⟨bx8, 0, none⟩) b.states.toNat 3 1 (nats ns), oI bx2 26 [(.int .i64 b.vars), (.int .i64 ((cntK ks k4 : Nat) : Int)), (.slice rb1 ((renK ks b.start).length) rc1), (.slice none 0 0), (.slice tb5 k5 tc5)], oI bx1 26 (buCells b sb sc eb ec tb tc)] (itms 3 q5) rfl rfl))
    refine DO.loud rfl rfl (l_callG hk111 rfl rfl ?_)
    clear hk111
    rintro vr O' ⟨A1, rfl, rb2, rc2, rfl, rfl⟩
    refine ⟨Sub.pick0 [1, 1, 1, 1, 3, 3] [rowI rb2 rc2 3 1 (ints (renK ks b.sets[k5])), oI bx5 39 [(.slice (some ⟨bx4, 0, none⟩) b.states.toNat b.states.toNat)], rowI (some ⟨bx4, 0, none⟩) b.states.toNat 4 1 (bools ks), oI bx9 22 [(.slice (some ⟨bx8, 0, none⟩) b.states.toNat b.states.toNat)], rowI (some ⟨bx8, 0, none⟩) b.states.toNat 3 1 (nats ns), rowI tb5 tc5 22 1 (vals q5), rowI rb1 rc1 3 1 (ints (renK ks b.start)), oI bx2 26 [(.int .i64 b.vars), (.int .i64 ((cntK ks k4 : Nat) : Int)), (.slice rb1 ((renK ks b.start).length) rc1), (.slice none 0 0), (.slice tb5 k5 tc5)], oI bx1 26 (buCells b sb sc eb ec tb tc)] (itms 3 q5) rfl rfl, ?_⟩
    refine DO.loud rfl rfl (l_build1 (v := (.slice rb2 ((renK ks b.sets[k5]).length) rc2)) Try.underlying24 inf22 rfl rfl rfl (fun bx10 => ⟨Sub.pick0 [2, 2, 2, 2, 4, 4] [rowI (some ⟨bx10, 0, none⟩) 1 22 1 [(.slice rb2 ((renK ks b.sets[k5]).length) rc2)], rowI rb2 rc2 3 1 (ints (renK ks b.sets[k5])), oI bx5 39 [(.slice (some ⟨bx4, 0, none⟩) b.states.toNat b.states.toNat)], rowI (some ⟨bx4, 0, none⟩) b.states.toNat 4 1 (bools ks), oI bx9 22 [(.slice (some ⟨bx8, 0, none⟩) b.states.toNat b.states.toNat)], rowI (some ⟨bx8, 0, none⟩) b.states.toNat 3 1 (nats ns), rowI tb5 tc5 22 1 (vals q5), rowI rb1 rc1 3 1 (ints (renK ks b.start)), oI bx2 26 [(.int .i64 b.vars), (.int .i64 ((cntK ks k4 : Nat) : Int)), (.slice rb1 ((renK ks b.start).length) rc1), (.slice none 0 0), (.slice tb5 k5 tc5)], oI bx1 26 (buCells b sb sc eb ec tb tc)] (itms 3 q5) rfl rfl, ?_⟩))
    refine DO.last rfl rfl (l_append 6 Try.underlying24 Try.underlying24 inf22 rfl rfl rfl rfl (by simp [vals]; omega) (by decide) (Src.row (j := 0) rfl (by simp)) (by simp [oneB]) (by omega) (by decide) (by decide) (fun bx11 c12 => ?_))
    refine DO.last rfl rfl (LT.of_quiet rfl rfl (q_fieldAddr Try.underlying26 rfl inf24 rfl rfl) ?_)
    refine DO.last rfl rfl (l_store_box (v := (.slice bx11 (k5 + 1) c12)) (vs := [(.slice bx11 (k5 + 1) c12)]) 8 inf24 rfl rfl rfl rfl rfl rfl (by simp [putL]) ?_)
    refine DO.sub (O' := [rowI rb2 rc2 3 1 (ints (renK ks b.sets[k5])), rowI bx11 c12 22 1 ((vals q5) ++ [(.slice rb2 ((renK ks b.sets[k5]).length) rc2)]), rowI rb1 rc1 3 1 (ints (renK ks b.start)), oI bx5 39 [(.slice (some ⟨bx4, 0, none⟩) b.states.toNat b.states.toNat)], rowI (some ⟨bx4, 0, none⟩) b.states.toNat 4 1 (bools ks), oI bx9 22 [(.slice (some ⟨bx8, 0, none⟩) b.states.toNat b.states.toNat)], rowI (some ⟨bx8, 0, none⟩) b.states.toNat 3 1 (nats ns), oI bx2 26 [(.int .i64 b.vars), (.int .i64 ((cntK ks k4 : Nat) : Int)), (.slice rb1 ((renK ks b.start).length) rc1), (.slice none 0 0), (.slice bx11 (k5 + 1) c12)], oI bx1 26 (buCells b sb sc eb ec tb tc)] ++ itms 3 q5) (Sub.pickR [1, 5, 5, 1, 1, 1, 1, 1, 1] [rowI (some ⟨bx10, 0, none⟩) 1 22 1 [(.slice rb2 ((renK ks b.sets[k5]).length) rc2)], rowI rb2 rc2 3 1 (ints (renK ks b.sets[k5])), oI bx5 39 [(.slice (some ⟨bx4, 0, none⟩) b.states.toNat b.states.toNat)], rowI (some ⟨bx4, 0, none⟩) b.states.toNat 4 1 (bools ks), oI bx9 22 [(.slice (some ⟨bx8, 0, none⟩) b.states.toNat b.states.toNat)], rowI (some ⟨bx8, 0, none⟩) b.states.toNat 3 1 (nats ns), rowI bx11 c12 22 1 ((vals q5) ++ [(.slice rb2 ((renK ks b.sets[k5]).length) rc2)]), rowI rb1 rc1 3 1 (ints (renK ks b.start)), oI bx2 26 [(.int .i64 b.vars), (.int .i64 ((cntK ks k4 : Nat) : Int)), (.slice rb1 ((renK ks b.start).length) rc1), (.slice none 0 0), (.slice bx11 (k5 + 1) c12)], oI bx1 26 (buCells b sb sc eb ec tb tc)] (itms 3 q5) rfl rfl) ?_
    refine DO.sub (O' := [rowI bx11 c12 22 1 ((vals q5) ++ [(.slice rb2 ((renK ks b.sets[k5]).length) rc2)]), rowI rb1 rc1 3 1 (ints (renK ks b.start)), oI bx5 39 [(.slice (some ⟨bx4, 0, none⟩) b.states.toNat b.states.toNat)], rowI (some ⟨bx4, 0, none⟩) b.states.toNat 4 1 (bools ks), oI bx9 22 [(.slice (some ⟨bx8, 0, none⟩) b.states.toNat b.states.toNat)], rowI (some ⟨bx8, 0, none⟩) b.states.toNat 3 1 (nats ns), oI bx2 26 [(.int .i64 b.vars), (.int .i64 ((cntK ks k4 : Nat) : Int)), (.slice rb1 ((renK ks b.start).length) rc1), (.slice none 0 0), (.slice bx11 (k5 + 1) c12)], oI bx1 26 (buCells b sb sc eb ec tb tc)] ++ itms 3 (q5 ++ [⟨rb2, rc2, renK ks b.sets[k5]⟩])) (Sub.cnt [] (by intro a; simp only [itms, Rec.itm, oI, List.set_cons_zero, List.set_cons_succ, putL, List.cons_append, List.nil_append, List.append_nil, List.append_assoc, List.map_append, List.map_cons, List.map_nil, cnt_append, cnt_cons, cnt_nil, buCells, laCells] <;> omega)) ?_
    refine DO.done ?_
    refine T.region ?_
    refine TO.quiet (q_addN (a := k5) (b := 1) rfl rfl (by omega)) (TO.quiet (q_move rfl) ?_)
    refine TO.nil ?_
    exact ⟨k5 + 1, by omega, q5 ++ [⟨rb2, rc2, renK ks b.sets[k5]⟩], bx11, c12, (by simp only [vals, List.map_append, List.map_cons, List.map_nil]; rfl), by omega, (by rw [List.take_succ_eq_append_getElem hlt104, List.map_append, ← hq5]; simp [nums]), ⟨rfl, rfl, rfl, rfl, rfl, rfl, rfl, rfl, rfl, rfl, rfl, rfl, rfl, rfl, trivial⟩⟩
  have hge104 : ¬ k5 < b.sets.length := by omega
  refine T.exit ?_
  refine T.seq (T.seq (T.region ?_))
  refine TO.quiet (q_fieldAddr Try.underlying26 rfl inf23 rfl rfl) (TO.quiet (q_load_box 7 Try.underlying23 rfl rfl rfl rfl) (TO.quiet (q_len Try.underlying23 rfl) (TO.quiet (q_move rfl) ?_)))
  refine TO.nil (T.block ?_)
  refine T.nilRow 54 4 ?_
  refine T.loopS (fun (k6 : Nat) ρ O => ∃ (eb6 : Option Addr) (ec6 : Nat), O = ([rowI eb6 ec6 54 4 (edsC (edK ks (b.edges.take k6))), rowI tb5 tc5 22 1 (vals q5), rowI rb1 rc1 3 1 (ints (renK ks b.start)), oI bx5 39 [(.slice (some ⟨bx4, 0, none⟩) b.states.toNat b.states.toNat)], rowI (some ⟨bx4, 0, none⟩) b.states.toNat 4 1 (bools ks), oI bx9 22 [(.slice (some ⟨bx8, 0, none⟩) b.states.toNat b.states.toNat)], rowI (some ⟨bx8, 0, none⟩) b.states.toNat 3 1 (nats ns), oI bx2 26 [(.int .i64 b.vars), (.int .i64 ((cntK ks k4 : Nat) : Int)), (.slice rb1 ((renK ks b.start).length) rc1), (.slice eb6 ((edK ks (b.edges.take k6)).length) ec6), (.slice tb5 k5 tc5)], oI bx1 26 (buCells b sb sc eb ec tb tc)] ++ (itms 3 q5)) ∧ k6 ≤ b.edges.length ∧ Heads [(0, (.agg (buCells b sb sc eb ec tb tc).toArray)), (1, (.pointer (some ⟨bx1, 0, none⟩))), (2, (.pointer (some ⟨bx2, 0, none⟩))), (3, .int .i64 (checkB b : Int)), (4, (.pointer (some ⟨bx3, 0, none⟩))), (5, (.pointer (some ⟨bx5, 0, none⟩))), (6, (.pointer (some ⟨bx6, 0, none⟩))), (7, (.func (.func 77) #[] #[(.pointer (some ⟨bx3, 0, none⟩)), (.pointer (some ⟨bx5, 0, none⟩)), (.pointer (some ⟨bx6, 0, none⟩))])), (8, (.slice nb2 b.states.toNat nc2)), (14, (.pointer (some ⟨bx9, 0, none⟩))), (16, (.func (.func 78) #[] #[(.pointer (some ⟨bx5, 0, none⟩)), (.pointer (some ⟨bx9, 0, none⟩))])), (117, (.slice eb b.edges.length ec)), (118, .int .i64 (b.edges.length : Int)), (119, .int .i64 (k6 : Int))] ρ) (fun k6 => b.edges.length - k6) 0 ?_ ?_
  · exact ⟨none, 0, rfl, Nat.zero_le _, ⟨rfl, rfl, rfl, rfl, rfl, rfl, rfl, rfl, rfl, rfl, rfl, rfl, rfl, rfl, trivial⟩⟩
  rintro k6 ρ O ⟨eb6, ec6, rfl, hk6, hH⟩
  obtain ⟨ρ0, rfl⟩ := hH.elim
  clear hH
  refine T.seq (T.region ?_)
  refine TO.quiet (q_lss rfl rfl) ?_
  refine TO.nil (T.seq ?_)
  refine T.condP rfl (fun hc => ?_) (fun hc => ?_)
  · have hlt120 : k6 < b.edges.length := by omega
    obtain ⟨u1, hu1, hu1n⟩ : ∃ u : Nat, b.edges[k6].fr = (u : Int) ∧ u < b.states.toNat := by
      have := (hv.ed _ (List.getElem_mem hlt120)).1
      exact ⟨b.edges[k6].fr.toNat, by omega, by omega⟩
    obtain ⟨u2, hu2, hu2n⟩ : ∃ u : Nat, b.edges[k6].to = (u : Int) ∧ u < b.states.toNat := by
      have := (hv.ed _ (List.getElem_mem hlt120)).2
      exact ⟨b.edges[k6].to.toNat, by omega, by omega⟩
    have hel := edK_lenT ks b.edges k6
    refine T.skip (T.seq (T.block (T.seq (T.region ?_))))
    refine TO.quiet (q_ixK (i := k6) Try.underlying23 inf54 rfl rfl (Sl.o h.ed) (by first | assumption | omega | (simp; omega) | simp_all) (by first | (rw [eds_len]; omega) | (simp [eds_len]; omega) | (simp_all [eds_len]; omega))) (TO.quiet (q_ldK (vs := [.int .i64 b.edges[k6].fr, .int .i64 b.edges[k6].to, .int .u8 ((b.edges[k6].pos : Nat) : Int), .int .u8 ((b.edges[k6].neg : Nat) : Int)]) Try.underlying54 rfl inf54 rfl rfl (Nat.succ_pos _) (Sl.o h.ed) (eds_get (by first | assumption | omega | (simp; omega) | simp_all))) ?_)
    refine TO.loud rfl (l_alloc inf54 rfl (fun bx13 => ?_))
    refine TO.loud rfl (l_store_box (v := (.agg #[.int .i64 b.edges[k6].fr, .int .i64 b.edges[k6].to, .int .u8 ((b.edges[k6].pos : Nat) : Int), .int .u8 ((b.edges[k6].neg : Nat) : Int)])) (vs := [.int .i64 b.edges[k6].fr, .int .i64 b.edges[k6].to, .int .u8 ((b.edges[k6].pos : Nat) : Int), .int .u8 ((b.edges[k6].neg : Nat) : Int)]) 0 inf54 rfl rfl rfl rfl rfl rfl (by simp [putL]) ?_)
    refine TO.nil (T.seq (T.region ?_))
    refine TO.quiet (q_load_box 4 Try.underlying39 rfl rfl rfl rfl) (TO.quiet (q_fieldAddr Try.underlying54 rfl inf3 rfl rfl) (TO.quiet (QT.cast (q_load_box 0 Try.underlying3 rfl rfl rfl rfl) (v' := .int .i64 ((u1 : Nat) : Int)) (by show Value.int _ _ = _; rw [hu1])) (TO.quiet (q_ix (i := u1) Try.underlying39 inf4 rfl rfl (rowO (List.mem_of_getElem? (i := 5) rfl))) ?_)))
    refine TO.quiet (q_ld Try.underlying4 rfl rfl (rowO (List.mem_of_getElem? (i := 5) rfl)) bools_get) ?_
    by_cases hs128 : ks[u1] = true
    · refine TO.quiet (QT.toB (q_move rfl) (hs128)) ?_
      refine TO.guarded rfl rfl rfl (LT.of_quiet rfl rfl (q_load_box 4 Try.underlying39 rfl rfl rfl rfl) ?_)
      refine TO.guarded rfl rfl rfl (LT.of_quiet rfl rfl (q_fieldAddr Try.underlying54 rfl inf3 rfl rfl) ?_)
      refine TO.guarded rfl rfl rfl (LT.of_quiet rfl rfl (QT.cast (q_load_box 0 Try.underlying3 rfl rfl rfl rfl) (v' := .int .i64 ((u2 : Nat) : Int)) (by show Value.int _ _ = _; rw [hu2])) ?_)
      refine TO.guarded rfl rfl rfl (LT.of_quiet rfl rfl (q_ix (i := u2) Try.underlying39 inf4 rfl rfl (rowO (List.mem_of_getElem? (i := 5) rfl))) ?_)
      refine TO.guarded rfl rfl rfl (LT.of_quiet rfl rfl (q_ld Try.underlying4 rfl rfl (rowO (List.mem_of_getElem? (i := 5) rfl)) bools_get) ?_)
      refine TO.quiet (q_pick1 rfl rfl) ?_
      refine TO.nil ?_
      refine T.cond rfl (fun hc => ?_) (fun hc => ?_)
      · have hy1 : ks.getD b.edges[k6].fr.toNat false = true := by rw [hu1, Int.toNat_natCast, gb (by omega)]; assumption
        have hy2 : ks.getD b.edges[k6].to.toNat false = true := by rw [hu2, Int.toNat_natCast, gb (by omega)]; simp_all
        refine T.draws [oI bx13 54 [.int .i64 b.edges[k6].fr, .int .i64 b.edges[k6].to, .int .u8 ((b.edges[k6].pos : Nat) : Int), .int .u8 ((b.edges[k6].neg : Nat) : Int)], oI bx5 39 [(.slice (some ⟨bx4, 0, none⟩) b.states.toNat b.states.toNat)], rowI (some ⟨bx4, 0, none⟩) b.states.toNat 4 1 (bools ks), oI bx9 22 [(.slice (some ⟨bx8, 0, none⟩) b.states.toNat b.states.toNat)], rowI (some ⟨bx8, 0, none⟩) b.states.toNat 3 1 (nats ns), oI bx2 26 [(.int .i64 b.vars), (.int .i64 ((cntK ks k4 : Nat) : Int)), (.slice rb1 ((renK ks b.start).length) rc1), (.slice eb6 ((edK ks (b.edges.take k6)).length) ec6), (.slice tb5 k5 tc5)], oI bx1 26 (buCells b sb sc eb ec tb tc)] [(0, 0), (1, 0), (2, 0), (3, 0), (4, 0), (5, 0), (6, 0), (7, 0), (8, 0), (9, 0), (10, 0), (11, 0), (12, 0), (13, 0), (14, 0), (15, 0), (16, 0), (17, 1), (18, 2), (19, 2), (20, 2)] mixed (by kernel_rfl) (Sub.pick0 [0, 3, 3, 3, 3, 3, 3] [oI bx13 54 [.int .i64 b.edges[k6].fr, .int .i64 b.edges[k6].to, .int .u8 ((b.edges[k6].pos : Nat) : Int), .int .u8 ((b.edges[k6].neg : Nat) : Int)], rowI eb6 ec6 54 4 (edsC (edK ks (b.edges.take k6))), rowI tb5 tc5 22 1 (vals q5), rowI rb1 rc1 3 1 (ints (renK ks b.start)), oI bx5 39 [(.slice (some ⟨bx4, 0, none⟩) b.states.toNat b.states.toNat)], rowI (some ⟨bx4, 0, none⟩) b.states.toNat 4 1 (bools ks), oI bx9 22 [(.slice (some ⟨bx8, 0, none⟩) b.states.toNat b.states.toNat)], rowI (some ⟨bx8, 0, none⟩) b.states.toNat 3 1 (nats ns), oI bx2 26 [(.int .i64 b.vars), (.int .i64 ((cntK ks k4 : Nat) : Int)), (.slice rb1 ((renK ks b.start).length) rc1), (.slice eb6 ((edK ks (b.edges.take k6)).length) ec6), (.slice tb5 k5 tc5)], oI bx1 26 (buCells b sb sc eb ec tb tc)] (itms 3 q5) rfl rfl) (fun _ _ _ h => h) ?_
        refine DO.quiet rfl (q_fieldAddr Try.underlying26 rfl inf23 rfl rfl) (DO.quiet rfl (q_load_box 5 Try.underlying23 rfl rfl rfl rfl) (DO.quiet rfl (q_load_box 3 Try.underlying22 rfl rfl rfl rfl) (DO.quiet rfl (q_fieldAddr Try.underlying54 rfl inf3 rfl rfl) ?_)))
        refine DO.quiet rfl (QT.cast (q_load_box 0 Try.underlying3 rfl rfl rfl rfl) (v' := .int .i64 ((u1 : Nat) : Int)) (by show Value.int _ _ = _; rw [hu1])) (DO.quiet rfl (q_ix (i := u1) Try.underlying22 inf3 rfl rfl (rowO (List.mem_of_getElem? (i := 4) rfl))) (DO.quiet rfl (q_ld Try.underlying3 rfl rfl (rowO (List.mem_of_getElem? (i := 4) rfl)) (show (nats ns)[u1]? = some (.int .i64 ((cntK ks u1 : Nat) : Int)) by rw [nats_get (by omega), hNN.get (by omega) (by rw [gb (by omega)]; assumption)])) (DO.quiet rfl (q_load_box 3 Try.underlying22 rfl rfl rfl rfl) ?_)))
        refine DO.quiet rfl (q_fieldAddr Try.underlying54 rfl inf3 rfl rfl) (DO.quiet rfl (QT.cast (q_load_box 0 Try.underlying3 rfl rfl rfl rfl) (v' := .int .i64 ((u2 : Nat) : Int)) (by show Value.int _ _ = _; rw [hu2])) (DO.quiet rfl (q_ix (i := u2) Try.underlying22 inf3 rfl rfl (rowO (List.mem_of_getElem? (i := 4) rfl))) (DO.quiet rfl (q_ld Try.underlying3 rfl rfl (rowO (List.mem_of_getElem? (i := 4) rfl)) (show (nats ns)[u2]? = some (.int .i64 ((cntK ks u2 : Nat) : Int)) by rw [nats_get (by omega), hNN.get (by omega) (by rw [gb (by omega)]; simp_all)])) ?_)))
        refine DO.quiet rfl (q_fieldAddr Try.underlying54 rfl inf5 rfl rfl) (DO.quiet rfl (q_load_box 0 Try.underlying5 rfl rfl rfl rfl) (DO.quiet rfl (q_fieldAddr Try.underlying54 rfl inf5 rfl rfl) (DO.quiet rfl (q_load_box 0 Try.underlying5 rfl rfl rfl rfl) ?_)))
        refine DO.quiet rfl (q_build (cs := [.int .i64 ((cntK ks u1 : Nat) : Int), .int .i64 ((cntK ks u2 : Nat) : Int), .int .u8 ((b.edges[k6].pos : Nat) : Int), .int .u8 ((b.edges[k6].neg : Nat) : Int)]) plan54 inf54 (by kernel_rfl)) ?_
        refine DO.loud rfl rfl (l_buildSlice (m := 1) (parts := [(0, _)]) (cs := [.int .i64 ((cntK ks u1 : Nat) : Int), .int .i64 ((cntK ks u2 : Nat) : Int), .int .u8 ((b.edges[k6].pos : Nat) : Int), .int .u8 ((b.edges[k6].neg : Nat) : Int)]) Try.underlying23 inf54 (by decide) (by kernel_rfl) rfl (fun bx14 => ⟨Sub.pick0 [1, 4, 4, 4, 4, 4, 4] [rowI (some ⟨bx14, 0, none⟩) 1 54 4 [.int .i64 ((cntK ks u1 : Nat) : Int), .int .i64 ((cntK ks u2 : Nat) : Int), .int .u8 ((b.edges[k6].pos : Nat) : Int), .int .u8 ((b.edges[k6].neg : Nat) : Int)], oI bx13 54 [.int .i64 b.edges[k6].fr, .int .i64 b.edges[k6].to, .int .u8 ((b.edges[k6].pos : Nat) : Int), .int .u8 ((b.edges[k6].neg : Nat) : Int)], rowI eb6 ec6 54 4 (edsC (edK ks (b.edges.take k6))), rowI tb5 tc5 22 1 (vals q5), rowI rb1 rc1 3 1 (ints (renK ks b.start)), oI bx5 39 [(.slice (some ⟨bx4, 0, none⟩) b.states.toNat b.states.toNat)], rowI (some ⟨bx4, 0, none⟩) b.states.toNat 4 1 (bools ks), oI bx9 22 [(.slice (some ⟨bx8, 0, none⟩) b.states.toNat b.states.toNat)], rowI (some ⟨bx8, 0, none⟩) b.states.toNat 3 1 (nats ns), oI bx2 26 [(.int .i64 b.vars), (.int .i64 ((cntK ks k4 : Nat) : Int)), (.slice rb1 ((renK ks b.start).length) rc1), (.slice eb6 ((edK ks (b.edges.take k6)).length) ec6), (.slice tb5 k5 tc5)], oI bx1 26 (buCells b sb sc eb ec tb tc)] (itms 3 q5) rfl rfl, ?_⟩))
        refine DO.last rfl rfl (l_append 2 Try.underlying23 Try.underlying23 inf54 rfl rfl rfl rfl (by rw [eds_len]) (by decide) (Src.row (j := 0) rfl (by simp)) (by simp [oneB]) (by omega) (by decide) (by decide) (fun bx15 c16 => ?_))
        refine DO.last rfl rfl (LT.of_quiet rfl rfl (q_fieldAddr Try.underlying26 rfl inf23 rfl rfl) ?_)
        refine DO.last rfl rfl (l_store_box (v := (.slice bx15 (((edK ks (b.edges.take k6)).length) + 1) c16)) (vs := [(.slice bx15 (((edK ks (b.edges.take k6)).length) + 1) c16)]) 9 inf23 rfl rfl rfl rfl rfl rfl (by simp [putL]) ?_)
        
        refine DO.done ?_
        refine T.region ?_
        refine TO.quiet (q_addN (a := k6) (b := 1) rfl rfl (by omega)) (TO.quiet (q_move rfl) ?_)
        refine TO.nil ?_
        refine ⟨k6 + 1, by omega, ([rowI bx15 c16 54 4 ((edsC (edK ks (b.edges.take k6))) ++ [.int .i64 ((cntK ks u1 : Nat) : Int), .int .i64 ((cntK ks u2 : Nat) : Int), .int .u8 ((b.edges[k6].pos : Nat) : Int), .int .u8 ((b.edges[k6].neg : Nat) : Int)]), rowI tb5 tc5 22 1 (vals q5), rowI rb1 rc1 3 1 (ints (renK ks b.start)), oI bx5 39 [(.slice (some ⟨bx4, 0, none⟩) b.states.toNat b.states.toNat)], rowI (some ⟨bx4, 0, none⟩) b.states.toNat 4 1 (bools ks), oI bx9 22 [(.slice (some ⟨bx8, 0, none⟩) b.states.toNat b.states.toNat)], rowI (some ⟨bx8, 0, none⟩) b.states.toNat 3 1 (nats ns), oI bx2 26 [(.int .i64 b.vars), (.int .i64 ((cntK ks k4 : Nat) : Int)), (.slice rb1 ((renK ks b.start).length) rc1), (.slice bx15 (((edK ks (b.edges.take k6)).length) + 1) c16), (.slice tb5 k5 tc5)], oI bx1 26 (buCells b sb sc eb ec tb tc)] ++ (itms 3 q5)), (Sub.pickR [2, 2, 2, 2, 2, 2, 2, 2, 2] [rowI (some ⟨bx14, 0, none⟩) 1 54 4 [.int .i64 ((cntK ks u1 : Nat) : Int), .int .i64 ((cntK ks u2 : Nat) : Int), .int .u8 ((b.edges[k6].pos : Nat) : Int), .int .u8 ((b.edges[k6].neg : Nat) : Int)], oI bx13 54 [.int .i64 b.edges[k6].fr, .int .i64 b.edges[k6].to, .int .u8 ((b.edges[k6].pos : Nat) : Int), .int .u8 ((b.edges[k6].neg : Nat) : Int)], rowI bx15 c16 54 4 ((edsC (edK ks (b.edges.take k6))) ++ [.int .i64 ((cntK ks u1 : Nat) : Int), .int .i64 ((cntK ks u2 : Nat) : Int), .int .u8 ((b.edges[k6].pos : Nat) : Int), .int .u8 ((b.edges[k6].neg : Nat) : Int)]), rowI tb5 tc5 22 1 (vals q5), rowI rb1 rc1 3 1 (ints (renK ks b.start)), oI bx5 39 [(.slice (some ⟨bx4, 0, none⟩) b.states.toNat b.states.toNat)], rowI (some ⟨bx4, 0, none⟩) b.states.toNat 4 1 (bools ks), oI bx9 22 [(.slice (some ⟨bx8, 0, none⟩) b.states.toNat b.states.toNat)], rowI (some ⟨bx8, 0, none⟩) b.states.toNat 3 1 (nats ns), oI bx2 26 [(.int .i64 b.vars), (.int .i64 ((cntK ks k4 : Nat) : Int)), (.slice rb1 ((renK ks b.start).length) rc1), (.slice bx15 (((edK ks (b.edges.take k6)).length) + 1) c16), (.slice tb5 k5 tc5)], oI bx1 26 (buCells b sb sc eb ec tb tc)] (itms 3 q5) rfl rfl), bx15, c16, ?_, by omega, ⟨rfl, rfl, rfl, rfl, rfl, rfl, rfl, rfl, rfl, rfl, rfl, rfl, rfl, rfl, trivial⟩⟩
        rw [edK_yes hlt120 hy1 hy2, eds_append, List.length_append]; simp only [renE, hu1, hu2, Int.toNat_natCast]; rfl
      refine T.skip (T.region ?_)
      refine TO.quiet (q_addN (a := k6) (b := 1) rfl rfl (by omega)) (TO.quiet (q_move rfl) ?_)
      refine TO.nil ?_
      refine ⟨k6 + 1, by omega, ([rowI eb6 ec6 54 4 (edsC (edK ks (b.edges.take k6))), rowI tb5 tc5 22 1 (vals q5), rowI rb1 rc1 3 1 (ints (renK ks b.start)), oI bx5 39 [(.slice (some ⟨bx4, 0, none⟩) b.states.toNat b.states.toNat)], rowI (some ⟨bx4, 0, none⟩) b.states.toNat 4 1 (bools ks), oI bx9 22 [(.slice (some ⟨bx8, 0, none⟩) b.states.toNat b.states.toNat)], rowI (some ⟨bx8, 0, none⟩) b.states.toNat 3 1 (nats ns), oI bx2 26 [(.int .i64 b.vars), (.int .i64 ((cntK ks k4 : Nat) : Int)), (.slice rb1 ((renK ks b.start).length) rc1), (.slice eb6 ((edK ks (b.edges.take k6)).length) ec6), (.slice tb5 k5 tc5)], oI bx1 26 (buCells b sb sc eb ec tb tc)] ++ (itms 3 q5)), (Sub.pickR [1, 1, 1, 1, 1, 1, 1, 1, 1] [oI bx13 54 [.int .i64 b.edges[k6].fr, .int .i64 b.edges[k6].to, .int .u8 ((b.edges[k6].pos : Nat) : Int), .int .u8 ((b.edges[k6].neg : Nat) : Int)], rowI eb6 ec6 54 4 (edsC (edK ks (b.edges.take k6))), rowI tb5 tc5 22 1 (vals q5), rowI rb1 rc1 3 1 (ints (renK ks b.start)), oI bx5 39 [(.slice (some ⟨bx4, 0, none⟩) b.states.toNat b.states.toNat)], rowI (some ⟨bx4, 0, none⟩) b.states.toNat 4 1 (bools ks), oI bx9 22 [(.slice (some ⟨bx8, 0, none⟩) b.states.toNat b.states.toNat)], rowI (some ⟨bx8, 0, none⟩) b.states.toNat 3 1 (nats ns), oI bx2 26 [(.int .i64 b.vars), (.int .i64 ((cntK ks k4 : Nat) : Int)), (.slice rb1 ((renK ks b.start).length) rc1), (.slice eb6 ((edK ks (b.edges.take k6)).length) ec6), (.slice tb5 k5 tc5)], oI bx1 26 (buCells b sb sc eb ec tb tc)] (itms 3 q5) rfl rfl), eb6, ec6, ?_, by omega, ⟨rfl, rfl, rfl, rfl, rfl, rfl, rfl, rfl, rfl, rfl, rfl, rfl, rfl, rfl, trivial⟩⟩
      rw [edK_no hlt120 (by rw [hu1, hu2, Int.toNat_natCast, Int.toNat_natCast, gb (by omega), gb (by omega)]; simp_all)]
    refine TO.quiet (QT.toB (q_move rfl) (Bool.eq_false_iff.2 hs128)) ?_
    refine TO.passed rfl rfl ?_
    refine TO.passed rfl rfl ?_
    refine TO.passed rfl rfl ?_
    refine TO.passed rfl rfl ?_
    refine TO.passed rfl rfl ?_
    refine TO.quiet (q_pick0 rfl rfl) ?_
    refine TO.nil ?_
    refine T.cond0 rfl ?_
    refine T.skip (T.region ?_)
    refine TO.quiet (q_addN (a := k6) (b := 1) rfl rfl (by omega)) (TO.quiet (q_move rfl) ?_)
    refine TO.nil ?_
    refine ⟨k6 + 1, by omega, ([rowI eb6 ec6 54 4 (edsC (edK ks (b.edges.take k6))), rowI tb5 tc5 22 1 (vals q5), rowI rb1 rc1 3 1 (ints (renK ks b.start)), oI bx5 39 [(.slice (some ⟨bx4, 0, none⟩) b.states.toNat b.states.toNat)], rowI (some ⟨bx4, 0, none⟩) b.states.toNat 4 1 (bools ks), oI bx9 22 [(.slice (some ⟨bx8, 0, none⟩) b.states.toNat b.states.toNat)], rowI (some ⟨bx8, 0, none⟩) b.states.toNat 3 1 (nats ns), oI bx2 26 [(.int .i64 b.vars), (.int .i64 ((cntK ks k4 : Nat) : Int)), (.slice rb1 ((renK ks b.start).length) rc1), (.slice eb6 ((edK ks (b.edges.take k6)).length) ec6), (.slice tb5 k5 tc5)], oI bx1 26 (buCells b sb sc eb ec tb tc)] ++ (itms 3 q5)), (Sub.pickR [1, 1, 1, 1, 1, 1, 1, 1, 1] [oI bx13 54 [.int .i64 b.edges[k6].fr, .int .i64 b.edges[k6].to, .int .u8 ((b.edges[k6].pos : Nat) : Int), .int .u8 ((b.edges[k6].neg : Nat) : Int)], rowI eb6 ec6 54 4 (edsC (edK ks (b.edges.take k6))), rowI tb5 tc5 22 1 (vals q5), rowI rb1 rc1 3 1 (ints (renK ks b.start)), oI bx5 39 [(.slice (some ⟨bx4, 0, none⟩) b.states.toNat b.states.toNat)], rowI (some ⟨bx4, 0, none⟩) b.states.toNat 4 1 (bools ks), oI bx9 22 [(.slice (some ⟨bx8, 0, none⟩) b.states.toNat b.states.toNat)], rowI (some ⟨bx8, 0, none⟩) b.states.toNat 3 1 (nats ns), oI bx2 26 [(.int .i64 b.vars), (.int .i64 ((cntK ks k4 : Nat) : Int)), (.slice rb1 ((renK ks b.start).length) rc1), (.slice eb6 ((edK ks (b.edges.take k6)).length) ec6), (.slice tb5 k5 tc5)], oI bx1 26 (buCells b sb sc eb ec tb tc)] (itms 3 q5) rfl rfl), eb6, ec6, ?_, by omega, ⟨rfl, rfl, rfl, rfl, rfl, rfl, rfl, rfl, rfl, rfl, rfl, rfl, rfl, rfl, trivial⟩⟩
    rw [edK_no hlt120 (by rw [hu1, hu2, Int.toNat_natCast, Int.toNat_natCast, gb (by omega), gb (by omega)]; simp_all)]
  have hge120 : ¬ k6 < b.edges.length := by omega
  refine T.exit ?_
  refine T.seq (T.region ?_)
  refine TO.quiet (q_load_boxAgg 7 Try.underlying26 rfl inf26 rfl rfl rfl) ?_
  refine TO.loud rfl (l_store_box (v := (.agg #[(.int .i64 b.vars), (.int .i64 ((cntK ks k4 : Nat) : Int)), (.slice rb1 ((renK ks b.start).length) rc1), (.slice eb6 ((edK ks (b.edges.take k6)).length) ec6), (.slice tb5 k5 tc5)])) (vs := [(.int .i64 b.vars), (.int .i64 ((cntK ks k4 : Nat) : Int)), (.slice rb1 ((renK ks b.start).length) rc1), (.slice eb6 ((edK ks (b.edges.take k6)).length) ec6), (.slice tb5 k5 tc5)]) 7 inf26 rfl rfl rfl rfl rfl rfl (by simp [putL]) ?_)
  refine TO.quiet (q_assign rfl) ?_
  refine TO.nil (T.ret (Res.drop ?_))
  refine Res.cell1b (.int .i64 0) (i := 7) Try.results28 Try.underlying26 rfl inf26 rfl rfl rfl rfl ?_
  have hk5e : k5 = b.sets.length := by omega
  have hk6e : b.edges.take k6 = b.edges := List.take_of_length_le (by omega)
  have hset : nums q5 = b.sets.map (renK ks) := by rw [hq5, hk5e, List.take_length]
  have hct : cntK ks k4 = ks.count true := cntK_all (by omega)
  have htr : trimB b = trimWith b ks := by unfold trimB; rw [if_pos he, hkeep]
  refine ⟨[rowI rb1 rc1 3 1 (ints (renK ks b.start)), rowI eb6 ec6 54 4 (edsC (edK ks (b.edges.take k6))), rowI tb5 tc5 22 1 (vals q5)] ++ itms 3 q5, Sub.cnt [oI bx5 39 [(.slice (some ⟨bx4, 0, none⟩) b.states.toNat b.states.toNat)], rowI (some ⟨bx4, 0, none⟩) b.states.toNat 4 1 (bools ks), oI bx9 22 [(.slice (some ⟨bx8, 0, none⟩) b.states.toNat b.states.toNat)], rowI (some ⟨bx8, 0, none⟩) b.states.toNat 3 1 (nats ns), oI bx2 26 [(.int .i64 b.vars), (.int .i64 ((cntK ks k4 : Nat) : Int)), (.slice rb1 ((renK ks b.start).length) rc1), (.slice eb6 ((edK ks (b.edges.take k6)).length) ec6), (.slice tb5 k5 tc5)], oI bx1 26 (buCells b sb sc eb ec tb tc)] (by intro a; simp only [itms, oI, List.set_cons_zero, List.set_cons_succ, putL, List.cons_append, List.nil_append, List.append_nil, List.append_assoc, List.map_append, List.map_cons, List.map_nil, cnt_append, cnt_cons, cnt_nil, buCells, laCells] <;> omega), rb1, eb6, tb5, rc1, ec6, tc5, q5, ?_, ?_, ?_⟩
  · rw [htr, hct, hk6e, hk5e, he]; simp [trimWith, putL, buCells]
  · rw [htr, hk6e]; rfl
  · rw [htr]; exact hset
end Go.Proofs.Ytnamoapbienooaa


namespace Go.Proofs.Ytnamoapbienooaa
open Go.Lx Go.RowKit
set_option linter.unusedVariables false
set_option linter.unusedSimpArgs false
set_option maxHeartbeats 1000000 in
set_option maxRecDepth 20000 in
theorem startLive (base : World) (b1 b2 : Nat) (lb : Option Addr) (lc L : Nat) (ls : List Bool) (s : Int) (h0 : 0 ≤ s) (hs : s.toNat * L < ls.length) (hb : ls.length ≤ 1000000) :
    CallT Try.prog base 57 [.int .i64 s, .pointer (some ⟨b1, 0, none⟩), .pointer (some ⟨b2, 0, none⟩)] [oI b1 39 [(.slice lb ls.length lc)], oI b2 3 [(.int .i64 ((L : Nat) : Int))], rowI lb lc 4 1 (bools ls)] (fun v O' => v = .bool (ls.getD (s.toNat * L) false) ∧ O' = [oI b1 39 [(.slice lb ls.length lc)], oI b2 3 [(.int .i64 ((L : Nat) : Int))], rowI lb lc 4 1 (bools ls)]) := by
  refine CallT.enter Try.func57 rfl Try.ntmps57 rfl ?_
  refine T.seq (T.region ?_)
  refine TO.quiet (q_assign rfl) ?_
  refine TO.nil (T.seq (T.region ?_))
  refine TO.quiet (q_load_box 0 Try.underlying39 rfl rfl rfl rfl) (TO.quiet (QT.cast (q_move rfl) (v' := .int .i64 ((s.toNat : Nat) : Int)) (by show Value.int _ s = _; rw [Int.toNat_of_nonneg h0])) (TO.quiet (q_load_box 1 Try.underlying3 rfl rfl rfl rfl) (TO.quiet (q_mulN (a := s.toNat) (b := L) rfl rfl (by omega)) ?_)))
  refine TO.quiet (q_ix (i := (s.toNat * L)) Try.underlying39 inf4 rfl rfl (rowO (List.mem_of_getElem? (i := 2) rfl))) (TO.quiet (q_ld Try.underlying4 rfl rfl (rowO (List.mem_of_getElem? (i := 2) rfl)) bools_get) (TO.quiet (q_assign rfl) ?_))
  refine TO.nil (T.ret ?_)
  refine Res.one (.bool ls[s.toNat * L]) Try.results57 rfl ?_
  exact ⟨by rw [gb hs], rfl⟩
set_option maxHeartbeats 4000000 in
set_option maxRecDepth 20000 in
theorem acceptsF (w : World) (b : Bu) (sb eb tb : Option Addr) (sc ec tc : Nat) (vs : List Value) (h : BuAt w b sb eb tb vs) (hB : BuB b) (l : La) (pb lb : Option Addr) (pc lc : Nat) (h2 : LaAt w l pb lb pc lc) (hL : LaB l) (hE : b.edges.length ≤ 5000) :
    PureT Try.prog 17 [.agg (buCells b sb sc eb ec tb tc).toArray, .agg (laCells l pb pc lb lc).toArray] w fun v N => v = .tuple #[.bool (accV b l), .int .i64 (accE b l : Int)] ∧ N = [] := by
  refine CallT.enter Try.func17 rfl Try.ntmps17 rfl ?_
  have hst := hB.st; have hed := hB.ed; have hse := hB.se; have hpl := hL.pre; have hll0 := hL.loop
  refine T.seq (T.region ?_)
  refine TO.loud rfl (l_box (v := (.agg (buCells b sb sc eb ec tb tc).toArray)) (cs := (buCells b sb sc eb ec tb tc)) rfl rfl (fun bx1 => ?_))
  refine TO.loud rfl (l_box (v := (.agg (laCells l pb pc lb lc).toArray)) (cs := (laCells l pb pc lb lc)) rfl rfl (fun bx2 => ?_))
  refine TO.quiet (q_assign rfl) (TO.quiet (q_assign rfl) ?_)
  refine TO.nil (T.seq (T.seq (T.region ?_)))
  refine TO.quiet (q_load_boxAgg 1 Try.underlying26 rfl inf26 rfl rfl rfl) ?_
  have hk19 := fun (w1 : World) (hI : Inv w [oI bx2 29 (laCells l pb pc lb lc), oI bx1 26 (buCells b sb sc eb ec tb tc)] w1) => checkF w1 b sb eb tb sc ec tc vs (hI.bu h) hB
  refine TO.loud rfl (l_call ent21 (CallT.of_pure hk19) rfl ?_)
  clear hk19
  rintro vr O' ⟨N, rfl, rfl, rfl⟩
  refine TO.quiet (q_assign rfl) ?_
  refine TO.nil (T.seq (T.region ?_))
  refine TO.quiet (q_move rfl) (TO.quiet (q_neq rfl rfl) ?_)
  refine TO.nil ?_
  refine T.condP rfl (fun hc => ?_) (fun hc => ?_)
  · have hlt21 : checkB b ≠ 0 := by omega
    refine T.seq (T.region ?_)
    refine TO.quiet (q_move rfl) (TO.quiet (q_assign rfl) (TO.quiet (q_assign rfl) ?_))
    refine TO.nil (T.ret (Res.drop ?_))
    refine Res.two (.bool false) (.int .i64 (checkB b : Int)) Try.results17 rfl rfl ?_
    exact ⟨[], Sub.of (List.nil_sublist _), by unfold accV accE; rw [if_neg (by omega), if_neg (by omega)], rfl⟩
  have hge21 : ¬ checkB b ≠ 0 := by omega
  refine T.skip (T.seq (T.seq (T.region ?_)))
  refine TO.quiet (q_load_boxAgg 0 Try.underlying29 rfl inf29 rfl rfl rfl) (TO.quiet (q_fieldAddr Try.underlying26 rfl inf3 rfl rfl) (TO.quiet (q_load_box 1 Try.underlying3 rfl rfl rfl rfl) ?_))
  have hk26 := fun (w1 : World) (hI : Inv w [oI bx2 29 (laCells l pb pc lb lc), oI bx1 26 (buCells b sb sc eb ec tb tc)] w1) => lassoCheckF w1 l pb lb pc lc (hI.la h2) hL b.vars
  refine TO.loud rfl (l_call ent51 (CallT.of_pure hk26) rfl ?_)
  clear hk26
  rintro vr O' ⟨N, rfl, rfl, rfl⟩
  refine TO.quiet (q_assign rfl) ?_
  refine TO.nil (T.seq (T.region ?_))
  refine TO.quiet (q_move rfl) (TO.quiet (q_neq rfl rfl) ?_)
  refine TO.nil ?_
  refine T.condP rfl (fun hc => ?_) (fun hc => ?_)
  · have hlt28 : checkLV b.vars l ≠ 0 := by omega
    refine T.seq (T.region ?_)
    refine TO.quiet (q_move rfl) (TO.quiet (q_assign rfl) (TO.quiet (q_assign rfl) ?_))
    refine TO.nil (T.ret (Res.drop ?_))
    refine Res.two (.bool false) (.int .i64 (checkLV b.vars l : Int)) Try.results17 rfl rfl ?_
    exact ⟨[], Sub.of (List.nil_sublist _), by unfold accV accE; rw [if_neg (by omega), if_pos (by omega)], rfl⟩
  have hge28 : ¬ checkLV b.vars l ≠ 0 := by omega
  refine T.skip (T.seq ?_)
  have he0 : checkB b = 0 := by omega
  have hel0 : checkLV b.vars l = 0 := by omega
  have hv : ValidB b := checkB_zero.1 he0
  have hv0 := hv.n0; have hv4 := hv.n4; have hm8 := hv.m8
  obtain ⟨hl0, hp64, hl64, _, _, hpv, hlv0⟩ := checkL_loop hel0
  obtain ⟨n, hn⟩ : ∃ n : Nat, b.states = (n : Int) := ⟨b.states.toNat, by omega⟩
  have hnn : b.states.toNat = n := by omega
  have hln : l.n = l.pre.length + l.loop.length := rfl
  have hL0 : 0 < l.n := by omega
  have hSL : n * l.n ≤ 524288 := Nat.mul_le_mul (show n ≤ 4096 by omega) (show l.n ≤ 128 by omega)
  have hSL2 : n * l.n ≤ 9223372036854775807 := by omega
  refine T.region ?_
  refine TO.quiet (q_fieldAddr Try.underlying29 rfl inf27 rfl rfl) (TO.quiet (q_load_box 0 Try.underlying27 rfl rfl rfl rfl) (TO.quiet (q_len Try.underlying27 rfl) (TO.quiet (q_fieldAddr Try.underlying29 rfl inf27 rfl rfl) ?_)))
  refine TO.quiet (q_load_box 0 Try.underlying27 rfl rfl rfl rfl) (TO.quiet (q_len Try.underlying27 rfl) (TO.quiet (q_addN (a := l.pre.length) (b := l.loop.length) rfl rfl (by omega)) ?_))
  refine TO.loud rfl (l_alloc inf3 rfl (fun bx3 => ?_))
  refine TO.loud rfl (l_store_box (v := .int .i64 ((l.n : Nat) : Int)) (vs := [(.int .i64 ((l.n : Nat) : Int))]) 0 inf3 rfl rfl rfl rfl rfl rfl (by simp [putL]) ?_)
  refine TO.nil ?_
  refine T.cut (fun ρ O => ∃ (zN zM zG : Nat), O = [oI zG 79 [(.slice (some ⟨zN, 0, none⟩) (n * l.n) (n * l.n)), (.slice (some ⟨zM, 0, none⟩) (n * l.n) (n * l.n)), .int .u64 ((2 ^ b.sets.length - 1 : Nat) : Int)], rowI (some ⟨zN, 0, none⟩) (n * l.n) 22 1 (List.replicate (n * l.n) (.slice none 0 0)), rowI (some ⟨zM, 0, none⟩) (n * l.n) 52 1 (List.replicate (n * l.n) (.int .u64 0)), oI bx3 3 [(.int .i64 ((l.n : Nat) : Int))], oI bx2 29 (laCells l pb pc lb lc), oI bx1 26 (buCells b sb sc eb ec tb tc)] ∧ Heads [(0, (.agg (buCells b sb sc eb ec tb tc).toArray)), (1, (.agg (laCells l pb pc lb lc).toArray)), (2, (.pointer (some ⟨bx1, 0, none⟩))), (3, (.pointer (some ⟨bx2, 0, none⟩))), (4, .bool false), (5, .int .i64 0), (6, .int .i64 (checkB b : Int)), (7, .int .i64 (checkLV b.vars l : Int)), (8, (.pointer (some ⟨bx3, 0, none⟩))), (9, (.pointer (some ⟨zG, 0, none⟩)))] ρ) ?_ ?_
  · refine T.tree [oI bx3 3 [(.int .i64 ((l.n : Nat) : Int))], oI bx1 26 (buCells b sb sc eb ec tb tc)] 18 mixed rfl (Sub.pick [0, 1] rfl) (fun _ _ _ h => h) ?_
    refine RO.quietT 0 rfl (by kernel_rfl) (q_fieldAddr Try.underlying26 rfl inf3 rfl rfl) ?_
    refine RO.quietT 1 rfl (by kernel_rfl) (QT.cast (q_load_box 1 Try.underlying3 rfl rfl rfl rfl) (v' := .int .i64 ((n : Nat) : Int)) (by show Value.int _ b.states = _; rw [hn])) ?_
    refine RO.quietT 2 rfl (by kernel_rfl) (q_load_box 0 Try.underlying3 rfl rfl rfl rfl) ?_
    refine RO.quietT 3 rfl (by kernel_rfl) (q_mulN (a := n) (b := l.n) rfl rfl hSL2) ?_
    refine RO.quietT 5 rfl (by kernel_rfl) (q_fieldAddr Try.underlying26 rfl inf3 rfl rfl) ?_
    refine RO.quietT 6 rfl (by kernel_rfl) (QT.cast (q_load_box 1 Try.underlying3 rfl rfl rfl rfl) (v' := .int .i64 ((n : Nat) : Int)) (by show Value.int _ b.states = _; rw [hn])) ?_
    refine RO.quietT 7 rfl (by kernel_rfl) (q_load_box 0 Try.underlying3 rfl rfl rfl rfl) ?_
    refine RO.quietT 8 rfl (by kernel_rfl) (q_mulN (a := n) (b := l.n) rfl rfl hSL2) ?_
    refine RO.quietT 10 rfl (by kernel_rfl) (q_fieldAddr Try.underlying26 rfl inf24 rfl rfl) ?_
    refine RO.quietT 11 rfl (by kernel_rfl) (q_load_box 1 Try.underlying24 rfl rfl rfl rfl) ?_
    refine RO.quietT 12 rfl (by kernel_rfl) (q_len Try.underlying24 rfl) ?_
    refine RO.quietT 13 rfl (by kernel_rfl) (QT.cast (q_shlU (a := 1) (b := b.sets.length) .u64 rfl rfl (by show _ ≤ 64; omega) (by show _ < 2 ^ 64; rw [Nat.one_mul]; exact Nat.pow_lt_pow_right (by omega) (by omega))) (v' := .int .u64 ((2 ^ b.sets.length : Nat) : Int)) (by rw [Nat.one_mul])) ?_
    refine RO.quietT 14 rfl (by kernel_rfl) (q_subU (a := (2 ^ b.sets.length)) (b := 1) .u64 rfl rfl (by show _ < 2 ^ 64; exact Nat.pow_lt_pow_right (by omega) (by omega)) Nat.one_le_two_pow) ?_
    refine RO.fork [4, 9, 16] (by kernel_rfl) rfl ⟨⟨_, rfl, rfl, l_makeSlice (m := n * l.n) Try.underlying24 inf22 rfl rfl (by omega) (by omega) (fun zN => ⟨Sub.pick [1, 2] rfl, ?_⟩)⟩, ⟨_, rfl, rfl, l_makeSlice (m := n * l.n) Try.underlying77 inf52 rfl rfl (by omega) (by omega) (fun zM => ⟨Sub.pick [1, 2] rfl, ?_⟩)⟩, ⟨_, rfl, rfl, l_alloc inf79 rfl (fun zG => ⟨Sub.pick [1, 2] rfl, ?_⟩)⟩, trivial⟩
    · refine RO.fork [9, 16] (by kernel_rfl) rfl ⟨⟨_, rfl, rfl, l_makeSlice (m := n * l.n) Try.underlying77 inf52 rfl rfl (by omega) (by omega) (fun zM => ⟨Sub.pick [2, 3] rfl, ?_⟩)⟩, ⟨_, rfl, rfl, l_alloc inf79 rfl (fun zG => ⟨Sub.pick [2, 3] rfl, ?_⟩)⟩, trivial⟩
      · refine RO.quietT 15 rfl (by kernel_rfl) (q_build (cs := [(.slice (some ⟨zN, 0, none⟩) (n * l.n) (n * l.n)), (.slice (some ⟨zM, 0, none⟩) (n * l.n) (n * l.n)), .int .u64 ((2 ^ b.sets.length - 1 : Nat) : Int)]) plan79 inf79 (by kernel_rfl)) ?_
        refine RO.fork [16] (by kernel_rfl) rfl ⟨⟨_, rfl, rfl, l_alloc inf79 rfl (fun zG => ⟨Sub.pick [3, 4] rfl, ?_⟩)⟩, trivial⟩
        refine RO.fork [17] (by kernel_rfl) rfl ⟨⟨_, rfl, rfl, l_store_box (v := (.agg #[(.slice (some ⟨zN, 0, none⟩) (n * l.n) (n * l.n)), (.slice (some ⟨zM, 0, none⟩) (n * l.n) (n * l.n)), .int .u64 ((2 ^ b.sets.length - 1 : Nat) : Int)])) (vs := [(.slice (some ⟨zN, 0, none⟩) (n * l.n) (n * l.n)), (.slice (some ⟨zM, 0, none⟩) (n * l.n) (n * l.n)), .int .u64 ((2 ^ b.sets.length - 1 : Nat) : Int)]) 0 inf79 rfl rfl rfl rfl rfl rfl (by simp [putL]) ⟨Sub.pick [3, 4] rfl, ?_⟩⟩, trivial⟩
        exact RO.fin (by kernel_rfl) ⟨zN, zM, zG, rfl, ⟨rfl, rfl, rfl, rfl, rfl, rfl, rfl, rfl, rfl, rfl, trivial⟩⟩ (Sub.pick [0, 1, 0, 0, 0, 0] rfl)
      refine RO.fork [9] (by kernel_rfl) rfl ⟨⟨_, rfl, rfl, l_makeSlice (m := n * l.n) Try.underlying77 inf52 rfl rfl (by omega) (by omega) (fun zM => ⟨Sub.pick [3, 4] rfl, ?_⟩)⟩, trivial⟩
      refine RO.quietT 15 rfl (by kernel_rfl) (q_build (cs := [(.slice (some ⟨zN, 0, none⟩) (n * l.n) (n * l.n)), (.slice (some ⟨zM, 0, none⟩) (n * l.n) (n * l.n)), .int .u64 ((2 ^ b.sets.length - 1 : Nat) : Int)]) plan79 inf79 (by kernel_rfl)) ?_
      refine RO.fork [17] (by kernel_rfl) rfl ⟨⟨_, rfl, rfl, l_store_box (v := (.agg #[(.slice (some ⟨zN, 0, none⟩) (n * l.n) (n * l.n)), (.slice (some ⟨zM, 0, none⟩) (n * l.n) (n * l.n)), .int .u64 ((2 ^ b.sets.length - 1 : Nat) : Int)])) (vs := [(.slice (some ⟨zN, 0, none⟩) (n * l.n) (n * l.n)), (.slice (some ⟨zM, 0, none⟩) (n * l.n) (n * l.n)), .int .u64 ((2 ^ b.sets.length - 1 : Nat) : Int)]) 1 inf79 rfl rfl rfl rfl rfl rfl (by simp [putL]) ⟨Sub.pick [3, 4] rfl, ?_⟩⟩, trivial⟩
      exact RO.fin (by kernel_rfl) ⟨zN, zM, zG, rfl, ⟨rfl, rfl, rfl, rfl, rfl, rfl, rfl, rfl, rfl, rfl, trivial⟩⟩ (Sub.pick [1, 1, 0, 0, 0, 0] rfl)
    · refine RO.fork [4, 16] (by kernel_rfl) rfl ⟨⟨_, rfl, rfl, l_makeSlice (m := n * l.n) Try.underlying24 inf22 rfl rfl (by omega) (by omega) (fun zN => ⟨Sub.pick [2, 3] rfl, ?_⟩)⟩, ⟨_, rfl, rfl, l_alloc inf79 rfl (fun zG => ⟨Sub.pick [2, 3] rfl, ?_⟩)⟩, trivial⟩
      · refine RO.quietT 15 rfl (by kernel_rfl) (q_build (cs := [(.slice (some ⟨zN, 0, none⟩) (n * l.n) (n * l.n)), (.slice (some ⟨zM, 0, none⟩) (n * l.n) (n * l.n)), .int .u64 ((2 ^ b.sets.length - 1 : Nat) : Int)]) plan79 inf79 (by kernel_rfl)) ?_
        refine RO.fork [16] (by kernel_rfl) rfl ⟨⟨_, rfl, rfl, l_alloc inf79 rfl (fun zG => ⟨Sub.pick [3, 4] rfl, ?_⟩)⟩, trivial⟩
        refine RO.fork [17] (by kernel_rfl) rfl ⟨⟨_, rfl, rfl, l_store_box (v := (.agg #[(.slice (some ⟨zN, 0, none⟩) (n * l.n) (n * l.n)), (.slice (some ⟨zM, 0, none⟩) (n * l.n) (n * l.n)), .int .u64 ((2 ^ b.sets.length - 1 : Nat) : Int)])) (vs := [(.slice (some ⟨zN, 0, none⟩) (n * l.n) (n * l.n)), (.slice (some ⟨zM, 0, none⟩) (n * l.n) (n * l.n)), .int .u64 ((2 ^ b.sets.length - 1 : Nat) : Int)]) 0 inf79 rfl rfl rfl rfl rfl rfl (by simp [putL]) ⟨Sub.pick [3, 4] rfl, ?_⟩⟩, trivial⟩
        exact RO.fin (by kernel_rfl) ⟨zN, zM, zG, rfl, ⟨rfl, rfl, rfl, rfl, rfl, rfl, rfl, rfl, rfl, rfl, trivial⟩⟩ (Sub.pick [0, 0, 0, 0, 0, 0] rfl)
      refine RO.fork [4] (by kernel_rfl) rfl ⟨⟨_, rfl, rfl, l_makeSlice (m := n * l.n) Try.underlying24 inf22 rfl rfl (by omega) (by omega) (fun zN => ⟨Sub.pick [3, 4] rfl, ?_⟩)⟩, trivial⟩
      refine RO.quietT 15 rfl (by kernel_rfl) (q_build (cs := [(.slice (some ⟨zN, 0, none⟩) (n * l.n) (n * l.n)), (.slice (some ⟨zM, 0, none⟩) (n * l.n) (n * l.n)), .int .u64 ((2 ^ b.sets.length - 1 : Nat) : Int)]) plan79 inf79 (by kernel_rfl)) ?_
      refine RO.fork [17] (by kernel_rfl) rfl ⟨⟨_, rfl, rfl, l_store_box (v := (.agg #[(.slice (some ⟨zN, 0, none⟩) (n * l.n) (n * l.n)), (.slice (some ⟨zM, 0, none⟩) (n * l.n) (n * l.n)), .int .u64 ((2 ^ b.sets.length - 1 : Nat) : Int)])) (vs := [(.slice (some ⟨zN, 0, none⟩) (n * l.n) (n * l.n)), (.slice (some ⟨zM, 0, none⟩) (n * l.n) (n * l.n)), .int .u64 ((2 ^ b.sets.length - 1 : Nat) : Int)]) 1 inf79 rfl rfl rfl rfl rfl rfl (by simp [putL]) ⟨Sub.pick [3, 4] rfl, ?_⟩⟩, trivial⟩
      exact RO.fin (by kernel_rfl) ⟨zN, zM, zG, rfl, ⟨rfl, rfl, rfl, rfl, rfl, rfl, rfl, rfl, rfl, rfl, trivial⟩⟩ (Sub.pick [1, 0, 0, 0, 0, 0] rfl)
    refine RO.fork [4, 9] (by kernel_rfl) rfl ⟨⟨_, rfl, rfl, l_makeSlice (m := n * l.n) Try.underlying24 inf22 rfl rfl (by omega) (by omega) (fun zN => ⟨Sub.pick [2, 3] rfl, ?_⟩)⟩, ⟨_, rfl, rfl, l_makeSlice (m := n * l.n) Try.underlying77 inf52 rfl rfl (by omega) (by omega) (fun zM => ⟨Sub.pick [2, 3] rfl, ?_⟩)⟩, trivial⟩
    · refine RO.fork [9] (by kernel_rfl) rfl ⟨⟨_, rfl, rfl, l_makeSlice (m := n * l.n) Try.underlying77 inf52 rfl rfl (by omega) (by omega) (fun zM => ⟨Sub.pick [3, 4] rfl, ?_⟩)⟩, trivial⟩
      refine RO.quietT 15 rfl (by kernel_rfl) (q_build (cs := [(.slice (some ⟨zN, 0, none⟩) (n * l.n) (n * l.n)), (.slice (some ⟨zM, 0, none⟩) (n * l.n) (n * l.n)), .int .u64 ((2 ^ b.sets.length - 1 : Nat) : Int)]) plan79 inf79 (by kernel_rfl)) ?_
      refine RO.fork [17] (by kernel_rfl) rfl ⟨⟨_, rfl, rfl, l_store_box (v := (.agg #[(.slice (some ⟨zN, 0, none⟩) (n * l.n) (n * l.n)), (.slice (some ⟨zM, 0, none⟩) (n * l.n) (n * l.n)), .int .u64 ((2 ^ b.sets.length - 1 : Nat) : Int)])) (vs := [(.slice (some ⟨zN, 0, none⟩) (n * l.n) (n * l.n)), (.slice (some ⟨zM, 0, none⟩) (n * l.n) (n * l.n)), .int .u64 ((2 ^ b.sets.length - 1 : Nat) : Int)]) 2 inf79 rfl rfl rfl rfl rfl rfl (by simp [putL]) ⟨Sub.pick [3, 4] rfl, ?_⟩⟩, trivial⟩
      exact RO.fin (by kernel_rfl) ⟨zN, zM, zG, rfl, ⟨rfl, rfl, rfl, rfl, rfl, rfl, rfl, rfl, rfl, rfl, trivial⟩⟩ (Sub.pick [2, 1, 0, 0, 0, 0] rfl)
    refine RO.fork [4] (by kernel_rfl) rfl ⟨⟨_, rfl, rfl, l_makeSlice (m := n * l.n) Try.underlying24 inf22 rfl rfl (by omega) (by omega) (fun zN => ⟨Sub.pick [3, 4] rfl, ?_⟩)⟩, trivial⟩
    refine RO.quietT 15 rfl (by kernel_rfl) (q_build (cs := [(.slice (some ⟨zN, 0, none⟩) (n * l.n) (n * l.n)), (.slice (some ⟨zM, 0, none⟩) (n * l.n) (n * l.n)), .int .u64 ((2 ^ b.sets.length - 1 : Nat) : Int)]) plan79 inf79 (by kernel_rfl)) ?_
    refine RO.fork [17] (by kernel_rfl) rfl ⟨⟨_, rfl, rfl, l_store_box (v := (.agg #[(.slice (some ⟨zN, 0, none⟩) (n * l.n) (n * l.n)), (.slice (some ⟨zM, 0, none⟩) (n * l.n) (n * l.n)), .int .u64 ((2 ^ b.sets.length - 1 : Nat) : Int)])) (vs := [(.slice (some ⟨zN, 0, none⟩) (n * l.n) (n * l.n)), (.slice (some ⟨zM, 0, none⟩) (n * l.n) (n * l.n)), .int .u64 ((2 ^ b.sets.length - 1 : Nat) : Int)]) 2 inf79 rfl rfl rfl rfl rfl rfl (by simp [putL]) ⟨Sub.pick [3, 4] rfl, ?_⟩⟩, trivial⟩
    exact RO.fin (by kernel_rfl) ⟨zN, zM, zG, rfl, ⟨rfl, rfl, rfl, rfl, rfl, rfl, rfl, rfl, rfl, rfl, trivial⟩⟩ (Sub.pick [2, 0, 0, 0, 0, 0] rfl)
  rintro ρ O ⟨zN, zM, zG, rfl, hH⟩
  obtain ⟨ρ0, rfl⟩ := hH.elim
  clear hH
  refine T.seq (T.seq (T.region ?_))
  refine TO.quiet (q_load_boxAgg 5 Try.underlying26 rfl inf26 rfl rfl rfl) ?_
  have hk54 := fun (w1 : World) (hI : Inv w [oI zG 79 [(.slice (some ⟨zN, 0, none⟩) (n * l.n) (n * l.n)), (.slice (some ⟨zM, 0, none⟩) (n * l.n) (n * l.n)), .int .u64 ((2 ^ b.sets.length - 1 : Nat) : Int)], rowI (some ⟨zN, 0, none⟩) (n * l.n) 22 1 (List.replicate (n * l.n) (.slice none 0 0)), rowI (some ⟨zM, 0, none⟩) (n * l.n) 52 1 (List.replicate (n * l.n) (.int .u64 0)), oI bx3 3 [(.int .i64 ((l.n : Nat) : Int))], oI bx2 29 (laCells l pb pc lb lc), oI bx1 26 (buCells b sb sc eb ec tb tc)] w1) => marksF w1 b sb eb tb sc ec tc vs (hI.bu h) hB hm8
  refine TO.loud rfl (l_call ent52 (CallT.of_pure hk54) rfl ?_)
  clear hk54
  rintro vr O' ⟨N, rfl, mm, m9, rfl, rfl, hmp, hin⟩
  refine TO.loud rfl (l_rangeMap 0 Try.underlying80 rfl rfl (fun it4 => ?_))
  refine TO.nil (T.block ?_)
  refine T.loop (fun (left : List (Int × Nat)) ρ O => ∃ (cur : Option (Int × Nat)) (ms : List Nat), O = [iterI KI VU mm it4 m9 left cur, oI zG 79 [(.slice (some ⟨zN, 0, none⟩) (n * l.n) (n * l.n)), (.slice (some ⟨zM, 0, none⟩) (n * l.n) (n * l.n)), .int .u64 ((2 ^ b.sets.length - 1 : Nat) : Int)], rowI (some ⟨zN, 0, none⟩) (n * l.n) 22 1 (List.replicate (n * l.n) (.slice none 0 0)), rowI (some ⟨zM, 0, none⟩) (n * l.n) 52 1 (uns ms), oI bx3 3 [(.int .i64 ((l.n : Nat) : Int))], oI bx2 29 (laCells l pb pc lb lc), oI bx1 26 (buCells b sb sc eb ec tb tc)] ∧ (∀ q ∈ left, q ∈ m9) ∧ (left.map Prod.fst).Nodup ∧ ms.length = n * l.n ∧ (∀ v, v < n * l.n → ms.getD v 0 = if ((v / l.n : Nat) : Int) ∈ left.map Prod.fst then 0 else mkN b.sets ((v / l.n : Nat) : Int)) ∧ Heads [(0, (.agg (buCells b sb sc eb ec tb tc).toArray)), (1, (.agg (laCells l pb pc lb lc).toArray)), (2, (.pointer (some ⟨bx1, 0, none⟩))), (3, (.pointer (some ⟨bx2, 0, none⟩))), (4, .bool false), (5, .int .i64 0), (6, .int .i64 (checkB b : Int)), (7, .int .i64 (checkLV b.vars l : Int)), (8, (.pointer (some ⟨bx3, 0, none⟩))), (9, (.pointer (some ⟨zG, 0, none⟩))), (55, (.pointer (some ⟨it4, 0, none⟩)))] ρ) (fun left => left.length) m9 ?_ ?_
  · refine ⟨none, List.replicate (n * l.n) 0, (by first | (simp only [List.map_replicate]; done) | (simp only [List.map_replicate]; rfl)), fun q hq => hq, hmp.nd, by simp, fun s hs => ?_, ⟨rfl, rfl, rfl, rfl, rfl, rfl, rfl, rfl, rfl, rfl, rfl, trivial⟩⟩
    rw [show (List.replicate (n * l.n) 0).getD s 0 = 0 by simp [hs]]
    split
    · rfl
    · rename_i hs2; exact (hmp.out hs2).symm
  rintro left ρ O ⟨cur, ms, rfl, hsub, hnd, hml, hms, hH⟩
  obtain ⟨ρ0, rfl⟩ := hH.elim
  clear hH
  refine T.seq (T.region ?_)
  refine TO.loud rfl (l_nextMap (K := KI) (V := VU) 0 rfl rfl (fun hleft => ?_) (fun lA le lB hleft => ?_))
  · refine TO.quiet (q_extract (vs := _) rfl rfl) ?_
    refine TO.nil (T.seq ?_)
    refine T.cond0 rfl ?_
    refine T.exit ?_
    refine T.seq (T.seq (T.region ?_))
    refine TO.quiet (q_load_box 4 Try.underlying3 rfl rfl rfl rfl) (TO.quiet (q_move rfl) ?_)
    refine TO.nil (T.block ?_)
    subst hleft
    refine T.sub (O' := [oI zG 79 [(.slice (some ⟨zN, 0, none⟩) (n * l.n) (n * l.n)), (.slice (some ⟨zM, 0, none⟩) (n * l.n) (n * l.n)), .int .u64 ((2 ^ b.sets.length - 1 : Nat) : Int)], rowI (some ⟨zN, 0, none⟩) (n * l.n) 22 1 (List.replicate (n * l.n) (.slice none 0 0)), rowI (some ⟨zM, 0, none⟩) (n * l.n) 52 1 (uns ms), oI bx3 3 [(.int .i64 ((l.n : Nat) : Int))], oI bx2 29 (laCells l pb pc lb lc), oI bx1 26 (buCells b sb sc eb ec tb tc)]) (Sub.pick [1, 1, 1, 1, 1, 1] rfl) ?_
    refine T.nilRows 3 (n * l.n) ?_
    refine T.loopS (fun (i : Nat) ρ O => ∃ (qs : List Rec), O = ([oI zG 79 [(.slice (some ⟨zN, 0, none⟩) (n * l.n) (n * l.n)), (.slice (some ⟨zM, 0, none⟩) (n * l.n) (n * l.n)), .int .u64 ((2 ^ b.sets.length - 1 : Nat) : Int)], rowI (some ⟨zN, 0, none⟩) (n * l.n) 22 1 (vals qs), rowI (some ⟨zM, 0, none⟩) (n * l.n) 52 1 (uns ms), oI bx3 3 [(.int .i64 ((l.n : Nat) : Int))], oI bx2 29 (laCells l pb pc lb lc), oI bx1 26 (buCells b sb sc eb ec tb tc)] ++ (itms 3 qs)) ∧ i ≤ l.n ∧ RowsP (n * l.n) (prodR b.edges l i 0) (5000 * i) (nums qs) ∧ Heads [(0, (.agg (buCells b sb sc eb ec tb tc).toArray)), (1, (.agg (laCells l pb pc lb lc).toArray)), (2, (.pointer (some ⟨bx1, 0, none⟩))), (3, (.pointer (some ⟨bx2, 0, none⟩))), (4, .bool false), (5, .int .i64 0), (6, .int .i64 (checkB b : Int)), (7, .int .i64 (checkLV b.vars l : Int)), (8, (.pointer (some ⟨bx3, 0, none⟩))), (9, (.pointer (some ⟨zG, 0, none⟩))), (75, (.int .i64 ((l.n : Nat) : Int))), (76, .int .i64 (i : Int))] ρ) (fun i => l.n - i) 0 ?_ ?_
    · exact ⟨List.replicate (n * l.n) nilRec, (by simp only [List.map_replicate]; rfl), Nat.zero_le _, RowsP.start (fun u y _ => by rintro (⟨j, hj, _⟩ | ⟨e, he, _⟩); omega; simp at he) _, ⟨rfl, rfl, rfl, rfl, rfl, rfl, rfl, rfl, rfl, rfl, rfl, rfl, trivial⟩⟩
    rintro i ρ O ⟨qs, rfl, hi, hrw, hH⟩
    obtain ⟨ρ0, rfl⟩ := hH.elim
    clear hH
    refine T.seq (T.region ?_)
    refine TO.quiet (q_lss rfl rfl) ?_
    refine TO.nil (T.seq ?_)
    refine T.condP rfl (fun hc => ?_) (fun hc => ?_)
    · have hlt77 : i < l.n := by omega
      refine T.skip (T.seq (T.block (T.seq ?_)))
      have hat : l.at i < 256 := La.at_lt hl0 hL.p8 hL.l8 i
      refine T.region ?_
      refine TO.quiet (q_move rfl) ?_
      refine TO.loud rfl (l_alloc inf3 rfl (fun bx5 => ?_))
      refine TO.loud rfl (l_store_box (v := .int .i64 (i : Int)) (vs := [(.int .i64 (i : Int))]) 0 inf3 rfl rfl rfl rfl rfl rfl (by simp [putL]) ?_)
      refine TO.nil (T.seq ?_)
      refine T.draws _ [(0, 0), (1, 0), (2, 0), (3, 1), (4, 2)] mixed (by kernel_rfl) (Sub.of (List.Sublist.refl _)) (fun _ _ _ h => h) ?_
      refine DO.quiet rfl (q_load_boxAgg 6 Try.underlying26 rfl inf26 rfl rfl rfl) (DO.quiet rfl (q_load_boxAgg 5 Try.underlying29 rfl inf29 rfl rfl rfl) (DO.quiet rfl (q_load_box 0 Try.underlying3 rfl rfl rfl rfl) ?_))
      have hk82 := fun (w1 : World) (hI : Inv w ([oI bx5 3 [(.int .i64 (i : Int))], oI zG 79 [(.slice (some ⟨zN, 0, none⟩) (n * l.n) (n * l.n)), (.slice (some ⟨zM, 0, none⟩) (n * l.n) (n * l.n)), .int .u64 ((2 ^ b.sets.length - 1 : Nat) : Int)], rowI (some ⟨zN, 0, none⟩) (n * l.n) 22 1 (vals qs), rowI (some ⟨zM, 0, none⟩) (n * l.n) 52 1 (uns ms), oI bx3 3 [(.int .i64 ((l.n : Nat) : Int))], oI bx2 29 (laCells l pb pc lb lc), oI bx1 26 (buCells b sb sc eb ec tb tc)] ++ (itms 3 qs)) w1) => atF w1 l pb lb pc lc (hI.la h2) hL hl0 i (by omega)
      refine DO.loud rfl rfl (l_call ent34 (CallT.of_pure hk82) rfl ?_)
      clear hk82
      rintro vr O' ⟨N, rfl, rfl, rfl⟩
      refine ⟨Sub.pickR [0, 0, 0, 0, 0, 0, 0] [oI bx5 3 [(.int .i64 (i : Int))], oI zG 79 [(.slice (some ⟨zN, 0, none⟩) (n * l.n) (n * l.n)), (.slice (some ⟨zM, 0, none⟩) (n * l.n) (n * l.n)), .int .u64 ((2 ^ b.sets.length - 1 : Nat) : Int)], rowI (some ⟨zN, 0, none⟩) (n * l.n) 22 1 (vals qs), rowI (some ⟨zM, 0, none⟩) (n * l.n) 52 1 (uns ms), oI bx3 3 [(.int .i64 ((l.n : Nat) : Int))], oI bx2 29 (laCells l pb pc lb lc), oI bx1 26 (buCells b sb sc eb ec tb tc)] (itms 3 qs) rfl rfl, ?_⟩
      have hk83 := fun (w1 : World) (hI : Inv w ([oI bx5 3 [(.int .i64 (i : Int))], oI zG 79 [(.slice (some ⟨zN, 0, none⟩) (n * l.n) (n * l.n)), (.slice (some ⟨zM, 0, none⟩) (n * l.n) (n * l.n)), .int .u64 ((2 ^ b.sets.length - 1 : Nat) : Int)], rowI (some ⟨zN, 0, none⟩) (n * l.n) 22 1 (vals qs), rowI (some ⟨zM, 0, none⟩) (n * l.n) 52 1 (uns ms), oI bx3 3 [(.int .i64 ((l.n : Nat) : Int))], oI bx2 29 (laCells l pb pc lb lc), oI bx1 26 (buCells b sb sc eb ec tb tc)] ++ (itms 3 qs)) w1) => matchingF w1 b sb eb tb sc ec tc vs (hI.bu h) hB (l.at i)
      refine DO.last rfl rfl (l_call ent53 (CallT.of_pure hk83) rfl ?_)
      clear hk83
      rintro vr O' ⟨N, rfl, bB, cB, rfl, rfl⟩
      refine DO.done ?_
      refine T.block ?_
      refine T.rangeFunc (first := []) (caps := [(.pointer (some ⟨bB, 0, none⟩)), (.pointer (some ⟨cB, 0, none⟩))]) rfl ent99 (fun yl yq yhq => ?_)
      refine CallT.mono (CallT.sub (O' := oI bB 26 (buCells b sb sc eb ec tb tc) :: oI cB 5 [(.int .u8 (l.at i : Int))] :: (objI yl (lp yq none) :: ([oI bx5 3 [(.int .i64 (i : Int))], oI zG 79 [(.slice (some ⟨zN, 0, none⟩) (n * l.n) (n * l.n)), (.slice (some ⟨zM, 0, none⟩) (n * l.n) (n * l.n)), .int .u64 ((2 ^ b.sets.length - 1 : Nat) : Int)], rowI (some ⟨zN, 0, none⟩) (n * l.n) 22 1 (vals qs), rowI (some ⟨zM, 0, none⟩) (n * l.n) 52 1 (uns ms), oI bx3 3 [(.int .i64 ((l.n : Nat) : Int))], oI bx2 29 (laCells l pb pc lb lc), oI bx1 26 (buCells b sb sc eb ec tb tc)] ++ (itms 3 qs)))) (Sub.pickR [1, 1, 0, 0, 0, 0, 0, 0, 0, 0] [objI yl (lp yq none), oI bB 26 (buCells b sb sc eb ec tb tc), oI cB 5 [(.int .u8 (l.at i : Int))], oI bx5 3 [(.int .i64 (i : Int))], oI zG 79 [(.slice (some ⟨zN, 0, none⟩) (n * l.n) (n * l.n)), (.slice (some ⟨zM, 0, none⟩) (n * l.n) (n * l.n)), .int .u64 ((2 ^ b.sets.length - 1 : Nat) : Int)], rowI (some ⟨zN, 0, none⟩) (n * l.n) 22 1 (vals qs), rowI (some ⟨zM, 0, none⟩) (n * l.n) 52 1 (uns ms), oI bx3 3 [(.int .i64 ((l.n : Nat) : Int))], oI bx2 29 (laCells l pb pc lb lc), oI bx1 26 (buCells b sb sc eb ec tb tc)] (itms 3 qs) rfl rfl) (match1 w b sb eb tb sc ec tc vs h hB bB cB (l.at i) hat (.func (.yield yl) #[] #[]) (fun k O => ∃ (qs2 : List Rec), O = objI yl (lp yq none) :: ([oI bx5 3 [(.int .i64 (i : Int))], oI zG 79 [(.slice (some ⟨zN, 0, none⟩) (n * l.n) (n * l.n)), (.slice (some ⟨zM, 0, none⟩) (n * l.n) (n * l.n)), .int .u64 ((2 ^ b.sets.length - 1 : Nat) : Int)], rowI (some ⟨zN, 0, none⟩) (n * l.n) 22 1 (vals qs2), rowI (some ⟨zM, 0, none⟩) (n * l.n) 52 1 (uns ms), oI bx3 3 [(.int .i64 ((l.n : Nat) : Int))], oI bx2 29 (laCells l pb pc lb lc), oI bx1 26 (buCells b sb sc eb ec tb tc)] ++ (itms 3 qs2)) ∧ RowsP (n * l.n) (prodR b.edges l i k) (5000 * i + k) (nums qs2)) (fun _ => False) (fun k hk hm O ⟨qs2, e, h9⟩ => ⟨qs2, e, (h9.same (fun u y _ => by rw [prodR_hit hk]; exact ⟨fun q => q.elim id (fun p => absurd p.1 hm), .inl⟩)).more (by omega)⟩) ?_ _ ?_)) ?_
      · intro k hk O hmt hJ
        obtain ⟨qs2, rfl, hrw2⟩ := hJ
        refine CallV.yield yhq rfl rfl ?_
        obtain ⟨u, hu, hun⟩ : ∃ u : Nat, b.edges[k].fr = (u : Int) ∧ u < n := by
          have := (hv.ed _ (List.getElem_mem hk)).1
          exact ⟨b.edges[k].fr.toNat, by omega, by omega⟩
        obtain ⟨t, ht, htn⟩ : ∃ t : Nat, b.edges[k].to = (t : Int) ∧ t < n := by
          have := (hv.ed _ (List.getElem_mem hk)).2
          exact ⟨b.edges[k].to.toNat, by omega, by omega⟩
        have hq2l := hrw2.ql
        have huL : u * l.n + l.n ≤ n * l.n := by have := Nat.mul_le_mul_right l.n (show u + 1 ≤ n by omega); rwa [Nat.succ_mul] at this
        have htL : t * l.n + l.n ≤ n * l.n := by have := Nat.mul_le_mul_right l.n (show t + 1 ≤ n by omega); rwa [Nat.succ_mul] at this
        have hqu : u * l.n + i < qs2.length := by omega
        have hrq := hrw2.rl hqu
        have hix := La.ix_lt hl0 (i + 1)
        refine T.region ?_
        refine TO.loud rfl (l_alloc inf54 rfl (fun bx6 => ?_))
        refine TO.loud rfl (l_store_box (v := (.agg #[.int .i64 b.edges[k].fr, .int .i64 b.edges[k].to, .int .u8 ((b.edges[k].pos : Nat) : Int), .int .u8 ((b.edges[k].neg : Nat) : Int)])) (vs := [.int .i64 b.edges[k].fr, .int .i64 b.edges[k].to, .int .u8 ((b.edges[k].pos : Nat) : Int), .int .u8 ((b.edges[k].neg : Nat) : Int)]) 0 inf54 rfl rfl rfl rfl rfl rfl (by simp [putL]) ?_)
        refine TO.nil (T.block (T.seq (T.region ?_)))
        refine TO.quiet (q_fieldAddr Try.underlying54 rfl inf3 rfl rfl) (TO.quiet (QT.cast (q_load_box 0 Try.underlying3 rfl rfl rfl rfl) (v' := .int .i64 ((u : Nat) : Int)) (by show Value.int _ _ = _; rw [hu])) (TO.quiet (q_load_box 5 Try.underlying3 rfl rfl rfl rfl) (TO.quiet (q_mulN (a := u) (b := l.n) rfl rfl (by omega)) ?_)))
        refine TO.quiet (q_load_box 1 Try.underlying3 rfl rfl rfl rfl) (TO.quiet (q_addN (a := (u * l.n)) (b := i) rfl rfl (by omega)) (TO.quiet (q_assign rfl) ?_))
        refine TO.nil ?_
        refine T.sub (sub_out hqu [oI bx6 54 [.int .i64 b.edges[k].fr, .int .i64 b.edges[k].to, .int .u8 ((b.edges[k].pos : Nat) : Int), .int .u8 ((b.edges[k].neg : Nat) : Int)], oI bx5 3 [(.int .i64 (i : Int))], oI zG 79 [(.slice (some ⟨zN, 0, none⟩) (n * l.n) (n * l.n)), (.slice (some ⟨zM, 0, none⟩) (n * l.n) (n * l.n)), .int .u64 ((2 ^ b.sets.length - 1 : Nat) : Int)], rowI (some ⟨zN, 0, none⟩) (n * l.n) 22 1 (vals qs2), rowI (some ⟨zM, 0, none⟩) (n * l.n) 52 1 (uns ms), oI bx3 3 [(.int .i64 ((l.n : Nat) : Int))], oI bx2 29 (laCells l pb pc lb lc), oI bx1 26 (buCells b sb sc eb ec tb tc)]) ?_
        refine T.draws [oI bx6 54 [.int .i64 b.edges[k].fr, .int .i64 b.edges[k].to, .int .u8 ((b.edges[k].pos : Nat) : Int), .int .u8 ((b.edges[k].neg : Nat) : Int)], oI bx5 3 [(.int .i64 (i : Int))], oI zG 79 [(.slice (some ⟨zN, 0, none⟩) (n * l.n) (n * l.n)), (.slice (some ⟨zM, 0, none⟩) (n * l.n) (n * l.n)), .int .u64 ((2 ^ b.sets.length - 1 : Nat) : Int)], rowI (some ⟨zN, 0, none⟩) (n * l.n) 22 1 (vals qs2), rowI (some ⟨zM, 0, none⟩) (n * l.n) 52 1 (uns ms), oI bx3 3 [(.int .i64 ((l.n : Nat) : Int))], oI bx2 29 (laCells l pb pc lb lc), oI bx1 26 (buCells b sb sc eb ec tb tc)] [(0, 0), (1, 0), (2, 0), (3, 0), (4, 0), (5, 0), (6, 0), (7, 0), (8, 0), (9, 0), (10, 0), (11, 0), (12, 0), (13, 0), (14, 0), (15, 1), (16, 0), (17, 1), (18, 1), (19, 0), (20, 2)] mixed (by kernel_rfl) (Sub.pick0 [1, 1, 1, 1, 1, 1, 1, 1] [rowI (qs2[u * l.n + i].b) (qs2[u * l.n + i].c) 3 1 (ints qs2[u * l.n + i].xs), oI bx6 54 [.int .i64 b.edges[k].fr, .int .i64 b.edges[k].to, .int .u8 ((b.edges[k].pos : Nat) : Int), .int .u8 ((b.edges[k].neg : Nat) : Int)], oI bx5 3 [(.int .i64 (i : Int))], oI zG 79 [(.slice (some ⟨zN, 0, none⟩) (n * l.n) (n * l.n)), (.slice (some ⟨zM, 0, none⟩) (n * l.n) (n * l.n)), .int .u64 ((2 ^ b.sets.length - 1 : Nat) : Int)], rowI (some ⟨zN, 0, none⟩) (n * l.n) 22 1 (vals qs2), rowI (some ⟨zM, 0, none⟩) (n * l.n) 52 1 (uns ms), oI bx3 3 [(.int .i64 ((l.n : Nat) : Int))], oI bx2 29 (laCells l pb pc lb lc), oI bx1 26 (buCells b sb sc eb ec tb tc)] (itms 3 (qs2.eraseIdx (u * l.n + i))) rfl rfl) (fun _ _ _ h => h) ?_
        refine DO.quiet rfl (q_fieldAddr Try.underlying79 rfl inf24 rfl rfl) (DO.quiet rfl (q_load_box 2 Try.underlying24 rfl rfl rfl rfl) (DO.quiet rfl (q_move rfl) (DO.quiet rfl (q_fieldAddr Try.underlying79 rfl inf24 rfl rfl) ?_)))
        refine DO.quiet rfl (q_load_box 2 Try.underlying24 rfl rfl rfl rfl) (DO.quiet rfl (q_move rfl) (DO.quiet rfl (q_ix (i := ((u * l.n) + i)) Try.underlying24 inf22 rfl rfl (rowO (List.mem_of_getElem? (i := 3) rfl))) (DO.quiet rfl (q_ld Try.underlying22 rfl rfl (rowO (List.mem_of_getElem? (i := 3) rfl)) (vals_at hqu)) ?_)))
        refine DO.quiet rfl (q_fieldAddr Try.underlying54 rfl inf3 rfl rfl) (DO.quiet rfl (QT.cast (q_load_box 0 Try.underlying3 rfl rfl rfl rfl) (v' := .int .i64 ((t : Nat) : Int)) (by show Value.int _ _ = _; rw [ht])) (DO.quiet rfl (q_load_box 5 Try.underlying3 rfl rfl rfl rfl) (DO.quiet rfl (q_mulN (a := t) (b := l.n) rfl rfl (by omega)) ?_)))
        refine DO.quiet rfl (q_load_boxAgg 6 Try.underlying29 rfl inf29 rfl rfl rfl) (DO.quiet rfl (q_load_box 1 Try.underlying3 rfl rfl rfl rfl) (DO.quiet rfl (q_addN (a := i) (b := 1) rfl rfl (by omega)) ?_))
        have hk106 := fun (w1 : World) (hI : Inv w ([rowI (qs2[u * l.n + i].b) (qs2[u * l.n + i].c) 3 1 (ints qs2[u * l.n + i].xs), oI bx6 54 [.int .i64 b.edges[k].fr, .int .i64 b.edges[k].to, .int .u8 ((b.edges[k].pos : Nat) : Int), .int .u8 ((b.edges[k].neg : Nat) : Int)], oI bx5 3 [(.int .i64 (i : Int))], oI zG 79 [(.slice (some ⟨zN, 0, none⟩) (n * l.n) (n * l.n)), (.slice (some ⟨zM, 0, none⟩) (n * l.n) (n * l.n)), .int .u64 ((2 ^ b.sets.length - 1 : Nat) : Int)], rowI (some ⟨zN, 0, none⟩) (n * l.n) 22 1 (vals qs2), rowI (some ⟨zM, 0, none⟩) (n * l.n) 52 1 (uns ms), oI bx3 3 [(.int .i64 ((l.n : Nat) : Int))], oI bx2 29 (laCells l pb pc lb lc), oI bx1 26 (buCells b sb sc eb ec tb tc)] ++ (itms 3 (qs2.eraseIdx (u * l.n + i)))) w1) => indexF w1 l pb lb pc lc (hI.la h2) hL (i + 1) (by omega)
        refine DO.loud rfl rfl (l_call ent54 (CallT.of_pure hk106) rfl ?_)
        clear hk106
        rintro vr O' ⟨N, rfl, rfl, rfl⟩
        refine ⟨Sub.pick0 [1, 1, 1, 1, 1, 1, 1, 1] [rowI (qs2[u * l.n + i].b) (qs2[u * l.n + i].c) 3 1 (ints qs2[u * l.n + i].xs), oI bx6 54 [.int .i64 b.edges[k].fr, .int .i64 b.edges[k].to, .int .u8 ((b.edges[k].pos : Nat) : Int), .int .u8 ((b.edges[k].neg : Nat) : Int)], oI bx5 3 [(.int .i64 (i : Int))], oI zG 79 [(.slice (some ⟨zN, 0, none⟩) (n * l.n) (n * l.n)), (.slice (some ⟨zM, 0, none⟩) (n * l.n) (n * l.n)), .int .u64 ((2 ^ b.sets.length - 1 : Nat) : Int)], rowI (some ⟨zN, 0, none⟩) (n * l.n) 22 1 (vals qs2), rowI (some ⟨zM, 0, none⟩) (n * l.n) 52 1 (uns ms), oI bx3 3 [(.int .i64 ((l.n : Nat) : Int))], oI bx2 29 (laCells l pb pc lb lc), oI bx1 26 (buCells b sb sc eb ec tb tc)] (itms 3 (qs2.eraseIdx (u * l.n + i))) rfl rfl, ?_⟩
        refine DO.quiet rfl (q_addN (a := (t * l.n)) (b := (l.ix (i + 1))) rfl rfl (by omega)) ?_
        refine DO.loud rfl rfl (l_build1 (v := .int .i64 (((t * l.n) + (l.ix (i + 1)) : Nat) : Int)) Try.underlying22 inf3 rfl rfl rfl (fun bx7 => ⟨Sub.pick0 [2, 2, 2, 2, 2, 2, 2, 2] [rowI (some ⟨bx7, 0, none⟩) 1 3 1 [.int .i64 (((t * l.n) + (l.ix (i + 1)) : Nat) : Int)], rowI (qs2[u * l.n + i].b) (qs2[u * l.n + i].c) 3 1 (ints qs2[u * l.n + i].xs), oI bx6 54 [.int .i64 b.edges[k].fr, .int .i64 b.edges[k].to, .int .u8 ((b.edges[k].pos : Nat) : Int), .int .u8 ((b.edges[k].neg : Nat) : Int)], oI bx5 3 [(.int .i64 (i : Int))], oI zG 79 [(.slice (some ⟨zN, 0, none⟩) (n * l.n) (n * l.n)), (.slice (some ⟨zM, 0, none⟩) (n * l.n) (n * l.n)), .int .u64 ((2 ^ b.sets.length - 1 : Nat) : Int)], rowI (some ⟨zN, 0, none⟩) (n * l.n) 22 1 (vals qs2), rowI (some ⟨zM, 0, none⟩) (n * l.n) 52 1 (uns ms), oI bx3 3 [(.int .i64 ((l.n : Nat) : Int))], oI bx2 29 (laCells l pb pc lb lc), oI bx1 26 (buCells b sb sc eb ec tb tc)] (itms 3 (qs2.eraseIdx (u * l.n + i))) rfl rfl, ?_⟩))
        refine DO.loud rfl rfl (l_append 1 Try.underlying22 Try.underlying22 inf3 rfl rfl rfl rfl (by simp) (by decide) (Src.row (j := 0) rfl (by simp)) (by simp [oneB]) (by omega) (by decide) (by decide) (fun bx8 c9 => ⟨Sub.pick0 [2, 2, 2, 2, 2, 2, 2, 2] [rowI (some ⟨bx7, 0, none⟩) 1 3 1 [.int .i64 (((t * l.n) + (l.ix (i + 1)) : Nat) : Int)], rowI bx8 c9 3 1 ((ints qs2[u * l.n + i].xs) ++ [.int .i64 (((t * l.n) + (l.ix (i + 1)) : Nat) : Int)]), oI bx6 54 [.int .i64 b.edges[k].fr, .int .i64 b.edges[k].to, .int .u8 ((b.edges[k].pos : Nat) : Int), .int .u8 ((b.edges[k].neg : Nat) : Int)], oI bx5 3 [(.int .i64 (i : Int))], oI zG 79 [(.slice (some ⟨zN, 0, none⟩) (n * l.n) (n * l.n)), (.slice (some ⟨zM, 0, none⟩) (n * l.n) (n * l.n)), .int .u64 ((2 ^ b.sets.length - 1 : Nat) : Int)], rowI (some ⟨zN, 0, none⟩) (n * l.n) 22 1 (vals qs2), rowI (some ⟨zM, 0, none⟩) (n * l.n) 52 1 (uns ms), oI bx3 3 [(.int .i64 ((l.n : Nat) : Int))], oI bx2 29 (laCells l pb pc lb lc), oI bx1 26 (buCells b sb sc eb ec tb tc)] (itms 3 (qs2.eraseIdx (u * l.n + i))) rfl rfl, ?_⟩))
        refine DO.quiet rfl (q_ix (i := ((u * l.n) + i)) Try.underlying24 inf22 rfl rfl (rowO (List.mem_of_getElem? (i := 3) rfl))) ?_
        refine DO.last rfl rfl (l_st (j := ((u * l.n) + i)) (v := (.slice bx8 ((qs2[u * l.n + i].xs.length) + 1) c9)) (vs := [(.slice bx8 ((qs2[u * l.n + i].xs.length) + 1) c9)]) (cs := vals qs2) 5 inf22 rfl rfl rfl rfl rfl (by simp) rfl (by first | (simp; omega) | (simp_all; omega)) ?_)
        refine DO.sub (O' := ([rowI (some ⟨bx7, 0, none⟩) 1 3 1 [.int .i64 (((t * l.n) + (l.ix (i + 1)) : Nat) : Int)], rowI bx8 c9 3 1 ((ints qs2[u * l.n + i].xs) ++ [.int .i64 (((t * l.n) + (l.ix (i + 1)) : Nat) : Int)]), oI bx6 54 [.int .i64 b.edges[k].fr, .int .i64 b.edges[k].to, .int .u8 ((b.edges[k].pos : Nat) : Int), .int .u8 ((b.edges[k].neg : Nat) : Int)], oI bx5 3 [(.int .i64 (i : Int))], oI zG 79 [(.slice (some ⟨zN, 0, none⟩) (n * l.n) (n * l.n)), (.slice (some ⟨zM, 0, none⟩) (n * l.n) (n * l.n)), .int .u64 ((2 ^ b.sets.length - 1 : Nat) : Int)], rowI (some ⟨zN, 0, none⟩) (n * l.n) 22 1 (vals (qs2.set (u * l.n + i) ⟨bx8, c9, qs2[u * l.n + i].xs ++ [((t * l.n + l.ix (i + 1) : Nat) : Int)]⟩)), rowI (some ⟨zM, 0, none⟩) (n * l.n) 52 1 (uns ms), oI bx3 3 [(.int .i64 ((l.n : Nat) : Int))], oI bx2 29 (laCells l pb pc lb lc), oI bx1 26 (buCells b sb sc eb ec tb tc)] ++ (itms 3 (qs2.eraseIdx (u * l.n + i))))) (by rw [show putL (vals qs2) ((u * l.n) + i) [(.slice bx8 ((qs2[u * l.n + i].xs.length) + 1) c9)] = vals (qs2.set (u * l.n + i) ⟨bx8, c9, qs2[u * l.n + i].xs ++ [((t * l.n + l.ix (i + 1) : Nat) : Int)]⟩) from (by simp [putL, Rec.val])]; exact Sub.of (List.Sublist.refl _)) ?_
        refine DO.sub (O' := [rowI bx8 c9 3 1 ((ints qs2[u * l.n + i].xs) ++ [.int .i64 (((t * l.n) + (l.ix (i + 1)) : Nat) : Int)]), oI bx5 3 [(.int .i64 (i : Int))], oI zG 79 [(.slice (some ⟨zN, 0, none⟩) (n * l.n) (n * l.n)), (.slice (some ⟨zM, 0, none⟩) (n * l.n) (n * l.n)), .int .u64 ((2 ^ b.sets.length - 1 : Nat) : Int)], rowI (some ⟨zN, 0, none⟩) (n * l.n) 22 1 (vals (qs2.set (u * l.n + i) ⟨bx8, c9, qs2[u * l.n + i].xs ++ [((t * l.n + l.ix (i + 1) : Nat) : Int)]⟩)), rowI (some ⟨zM, 0, none⟩) (n * l.n) 52 1 (uns ms), oI bx3 3 [(.int .i64 ((l.n : Nat) : Int))], oI bx2 29 (laCells l pb pc lb lc), oI bx1 26 (buCells b sb sc eb ec tb tc)] ++ (itms 3 (qs2.eraseIdx (u * l.n + i)))) (Sub.pickR [1, 2, 2, 2, 2, 2, 2, 2] [rowI (some ⟨bx7, 0, none⟩) 1 3 1 [.int .i64 (((t * l.n) + (l.ix (i + 1)) : Nat) : Int)], rowI bx8 c9 3 1 ((ints qs2[u * l.n + i].xs) ++ [.int .i64 (((t * l.n) + (l.ix (i + 1)) : Nat) : Int)]), oI bx6 54 [.int .i64 b.edges[k].fr, .int .i64 b.edges[k].to, .int .u8 ((b.edges[k].pos : Nat) : Int), .int .u8 ((b.edges[k].neg : Nat) : Int)], oI bx5 3 [(.int .i64 (i : Int))], oI zG 79 [(.slice (some ⟨zN, 0, none⟩) (n * l.n) (n * l.n)), (.slice (some ⟨zM, 0, none⟩) (n * l.n) (n * l.n)), .int .u64 ((2 ^ b.sets.length - 1 : Nat) : Int)], rowI (some ⟨zN, 0, none⟩) (n * l.n) 22 1 (vals (qs2.set (u * l.n + i) ⟨bx8, c9, qs2[u * l.n + i].xs ++ [((t * l.n + l.ix (i + 1) : Nat) : Int)]⟩)), rowI (some ⟨zM, 0, none⟩) (n * l.n) 52 1 (uns ms), oI bx3 3 [(.int .i64 ((l.n : Nat) : Int))], oI bx2 29 (laCells l pb pc lb lc), oI bx1 26 (buCells b sb sc eb ec tb tc)] (itms 3 (qs2.eraseIdx (u * l.n + i))) rfl rfl) ?_
        refine DO.sub (O' := [oI bx5 3 [(.int .i64 (i : Int))], oI zG 79 [(.slice (some ⟨zN, 0, none⟩) (n * l.n) (n * l.n)), (.slice (some ⟨zM, 0, none⟩) (n * l.n) (n * l.n)), .int .u64 ((2 ^ b.sets.length - 1 : Nat) : Int)], rowI (some ⟨zN, 0, none⟩) (n * l.n) 22 1 (vals (qs2.set (u * l.n + i) ⟨bx8, c9, qs2[u * l.n + i].xs ++ [((t * l.n + l.ix (i + 1) : Nat) : Int)]⟩)), rowI (some ⟨zM, 0, none⟩) (n * l.n) 52 1 (uns ms), oI bx3 3 [(.int .i64 ((l.n : Nat) : Int))], oI bx2 29 (laCells l pb pc lb lc), oI bx1 26 (buCells b sb sc eb ec tb tc)] ++ (itms 3 (qs2.set (u * l.n + i) ⟨bx8, c9, qs2[u * l.n + i].xs ++ [((t * l.n + l.ix (i + 1) : Nat) : Int)]⟩))) (sub_in hqu [oI bx5 3 [(.int .i64 (i : Int))], oI zG 79 [(.slice (some ⟨zN, 0, none⟩) (n * l.n) (n * l.n)), (.slice (some ⟨zM, 0, none⟩) (n * l.n) (n * l.n)), .int .u64 ((2 ^ b.sets.length - 1 : Nat) : Int)], rowI (some ⟨zN, 0, none⟩) (n * l.n) 22 1 (vals (qs2.set (u * l.n + i) ⟨bx8, c9, qs2[u * l.n + i].xs ++ [((t * l.n + l.ix (i + 1) : Nat) : Int)]⟩)), rowI (some ⟨zM, 0, none⟩) (n * l.n) 52 1 (uns ms), oI bx3 3 [(.int .i64 ((l.n : Nat) : Int))], oI bx2 29 (laCells l pb pc lb lc), oI bx1 26 (buCells b sb sc eb ec tb tc)] ⟨bx8, c9, qs2[u * l.n + i].xs ++ [((t * l.n + l.ix (i + 1) : Nat) : Int)]⟩ (by simp)) ?_
        refine DO.done ?_
        exact .inl ⟨rfl, qs2.set (u * l.n + i) ⟨bx8, c9, qs2[u * l.n + i].xs ++ [((t * l.n + l.ix (i + 1) : Nat) : Int)]⟩, rfl, hrw2.push hqu _ (fun w9 y hw => by
          rw [prodR_hit hk]
          have e1 : b.edges[k].fr * (l.n : Int) = ((u * l.n : Nat) : Int) := by rw [hu, Int.natCast_mul]
          have e2 : b.edges[k].to * (l.n : Int) = ((t * l.n : Nat) : Int) := by rw [ht, Int.natCast_mul]
          unfold prodP; rw [e1, e2]
          constructor
          · rintro (h9 | ⟨_, h9, h8⟩)
            · exact .inl h9
            · exact .inr ⟨by omega, by omega⟩
          · rintro (h9 | ⟨h9, h8⟩)
            · exact .inl h9
            · exact .inr ⟨hmt, by omega, by omega⟩) _ _⟩
      · exact ⟨qs, rfl, hrw⟩
      rintro vr O' (⟨qs2, rfl, hrw2⟩ | hF)
      rotate_left
      · exact hF.elim
      refine ⟨none, _, rfl, ?_⟩
      refine T.region ?_
      refine TO.quiet (q_addN (a := i) (b := 1) rfl rfl (by omega)) (TO.quiet (q_move rfl) ?_)
      refine TO.nil ?_
      exact ⟨i + 1, by omega, ([oI zG 79 [(.slice (some ⟨zN, 0, none⟩) (n * l.n) (n * l.n)), (.slice (some ⟨zM, 0, none⟩) (n * l.n) (n * l.n)), .int .u64 ((2 ^ b.sets.length - 1 : Nat) : Int)], rowI (some ⟨zN, 0, none⟩) (n * l.n) 22 1 (vals qs2), rowI (some ⟨zM, 0, none⟩) (n * l.n) 52 1 (uns ms), oI bx3 3 [(.int .i64 ((l.n : Nat) : Int))], oI bx2 29 (laCells l pb pc lb lc), oI bx1 26 (buCells b sb sc eb ec tb tc)] ++ (itms 3 qs2)), (Sub.pickR [1, 1, 1, 1, 1, 1] [oI bx5 3 [(.int .i64 (i : Int))], oI zG 79 [(.slice (some ⟨zN, 0, none⟩) (n * l.n) (n * l.n)), (.slice (some ⟨zM, 0, none⟩) (n * l.n) (n * l.n)), .int .u64 ((2 ^ b.sets.length - 1 : Nat) : Int)], rowI (some ⟨zN, 0, none⟩) (n * l.n) 22 1 (vals qs2), rowI (some ⟨zM, 0, none⟩) (n * l.n) 52 1 (uns ms), oI bx3 3 [(.int .i64 ((l.n : Nat) : Int))], oI bx2 29 (laCells l pb pc lb lc), oI bx1 26 (buCells b sb sc eb ec tb tc)] (itms 3 qs2) rfl rfl), qs2, rfl, by omega, (hrw2.same (fun u y _ => prodR_row)).more (by omega), ⟨rfl, rfl, rfl, rfl, rfl, rfl, rfl, rfl, rfl, rfl, rfl, rfl, trivial⟩⟩
    have hge77 : ¬ i < l.n := by omega
    refine T.exit ?_
    refine T.seq ?_
    have hml8 := hml
    have hie : i = l.n := by omega
    subst hie
    have hg : ProdG b l (nums qs) ms := ⟨⟨5000 * l.n, by omega, by rw [hnn]; exact hrw⟩, by rw [hnn]; exact hml, fun v hv9 => by rw [hms v (by rw [hnn] at hv9; exact hv9)]; simp⟩
    refine T.region ?_
    refine TO.quiet (q_load_boxAgg 0 Try.underlying79 rfl inf79 rfl rfl rfl) ?_
    have hk114 := fun (w1 : World) (hI : Inv w ([oI zG 79 [(.slice (some ⟨zN, 0, none⟩) (n * l.n) (n * l.n)), (.slice (some ⟨zM, 0, none⟩) (n * l.n) (n * l.n)), .int .u64 ((2 ^ b.sets.length - 1 : Nat) : Int)], rowI (some ⟨zN, 0, none⟩) (n * l.n) 22 1 (vals qs), rowI (some ⟨zM, 0, none⟩) (n * l.n) 52 1 (uns ms), oI bx3 3 [(.int .i64 ((l.n : Nat) : Int))], oI bx2 29 (laCells l pb pc lb lc), oI bx1 26 (buCells b sb sc eb ec tb tc)] ++ (itms 3 qs)) w1) => (by
      have hL := liveF w1 (some ⟨zN, 0, none⟩) (some ⟨zM, 0, none⟩) (n * l.n) (n * l.n) (vals qs) (nums qs) ms b.sets.length (hI.slOf (List.mem_of_getElem? (i := 1) rfl)) (Inv.recs (E := 3) hI (fun q hq => List.mem_append_right _ (List.mem_map.2 ⟨q, hq, rfl⟩))) (by rw [hrw.l]; omega) (fun r hr => by obtain ⟨i, hi9, rfl⟩ := List.mem_iff_getElem.1 hr; have h9 := hrw.b i; rw [getD_at hi9] at h9; omega) (hg.ok hv hl0) (hI.slOf (List.mem_of_getElem? (i := 2) rfl)) (by rw [hml, hrw.l]) hg.lt hv.m8
      rw [hrw.l, hml] at hL; exact hL)
    refine TO.loud rfl (l_call ent55 (CallT.of_pure hk114) rfl ?_)
    clear hk114
    rintro vr O' ⟨N, rfl, lb2, lc2, kb2, kc2, ls, co, rfl, rfl, hll, hlc, hlv⟩
    refine TO.quiet (q_move rfl) (TO.quiet (q_extract (vs := _) rfl rfl) (TO.quiet (q_extract (vs := _) rfl rfl) ?_))
    refine TO.loud rfl (l_alloc inf39 rfl (fun bx10 => ?_))
    refine TO.loud rfl (l_store_box (v := (.slice lb2 (n * l.n) lc2)) (vs := [(.slice lb2 (n * l.n) lc2)]) 0 inf39 rfl rfl rfl rfl rfl rfl (by simp [putL]) ?_)
    refine TO.quiet (q_assign rfl) ?_
    refine TO.nil (T.seq ?_)
    have hll2 : ls.length = n * l.n := hll
    refine T.region ?_
    refine TO.quiet (q_fieldAddr Try.underlying26 rfl inf22 rfl rfl) (TO.quiet (q_load_box 8 Try.underlying22 rfl rfl rfl rfl) (TO.quiet (q_makeFunc) ?_))
    have hk120 := CallT.under (A := [oI bx10 39 [(.slice lb2 (n * l.n) lc2)], oI bx3 3 [(.int .i64 ((l.n : Nat) : Int))], rowI lb2 lc2 4 1 (bools ls)]) (B := []) (O := ([oI bx10 39 [(.slice lb2 (n * l.n) lc2)], rowI lb2 lc2 4 1 (bools ls), rowI kb2 kc2 4 1 (bools co), oI zG 79 [(.slice (some ⟨zN, 0, none⟩) (n * l.n) (n * l.n)), (.slice (some ⟨zM, 0, none⟩) (n * l.n) (n * l.n)), .int .u64 ((2 ^ b.sets.length - 1 : Nat) : Int)], rowI (some ⟨zN, 0, none⟩) (n * l.n) 22 1 (vals qs), rowI (some ⟨zM, 0, none⟩) (n * l.n) 52 1 (uns ms), oI bx3 3 [(.int .i64 ((l.n : Nat) : Int))], oI bx2 29 (laCells l pb pc lb lc), oI bx1 26 (buCells b sb sc eb ec tb tc)] ++ (itms 3 qs))) ((containsFuncI w sb sc b.start [oI bx10 39 [(.slice lb2 (n * l.n) lc2)], oI bx3 3 [(.int .i64 ((l.n : Nat) : Int))], rowI lb2 lc2 4 1 (bools ls)] (Sl.o h.st) (by have := hB.st; omega) (.func (.func 57) #[] #[.pointer (some ⟨bx10, 0, none⟩), .pointer (some ⟨bx3, 0, none⟩)]) (fun s => ls.getD (s.toNat * l.n) false) (fun s hs => CallV.of_fn (first := []) (args := [.int .i64 s]) (caps := [.pointer (some ⟨bx10, 0, none⟩), .pointer (some ⟨bx3, 0, none⟩)]) ent57 (by
      have h7 := hv.st s hs
      have h8 : s.toNat * l.n + l.n ≤ n * l.n := by have h9 := Nat.mul_le_mul_right l.n (show s.toNat + 1 ≤ n by omega); rwa [Nat.succ_mul] at h9
      have h9 := startLive w bx10 bx3 lb2 lc2 l.n ls s h7.1 (by omega) (by omega)
      rw [hll2] at h9; exact h9)))) (Sub.pick0 [0, 5, 0] [oI bx10 39 [(.slice lb2 (n * l.n) lc2)], rowI lb2 lc2 4 1 (bools ls), rowI kb2 kc2 4 1 (bools co), oI zG 79 [(.slice (some ⟨zN, 0, none⟩) (n * l.n) (n * l.n)), (.slice (some ⟨zM, 0, none⟩) (n * l.n) (n * l.n)), .int .u64 ((2 ^ b.sets.length - 1 : Nat) : Int)], rowI (some ⟨zN, 0, none⟩) (n * l.n) 22 1 (vals qs), rowI (some ⟨zM, 0, none⟩) (n * l.n) 52 1 (uns ms), oI bx3 3 [(.int .i64 ((l.n : Nat) : Int))], oI bx2 29 (laCells l pb pc lb lc), oI bx1 26 (buCells b sb sc eb ec tb tc)] (itms 3 qs) rfl rfl)
    refine TO.loud rfl (l_call ent56 hk120 rfl ?_)
    clear hk120
    rintro vr O' ⟨A1, rfl, rfl, rfl⟩
    refine TO.quiet (q_assign rfl) (TO.quiet (q_assign rfl) ?_)
    refine TO.nil (T.ret (Res.drop ?_))
    refine Res.two (.bool (b.start.any fun s => ls.getD (s.toNat * l.n) false)) (.int .i64 0) Try.results17 rfl rfl ?_
    have hA := acc_any he0 hel0 (ls := ls) (fun s hs => by
      have h7 := hv.st s hs
      have h8 : s.toNat * l.n + l.n ≤ n * l.n := by have h9 := Nat.mul_le_mul_right l.n (show s.toNat + 1 ≤ n by omega); rwa [Nat.succ_mul] at h9
      exact (hlv _ (by omega)).1.trans (hg.liv hv hl0 _))
    exact ⟨[], Sub.of (List.nil_sublist _), by rw [hA]; unfold accE; rw [if_pos he0, hel0]; rfl, rfl⟩
  refine TO.quiet (q_extract (vs := _) rfl rfl) ?_
  refine TO.nil (T.seq ?_)
  refine T.cond1 rfl ?_
  refine T.skip (T.block (T.seq ?_))
  obtain ⟨x, hx, hxn⟩ : ∃ x : Nat, le.1 = (x : Int) ∧ x < n := by
    obtain ⟨S, hS, hS2⟩ := hin le (hsub le (by rw [hleft]; simp))
    have := hv.se S hS _ hS2
    exact ⟨le.1.toNat, by omega, by omega⟩
  refine T.region ?_
  refine TO.quiet (q_entryMap (K := KI) (V := VU) rfl (List.mem_of_getElem? (i := 0) rfl)) (TO.quiet (QT.cast (q_extract (vs := _) rfl rfl) (v' := .int .i64 ((x : Nat) : Int)) (by show Value.int _ _ = _; rw [hx])) (TO.quiet (q_extract (vs := _) rfl rfl) (TO.quiet (q_assign rfl) ?_)))
  refine TO.quiet (q_assign rfl) ?_
  refine TO.nil (T.seq (T.region ?_))
  refine TO.quiet (q_load_box 4 Try.underlying3 rfl rfl rfl rfl) (TO.quiet (q_move rfl) ?_)
  refine TO.nil (T.block ?_)
  refine T.loop (fun (i : Nat) ρ O => ∃ (ms2 : List Nat), O = [iterI KI VU mm it4 m9 (lA ++ lB) (some le), oI zG 79 [(.slice (some ⟨zN, 0, none⟩) (n * l.n) (n * l.n)), (.slice (some ⟨zM, 0, none⟩) (n * l.n) (n * l.n)), .int .u64 ((2 ^ b.sets.length - 1 : Nat) : Int)], rowI (some ⟨zN, 0, none⟩) (n * l.n) 22 1 (List.replicate (n * l.n) (.slice none 0 0)), rowI (some ⟨zM, 0, none⟩) (n * l.n) 52 1 (uns ms2), oI bx3 3 [(.int .i64 ((l.n : Nat) : Int))], oI bx2 29 (laCells l pb pc lb lc), oI bx1 26 (buCells b sb sc eb ec tb tc)] ∧ i ≤ l.n ∧ ms2.length = n * l.n ∧ (∀ v, v < n * l.n → ms2.getD v 0 = if v / l.n = x ∧ v % l.n < i then le.2 else ms.getD v 0) ∧ Heads [(0, (.agg (buCells b sb sc eb ec tb tc).toArray)), (1, (.agg (laCells l pb pc lb lc).toArray)), (2, (.pointer (some ⟨bx1, 0, none⟩))), (3, (.pointer (some ⟨bx2, 0, none⟩))), (4, .bool false), (5, .int .i64 0), (6, .int .i64 (checkB b : Int)), (7, .int .i64 (checkLV b.vars l : Int)), (8, (.pointer (some ⟨bx3, 0, none⟩))), (9, (.pointer (some ⟨zG, 0, none⟩))), (10, .int .i64 ((x : Nat) : Int)), (11, .int .u64 ((le.2 : Nat) : Int)), (55, (.pointer (some ⟨it4, 0, none⟩))), (61, (.int .i64 ((l.n : Nat) : Int))), (62, .int .i64 (i : Int))] ρ) (fun i => l.n - i) 0 ?_ ?_
  · exact ⟨ms, rfl, Nat.zero_le _, hml, (fun v hv9 => by rw [if_neg (by omega)]), ⟨rfl, rfl, rfl, rfl, rfl, rfl, rfl, rfl, rfl, rfl, rfl, rfl, rfl, rfl, rfl, trivial⟩⟩
  rintro i ρ O ⟨ms2, rfl, hi, hml2, hms2, hH⟩
  obtain ⟨ρ0, rfl⟩ := hH.elim
  clear hH
  refine T.seq (T.region ?_)
  refine TO.quiet (q_lss rfl rfl) ?_
  refine TO.nil (T.seq ?_)
  refine T.condP rfl (fun hc => ?_) (fun hc => ?_)
  · have hlt63 : i < l.n := by omega
    have hpm := prod_marks hml2 hlt63 hxn hms2
    refine T.skip (T.seq (T.block (T.seq (T.region ?_))))
    refine TO.quiet (q_move rfl) (TO.quiet (q_assign rfl) ?_)
    refine TO.nil (T.region ?_)
    refine TO.quiet (q_fieldAddr Try.underlying79 rfl inf77 rfl rfl) (TO.quiet (q_load_box 1 Try.underlying77 rfl rfl rfl rfl) (TO.quiet (q_move rfl) (TO.quiet (q_load_box 4 Try.underlying3 rfl rfl rfl rfl) ?_)))
    refine TO.quiet (q_mulN (a := x) (b := l.n) rfl rfl (by have := Nat.mul_le_mul_right l.n (Nat.le_of_lt hxn); omega)) (TO.quiet (q_move rfl) (TO.quiet (q_addN (a := (x * l.n)) (b := i) rfl rfl (by omega)) (TO.quiet (q_move rfl) ?_)))
    refine TO.quiet (q_ix (i := ((x * l.n) + i)) Try.underlying77 inf52 rfl rfl (rowO (List.mem_of_getElem? (i := 3) rfl))) ?_
    refine TO.loud rfl (l_st (j := ((x * l.n) + i)) (v := .int .u64 ((le.2 : Nat) : Int)) (vs := [(.int .u64 ((le.2 : Nat) : Int))]) (cs := uns ms2) 3 inf52 rfl rfl rfl rfl rfl (by simp) rfl (by first | (simp; omega) | (simp_all; omega)) ?_)
    refine TO.sub (O' := [iterI KI VU mm it4 m9 (lA ++ lB) (some le), oI zG 79 [(.slice (some ⟨zN, 0, none⟩) (n * l.n) (n * l.n)), (.slice (some ⟨zM, 0, none⟩) (n * l.n) (n * l.n)), .int .u64 ((2 ^ b.sets.length - 1 : Nat) : Int)], rowI (some ⟨zN, 0, none⟩) (n * l.n) 22 1 (List.replicate (n * l.n) (.slice none 0 0)), rowI (some ⟨zM, 0, none⟩) (n * l.n) 52 1 (uns (ms2.set (x * l.n + i) le.2)), oI bx3 3 [(.int .i64 ((l.n : Nat) : Int))], oI bx2 29 (laCells l pb pc lb lc), oI bx1 26 (buCells b sb sc eb ec tb tc)]) (by rw [show putL (uns ms2) ((x * l.n) + i) [(.int .u64 ((le.2 : Nat) : Int))] = uns (ms2.set (x * l.n + i) le.2) from (by simp [putL])]; exact Sub.of (List.Sublist.refl _)) ?_
    refine TO.nil (T.region ?_)
    refine TO.quiet (q_addN (a := i) (b := 1) rfl rfl (by omega)) (TO.quiet (q_move rfl) ?_)
    refine TO.nil ?_
    exact ⟨i + 1, by omega, ms2.set (x * l.n + i) le.2, rfl, by omega, by simp [hml2], hpm.2, ⟨rfl, rfl, rfl, rfl, rfl, rfl, rfl, rfl, rfl, rfl, rfl, rfl, rfl, rfl, rfl, trivial⟩⟩
  have hge63 : ¬ i < l.n := by omega
  refine T.exit ?_
  subst hleft
  exact ⟨lA ++ lB, by simp, some le, ms2, rfl, fun q hq => hsub q (by rcases List.mem_append.1 hq with h | h <;> simp [h]), nodup_mid hnd, hml2, fun v hv9 => by
    rw [hms2 v hv9, ← marks_stepG hnd (hmp.val (hsub le (by simp))) hx (hms v hv9)]
    have := Nat.mod_lt v hL0
    by_cases e : v / l.n = x
    · rw [if_pos ⟨e, by omega⟩, if_pos e]
    · rw [if_neg (fun q => e q.1), if_neg e], ⟨rfl, rfl, rfl, rfl, rfl, rfl, rfl, rfl, rfl, rfl, rfl, trivial⟩⟩
end Go.Proofs.Ytnamoapbienooaa


namespace Go.Lx
open Go.RowKit
set_option linter.unusedVariables false
open Classical in
theorem accV_iff {b : Bu} {l : La} (he : checkB b = 0) (hel : checkLV b.vars l = 0) : accV b l = true ↔ Acc b l.at := by
  unfold accV
  rw [if_pos ⟨he, hel⟩, decide_eq_true_iff, accL_iff (checkB_zero.1 he) (checkL_loop hel).1]
theorem checkLV_of {v : Int} {l : La} (h0 : 0 ≤ v ∧ v ≤ 6) (hl : 0 < l.loop.length) (h1 : l.pre.length ≤ 64) (h2 : l.loop.length ≤ 64) (h3 : ∀ x ∈ l.pre, x < 2 ^ v.toNat) (h4 : ∀ x ∈ l.loop, x < 2 ^ v.toNat) : checkLV v l = 0 := by
  unfold checkLV checkL
  rw [if_neg (fun q => q h0), if_neg (by omega), if_neg (by omega), if_pos]
  exact ⟨List.all_eq_true.2 (fun x hx => decide_eq_true (h3 x hx)), List.all_eq_true.2 (fun x hx => decide_eq_true (h4 x hx))⟩
def alwB : Bu := { vars := 1, states := 2, start := [0], edges := [⟨0, 0, 0, 0⟩, ⟨0, 1, 1, 0⟩, ⟨1, 1, 1, 0⟩], sets := [[1]] }
def alwC : Bu := { alwB with sets := [[1], [0]] }
theorem alwB_check : checkB alwB = 0 := by decide
theorem alwC_check : checkB alwC = 0 := by decide
theorem alwB_valid : ValidB alwB := checkB_zero.1 alwB_check
def la1 : La := ⟨[0], [1]⟩
def la2 : La := ⟨[], [0, 1]⟩
theorem la1_check : checkLV alwB.vars la1 = 0 := by decide
theorem la2_check : checkLV alwB.vars la2 = 0 := by decide
theorem la1_at (i : Nat) : la1.at i = if i = 0 then 0 else 1 := by
  cases i with
  | zero => rfl
  | succ i => show (if i + 1 < 1 then _ else [1].getD ((i + 1 - 1) % max 1 1) 0) = _; rw [if_neg (by omega), if_neg (by omega), show max 1 1 = 1 from rfl, Nat.mod_one]; rfl
theorem la2_at (i : Nat) : la2.at i = i % 2 := by
  show (if i < 0 then _ else [0, 1].getD ((i - 0) % max 2 1) 0) = _
  rw [if_neg (by omega), Nat.sub_zero, show max 2 1 = 2 from rfl]
  have : i % 2 < 2 := Nat.mod_lt _ (by omega)
  generalize i % 2 = j at this ⊢
  match j, this with
  | 0, _ => rfl
  | 1, _ => rfl
theorem alw_edges {e : Ed} (h : e ∈ alwB.edges) : e = ⟨0, 0, 0, 0⟩ ∨ e = ⟨0, 1, 1, 0⟩ ∨ e = ⟨1, 1, 1, 0⟩ := by
  simpa [alwB] using h
theorem la1_acc : Acc alwB la1.at := by
  refine ⟨0, by simp [alwB], fun i => if i ≤ 1 then 0 else 1, rfl, fun i => ?_, fun S hS N => ?_⟩
  · rw [la1_at]
    show ∃ e ∈ alwB.edges, e.fr = ((if i ≤ 1 then 0 else 1 : Nat) : Int) ∧ e.to = ((if i + 1 ≤ 1 then 0 else 1 : Nat) : Int) ∧ _
    by_cases h0 : i = 0
    · subst h0; exact ⟨⟨0, 0, 0, 0⟩, by simp [alwB], rfl, rfl, by constructor <;> rfl⟩
    · by_cases h1 : i = 1
      · subst h1; exact ⟨⟨0, 1, 1, 0⟩, by simp [alwB], rfl, rfl, by constructor <;> rfl⟩
      · refine ⟨⟨1, 1, 1, 0⟩, by simp [alwB], ?_, ?_, ?_⟩
        · rw [if_neg (by omega)]; rfl
        · rw [if_neg (by omega)]; rfl
        · rw [if_neg h0]; constructor <;> rfl
  · have : S = [1] := by simpa [alwB] using hS
    subst this
    refine ⟨N + 2, by omega, ?_⟩
    show ((if N + 2 ≤ 1 then 0 else 1 : Nat) : Int) ∈ [(1 : Int)]
    rw [if_neg (by omega)]; simp
theorem la2_rej : ¬ Acc alwB la2.at := by
  rintro ⟨s, _, r, h⟩
  have stay : ∀ i, r i = 1 → r (i + 1) = 1 ∧ i % 2 = 1 := fun i hi => by
    obtain ⟨e, he, h1, h2, h3, _⟩ := h.st i
    rw [la2_at] at h3
    rcases alw_edges he with rfl | rfl | rfl
    · rw [hi] at h1; simp at h1
    · rw [hi] at h1; simp at h1
    · refine ⟨by have : (1 : Int) = r (i + 1) := h2; omega, ?_⟩
      have : i % 2 < 2 := Nat.mod_lt _ (by omega)
      by_cases e : i % 2 = 1
      · exact e
      · have e0 : i % 2 = 0 := by omega
        rw [e0] at h3; simp at h3
  obtain ⟨i, _, hi⟩ := h.inf [1] (by simp [alwB]) 0
  have hi' : r i = 1 := by simp at hi; omega
  have h1 := stay i hi'
  have h2 := stay (i + 1) h1.1
  omega
theorem alw_core : coreB alwB 1 := by
  refine ⟨⟨1, ⟨⟨1, 1, 1, 0⟩, by simp [alwB], rfl, rfl⟩, .refl _⟩, fun k hk => ?_⟩
  have hk' : k < 1 := hk
  have : k = 0 := by omega
  subst this
  exact ⟨1, ⟨by decide, [1], rfl, by simp⟩, .refl _, .refl _⟩
theorem alw_live1 : liveB alwB 1 := ⟨1, .refl _, alw_core⟩
theorem alw_live0 : liveB alwB 0 := ⟨1, .one ⟨⟨0, 1, 1, 0⟩, by simp [alwB], rfl, rfl⟩, alw_core⟩
theorem alw_lives : livesB alwB = [true, true] := by
  symm
  apply livesB_of alwB_check rfl
  intro v hv
  have hv' : v < 2 := hv
  match v, hv' with
  | 0, _ => exact ⟨fun _ => alw_live0, fun _ => rfl⟩
  | 1, _ => exact ⟨fun _ => alw_live1, fun _ => rfl⟩
theorem alw_wit : witE alwB = 0 := by
  unfold witE
  rw [if_neg (by rw [alwB_check]; exact fun h => h rfl), if_pos ⟨0, by simp [alwB], alw_live0⟩]
theorem alwC_stay {u v : Nat} (h : Rch (autE alwC) u v) : u = 1 → v = 1 := by
  induction h with
  | refl => exact id
  | step e h ih =>
    intro hu
    obtain ⟨ed, he, h1, h2⟩ := e
    apply ih
    rcases alw_edges he with rfl | rfl | rfl
    · rw [hu] at h1; simp at h1
    · rw [hu] at h1; simp at h1
    · have : (1 : Int) = _ := h2; omega
theorem alwC_nocore (u : Nat) : ¬ coreB alwC u := by
  rintro ⟨_, h⟩
  obtain ⟨x, ⟨_, S, h1, h2⟩, h3, h4⟩ := h 0 (by decide)
  obtain ⟨y, ⟨_, S', h5, h6⟩, h7, h8⟩ := h 1 (by decide)
  have e1 : S = [1] := by simpa [alwC] using h1.symm
  have e2 : S' = [0] := by simpa [alwC] using h5.symm
  subst e1; subst e2
  have hx : x = 1 := by simp at h2; omega
  have hy : y = 0 := by simp at h6; omega
  have := alwC_stay (h4.trans h7) hx
  omega
theorem alwC_dead (u : Nat) : ¬ liveB alwC u := fun ⟨x, _, h⟩ => alwC_nocore x h
theorem alwC_wit : witE alwC = 9 := by
  unfold witE
  rw [if_neg (by rw [alwC_check]; exact fun h => h rfl), if_neg (fun ⟨s, _, h⟩ => alwC_dead s h)]
theorem alwC_trim : (trimB alwC).states = 0 ∧ (trimB alwC).sets.length = 2 := by
  have hk : keepB alwC = [false, false] := by
    symm
    apply keepB_of rfl
    intro v hv
    constructor
    · intro h
      have hv' : v < 2 := hv
      match v, hv', h with
      | 0, _, h => cases h
      | 1, _, h => cases h
    · exact fun h => absurd h.1 (alwC_dead v)
  unfold trimB
  rw [if_pos alwC_check, hk]
  exact ⟨rfl, rfl⟩
theorem WitOf.chk {b : Bu} {c : La} (h : WitOf b c) (hv : ValidB b) (h1 : c.pre.length ≤ 64) (h2 : c.loop.length ≤ 64) : checkLV b.vars c = 0 :=
  checkLV_of ⟨hv.v0, hv.v6⟩ h.can.pos h1 h2 (fun x hx => by obtain ⟨e, he, rfl⟩ := h.mem x (.inl hx); exact (hv.cu e he).1) (fun x hx => by obtain ⟨e, he, rfl⟩ := h.mem x (.inr hx); exact (hv.cu e he).1)
theorem alw_witacc {c : La} (h : WitOf alwB c) : accV alwB c = true ∧ accE alwB c = 0 := by
  have hp : c.pre.length ≤ 2 := h.pre
  have hl : c.loop.length ≤ 2 * (1 + 1) := h.loop
  have hc := h.chk alwB_valid (by omega) (by omega)
  exact ⟨(accV_iff alwB_check hc).2 h.acc, by unfold accE; rw [if_pos alwB_check]; exact hc⟩
theorem WitOf.lab {b : Bu} {c : La} (h : WitOf b c) (hB : BuB b) (hv : ValidB b) : LaB c := by
  have h3 : b.states.toNat * (b.sets.length + 1) ≤ 4096 * 9 := Nat.mul_le_mul (by have := hv.n4; omega) (by have := hv.m8; omega)
  exact ⟨by have := h.pre; have := hv.n4; omega, by have := h.loop; omega, fun x hx => by obtain ⟨e, he, rfl⟩ := h.mem x (.inl hx); exact (hB.pn e he).1, fun x hx => by obtain ⟨e, he, rfl⟩ := h.mem x (.inr hx); exact (hB.pn e he).1⟩
theorem alwB_B : BuB alwB := ⟨by decide, by decide, by decide, by decide, by decide⟩
theorem alwC_B : BuB alwC := ⟨by decide, by decide, by decide, by decide, by decide⟩
end Go.Lx


namespace Go.Proofs.Ytnamoapbienooaa
open Go.Lx Go.RowKit
set_option linter.unusedVariables false
set_option linter.unusedSimpArgs false
set_option maxHeartbeats 1000000 in
set_option maxRecDepth 20000 in
theorem alwaysF (w : World) :
    PureT Try.prog 44 [] w fun v N => ∃ sb eb tb qb, v = .agg (buCells alwB sb 1 eb 3 tb 1).toArray ∧ N = [rowI sb 1 3 1 (ints alwB.start), rowI eb 3 54 4 (edsC alwB.edges), rowI tb 1 22 1 [.slice qb 1 1], rowI qb 1 3 1 (ints [1])] := by
  refine CallT.enter Try.func44 rfl Try.ntmps44 rfl ?_
  refine T.seq (T.region ?_)
  refine TO.loud rfl (l_alloc inf26 rfl (fun bx1 => ?_))
  refine TO.nil (T.seq (T.region ?_))
  refine TO.loud rfl (l_build1 (v := .int .i64 0) Try.underlying22 inf3 rfl rfl rfl (fun bx2 => ?_))
  refine TO.quiet (q_build (cs := [.int .i64 0, .int .i64 0, (.int .u8 0), (.int .u8 0)]) plan54 inf54 (by kernel_rfl)) (TO.quiet (q_build (cs := [.int .i64 0, .int .i64 1, .int .u8 1, (.int .u8 0)]) plan54 inf54 (by kernel_rfl)) (TO.quiet (q_build (cs := [.int .i64 1, .int .i64 1, .int .u8 1, (.int .u8 0)]) plan54 inf54 (by kernel_rfl)) ?_))
  refine TO.loud rfl (l_buildSlice (m := 3) (parts := [(0, _), (1, _), (2, _)]) (cs := [.int .i64 0, .int .i64 0, (.int .u8 0), (.int .u8 0), .int .i64 0, .int .i64 1, .int .u8 1, (.int .u8 0), .int .i64 1, .int .i64 1, .int .u8 1, (.int .u8 0)]) Try.underlying23 inf54 (by decide) (by kernel_rfl) rfl (fun bx3 => ?_))
  refine TO.loud rfl (l_build1 (v := .int .i64 1) Try.underlying22 inf3 rfl rfl rfl (fun bx4 => ?_))
  refine TO.loud rfl (l_build1 (v := (.slice (some ⟨bx4, 0, none⟩) 1 1)) Try.underlying24 inf22 rfl rfl rfl (fun bx5 => ?_))
  refine TO.quiet (q_build (cs := [.int .i64 1, .int .i64 2, (.slice (some ⟨bx2, 0, none⟩) 1 1), (.slice (some ⟨bx3, 0, none⟩) 3 3), (.slice (some ⟨bx5, 0, none⟩) 1 1)]) plan26 inf26 (by kernel_rfl)) ?_
  refine TO.loud rfl (l_store_box (v := (.agg #[.int .i64 1, .int .i64 2, (.slice (some ⟨bx2, 0, none⟩) 1 1), (.slice (some ⟨bx3, 0, none⟩) 3 3), (.slice (some ⟨bx5, 0, none⟩) 1 1)])) (vs := [.int .i64 1, .int .i64 2, (.slice (some ⟨bx2, 0, none⟩) 1 1), (.slice (some ⟨bx3, 0, none⟩) 3 3), (.slice (some ⟨bx5, 0, none⟩) 1 1)]) 4 inf26 rfl rfl rfl rfl rfl rfl (by simp [putL]) ?_)
  refine TO.nil (T.ret (Res.drop ?_))
  refine Res.cell1 (i := 4) Try.results44 Try.underlying26 rfl inf26 rfl rfl rfl ?_
  exact ⟨[rowI (some ⟨bx2, 0, none⟩) 1 3 1 [.int .i64 0], rowI (some ⟨bx3, 0, none⟩) 3 54 4 [.int .i64 0, .int .i64 0, (.int .u8 0), (.int .u8 0), .int .i64 0, .int .i64 1, .int .u8 1, (.int .u8 0), .int .i64 1, .int .i64 1, .int .u8 1, (.int .u8 0)], rowI (some ⟨bx5, 0, none⟩) 1 22 1 [(.slice (some ⟨bx4, 0, none⟩) 1 1)], rowI (some ⟨bx4, 0, none⟩) 1 3 1 [.int .i64 1]], (Sub.pick [3, 2, 0, 0] rfl), _, _, _, _, rfl, rfl⟩
theorem accAlw1 (w : World) (sb eb tb : Option Addr) (sc ec tc : Nat) (vs : List Value) (h : BuAt w alwB sb eb tb vs) (pb lb : Option Addr) (pc lc : Nat) (h2 : LaAt w la1 pb lb pc lc) :
    PureT Try.prog 17 [.agg (buCells alwB sb sc eb ec tb tc).toArray, .agg (laCells la1 pb pc lb lc).toArray] w fun v N => v = .tuple #[.bool true, .int .i64 0] ∧ N = [] := by
  have h9 := acceptsF w alwB sb eb tb sc ec tc vs h alwB_B la1 pb lb pc lc h2 ⟨by decide, by decide, by decide, by decide⟩ (by decide)
  rw [(accV_iff alwB_check la1_check).2 la1_acc, show accE alwB la1 = 0 from rfl] at h9
  exact h9
theorem accAlw2 (w : World) (sb eb tb : Option Addr) (sc ec tc : Nat) (vs : List Value) (h : BuAt w alwB sb eb tb vs) (pb lb : Option Addr) (pc lc : Nat) (h2 : LaAt w la2 pb lb pc lc) :
    PureT Try.prog 17 [.agg (buCells alwB sb sc eb ec tb tc).toArray, .agg (laCells la2 pb pc lb lc).toArray] w fun v N => v = .tuple #[.bool false, .int .i64 0] ∧ N = [] := by
  have h9 := acceptsF w alwB sb eb tb sc ec tc vs h alwB_B la2 pb lb pc lc h2 ⟨by decide, by decide, by decide, by decide⟩ (by decide)
  rw [show accV alwB la2 = false by rw [← Bool.not_eq_true]; exact fun q => la2_rej ((accV_iff alwB_check la2_check).1 q), show accE alwB la2 = 0 from rfl] at h9
  exact h9
theorem livAlw (w : World) (sb eb tb : Option Addr) (sc ec tc : Nat) (vs : List Value) (h : BuAt w alwB sb eb tb vs) :
    PureT Try.prog 19 [.agg (buCells alwB sb sc eb ec tb tc).toArray] w fun v N => ∃ lb lc, v = .tuple #[.slice lb 2 lc, .int .i64 0] ∧ N = [rowI lb lc 4 1 (bools [true, true])] := by
  have h9 := livesF w alwB sb eb tb sc ec tc vs h alwB_B
  rw [alw_lives, alwB_check] at h9
  exact h9
theorem witAlw (w : World) (sb eb tb : Option Addr) (sc ec tc : Nat) (vs : List Value) (h : BuAt w alwB sb eb tb vs) :
    PureT Try.prog 27 [.agg (buCells alwB sb sc eb ec tb tc).toArray] w fun v N => ∃ (c : La) (pb lb : Option Addr) (pc lc : Nat), v = .tuple #[.agg (laCells c pb pc lb lc).toArray, .int .i64 0] ∧ N = [rowI pb pc 5 1 (byts c.pre), rowI lb lc 5 1 (byts c.loop)] ∧ WitOf alwB c :=
  (witnessF w alwB sb eb tb sc ec tc vs h alwB_B).mono fun v N ⟨c, pb, lb, pc, lc, e, h1, h2, h3, h4, h5⟩ => ⟨c, pb, lb, pc, lc, by rw [h1, h3, alw_wit]; rfl, h2, h5 (by rw [h3, alw_wit])⟩
theorem witAlwC (w : World) (sb eb tb : Option Addr) (sc ec tc : Nat) (vs : List Value) (h : BuAt w alwC sb eb tb vs) :
    PureT Try.prog 27 [.agg (buCells alwC sb sc eb ec tb tc).toArray] w fun v N => ∃ (pb lb : Option Addr) (pc lc : Nat), v = .tuple #[.agg (laCells ⟨[], []⟩ pb pc lb lc).toArray, .int .i64 9] ∧ N = [rowI pb pc 5 1 [], rowI lb lc 5 1 []] :=
  (witnessF w alwC sb eb tb sc ec tc vs h alwC_B).mono fun v N ⟨c, pb, lb, pc, lc, e, h1, h2, h3, h4, h5⟩ => by
    have he : e = 9 := by rw [h3, alwC_wit]
    have hc := h4 (by omega)
    subst he; subst hc
    exact ⟨pb, lb, pc, lc, h1, h2⟩
theorem trmAlwC (w : World) (sb eb tb : Option Addr) (sc ec tc : Nat) (vs : List Value) (h : BuAt w alwC sb eb tb vs) :
    PureT Try.prog 28 [.agg (buCells alwC sb sc eb ec tb tc).toArray] w fun v N => ∃ (z0 : Int) (sb2 : Option Addr) (n1 sc2 : Nat) (eb2 : Option Addr) (n2 ec2 : Nat) (tb2 : Option Addr) (tc2 : Nat), v = .tuple #[.agg #[.int .i64 z0, .int .i64 0, .slice sb2 n1 sc2, .slice eb2 n2 ec2, .slice tb2 2 tc2], .int .i64 0] :=
  (trimF w alwC sb eb tb sc ec tc vs h alwC_B).mono fun v N ⟨sb2, eb2, tb2, sc2, ec2, tc2, qs, h1, h2, h3⟩ => ⟨(trimB alwC).vars, sb2, (trimB alwC).start.length, sc2, eb2, (trimB alwC).edges.length, ec2, tb2, tc2, by rw [h1, alwC_check]; show Value.tuple #[.agg (buCells (trimB alwC) sb2 sc2 eb2 ec2 tb2 tc2).toArray, _] = _; simp only [buCells, alwC_trim.1, alwC_trim.2]; rfl⟩
theorem accWit (w : World) (sb eb tb : Option Addr) (sc ec tc : Nat) (vs : List Value) (h : BuAt w alwB sb eb tb vs) (c : La) (hw : WitOf alwB c) (pb lb : Option Addr) (pc lc : Nat) (h2 : LaAt w c pb lb pc lc) :
    PureT Try.prog 17 [.agg (buCells alwB sb sc eb ec tb tc).toArray, .agg (laCells c pb pc lb lc).toArray] w fun v N => v = .tuple #[.bool true, .int .i64 0] ∧ N = [] := by
  have h9 := acceptsF w alwB sb eb tb sc ec tc vs h alwB_B c pb lb pc lc h2 (hw.lab alwB_B alwB_valid) (by decide)
  rw [(alw_witacc hw).1, (alw_witacc hw).2] at h9
  exact h9
end Go.Proofs.Ytnamoapbienooaa


namespace Go.Proofs.Ytnamoapbienooaa
open Go.Lx Go.RowKit
set_option linter.unusedVariables false
set_option linter.unusedSimpArgs false
set_option maxHeartbeats 4000000 in
set_option maxRecDepth 20000 in
theorem awakeF (w : World) : PureT Try.prog 14 [] w fun v N => v = .bool true ∧ N = [] := by
  refine CallT.enter Try.func14 rfl Try.ntmps14 rfl ?_
  refine T.seq (T.region ?_)
  refine TO.quiet (q_assign rfl) ?_
  refine TO.nil (T.seq (T.region ?_))
  have hk17 := fun (w1 : World) (hI : Inv w [] w1) => alwaysF w1
  refine TO.loud rfl (l_call ent44 (CallT.of_pure hk17) rfl ?_)
  clear hk17
  rintro vr O' ⟨N, rfl, sb1, eb1, tb1, qb1, rfl, rfl⟩
  have hk18 := fun (w1 : World) (hI : Inv w [rowI sb1 1 3 1 (ints alwB.start), rowI eb1 3 54 4 (edsC alwB.edges), rowI tb1 1 22 1 [(.slice qb1 1 1)], rowI qb1 1 3 1 (ints [1])] w1) => alwaysF w1
  refine TO.loud rfl (l_call ent44 (CallT.of_pure hk18) rfl ?_)
  clear hk18
  rintro vr O' ⟨N, rfl, sb2, eb2, tb2, qb2, rfl, rfl⟩
  refine TO.loud rfl (l_alloc inf26 rfl (fun bx1 => ?_))
  refine TO.loud rfl (l_alloc inf26 rfl (fun bx2 => ?_))
  refine TO.loud rfl (l_store_box (v := (.agg #[(.int .i64 1), (.int .i64 2), (.slice sb1 1 1), (.slice eb1 3 3), (.slice tb1 1 1)])) (vs := [(.int .i64 1), (.int .i64 2), (.slice sb1 1 1), (.slice eb1 3 3), (.slice tb1 1 1)]) 1 inf26 rfl rfl rfl rfl rfl rfl (by simp [putL]) ?_)
  refine TO.loud rfl (l_store_box (v := (.agg #[(.int .i64 1), (.int .i64 2), (.slice sb2 1 1), (.slice eb2 3 3), (.slice tb2 1 1)])) (vs := [(.int .i64 1), (.int .i64 2), (.slice sb2 1 1), (.slice eb2 3 3), (.slice tb2 1 1)]) 0 inf26 rfl rfl rfl rfl rfl rfl (by simp [putL]) ?_)
  refine TO.nil (T.seq (T.region ?_))
  refine TO.quiet (q_fieldAddr Try.underlying26 rfl inf24 rfl rfl) (TO.quiet (q_load_box 0 Try.underlying24 rfl rfl rfl rfl) ?_)
  refine TO.loud rfl (l_build1 (v := .int .i64 0) Try.underlying22 inf3 rfl rfl rfl (fun bx3 => ?_))
  refine TO.loud rfl (l_build1 (v := (.slice (some ⟨bx3, 0, none⟩) 1 1)) Try.underlying24 inf22 rfl rfl rfl (fun bx4 => ?_))
  refine TO.loud rfl (l_append 6 Try.underlying24 Try.underlying24 inf22 rfl rfl rfl rfl (by simp) (by decide) (Src.row (j := 0) rfl (by simp)) (by simp [oneB]) (by omega) (by decide) (by decide) (fun bx5 c6 => ?_))
  refine TO.quiet (q_fieldAddr Try.underlying26 rfl inf24 rfl rfl) ?_
  refine TO.loud rfl (l_store_box (v := (.slice bx5 (1 + 1) c6)) (vs := [(.slice bx5 (1 + 1) c6)]) 2 inf24 rfl rfl rfl rfl rfl rfl (by simp [putL]) ?_)
  refine TO.sub (O' := [rowI (some ⟨bx4, 0, none⟩) 1 22 1 [(.slice (some ⟨bx3, 0, none⟩) 1 1)], rowI (some ⟨bx3, 0, none⟩) 1 3 1 [.int .i64 0], oI bx2 26 [(.int .i64 1), (.int .i64 2), (.slice sb2 1 1), (.slice eb2 3 3), (.slice bx5 (1 + 1) c6)], oI bx1 26 [(.int .i64 1), (.int .i64 2), (.slice sb1 1 1), (.slice eb1 3 3), (.slice tb1 1 1)], rowI sb2 1 3 1 (ints alwB.start), rowI eb2 3 54 4 (edsC alwB.edges), rowI bx5 c6 22 1 ([(.slice qb2 1 1)] ++ [(.slice (some ⟨bx3, 0, none⟩) 1 1)]), rowI qb2 1 3 1 (ints [1]), rowI sb1 1 3 1 (ints alwB.start), rowI eb1 3 54 4 (edsC alwB.edges), rowI tb1 1 22 1 [(.slice qb1 1 1)], rowI qb1 1 3 1 (ints [1])]) (Sub.pick [0, 0, 0, 0, 0, 0, 0, 0, 0, 0, 0, 0] rfl) ?_
  refine TO.nil (T.seq ?_)
  
  refine T.region ?_
  refine TO.quiet (q_load_boxAgg 3 Try.underlying26 rfl inf26 rfl rfl rfl) ?_
  refine TO.loud rfl (l_build1 (v := .int .u8 0) Try.underlying27 inf5 rfl rfl rfl (fun bx7 => ?_))
  refine TO.loud rfl (l_build1 (v := .int .u8 1) Try.underlying27 inf5 rfl rfl rfl (fun bx8 => ?_))
  refine TO.quiet (q_build (cs := [(.slice (some ⟨bx7, 0, none⟩) 1 1), (.slice (some ⟨bx8, 0, none⟩) 1 1)]) plan29 inf29 (by kernel_rfl)) ?_
  have hk30 := fun (w1 : World) (hI : Inv w [rowI (some ⟨bx8, 0, none⟩) 1 5 1 [.int .u8 1], rowI (some ⟨bx7, 0, none⟩) 1 5 1 [.int .u8 0], rowI (some ⟨bx4, 0, none⟩) 1 22 1 [(.slice (some ⟨bx3, 0, none⟩) 1 1)], rowI (some ⟨bx3, 0, none⟩) 1 3 1 [.int .i64 0], oI bx2 26 [(.int .i64 1), (.int .i64 2), (.slice sb2 1 1), (.slice eb2 3 3), (.slice bx5 (1 + 1) c6)], oI bx1 26 [(.int .i64 1), (.int .i64 2), (.slice sb1 1 1), (.slice eb1 3 3), (.slice tb1 1 1)], rowI sb2 1 3 1 (ints alwB.start), rowI eb2 3 54 4 (edsC alwB.edges), rowI bx5 c6 22 1 ([(.slice qb2 1 1)] ++ [(.slice (some ⟨bx3, 0, none⟩) 1 1)]), rowI qb2 1 3 1 (ints [1]), rowI sb1 1 3 1 (ints alwB.start), rowI eb1 3 54 4 (edsC alwB.edges), rowI tb1 1 22 1 [(.slice qb1 1 1)], rowI qb1 1 3 1 (ints [1])] w1) => accAlw1 w1 sb1 eb1 tb1 1 3 1 [.slice qb1 1 1] ⟨(hI.slOf (List.mem_of_getElem? (i := 10) rfl)), (hI.slOf (List.mem_of_getElem? (i := 11) rfl)), (hI.slOf (List.mem_of_getElem? (i := 12) rfl)), (RowsR.cons (⟨rfl, fun i r h9 => by simp at h9⟩ : RowsR w1 [] []) (b := qb1) (c := 1) (hI.slOf (List.mem_of_getElem? (i := 13) rfl)))⟩ (some ⟨bx7, 0, none⟩) (some ⟨bx8, 0, none⟩) 1 1 ⟨(hI.slOf (List.mem_of_getElem? (i := 1) rfl)), (hI.slOf (List.mem_of_getElem? (i := 0) rfl)), Nat.le_refl _, Nat.le_refl _⟩
  refine TO.loud rfl (l_call ent17 (CallT.of_pure hk30) rfl ?_)
  clear hk30
  rintro vr O' ⟨N, rfl, rfl, rfl⟩
  refine TO.quiet (q_move rfl) (TO.quiet (q_extract (vs := _) rfl rfl) (TO.quiet (q_extract (vs := _) rfl rfl) (TO.quiet (q_assign rfl) ?_)))
  refine TO.quiet (q_assign rfl) ?_
  refine TO.nil (T.seq (T.region ?_))
  refine TO.quiet (q_load_boxAgg 5 Try.underlying26 rfl inf26 rfl rfl rfl) ?_
  refine TO.loud rfl (l_buildSlice (m := 2) (parts := [(0, .const (.int .u8 0)), (1, .const (.int .u8 1))]) (cs := [.int .u8 0, .int .u8 1]) Try.underlying27 inf5 (by decide) (by kernel_rfl) rfl (fun bx9 => ?_))
  refine TO.quiet (q_build (cs := [(.slice none 0 0), (.slice (some ⟨bx9, 0, none⟩) 2 2)]) plan29 inf29 (by kernel_rfl)) ?_
  have hk37 := fun (w1 : World) (hI : Inv w [rowI (some ⟨bx9, 0, none⟩) 2 5 1 [.int .u8 0, .int .u8 1], rowI (some ⟨bx8, 0, none⟩) 1 5 1 [.int .u8 1], rowI (some ⟨bx7, 0, none⟩) 1 5 1 [.int .u8 0], rowI (some ⟨bx4, 0, none⟩) 1 22 1 [(.slice (some ⟨bx3, 0, none⟩) 1 1)], rowI (some ⟨bx3, 0, none⟩) 1 3 1 [.int .i64 0], oI bx2 26 [(.int .i64 1), (.int .i64 2), (.slice sb2 1 1), (.slice eb2 3 3), (.slice bx5 (1 + 1) c6)], oI bx1 26 [(.int .i64 1), (.int .i64 2), (.slice sb1 1 1), (.slice eb1 3 3), (.slice tb1 1 1)], rowI sb2 1 3 1 (ints alwB.start), rowI eb2 3 54 4 (edsC alwB.edges), rowI bx5 c6 22 1 ([(.slice qb2 1 1)] ++ [(.slice (some ⟨bx3, 0, none⟩) 1 1)]), rowI qb2 1 3 1 (ints [1]), rowI sb1 1 3 1 (ints alwB.start), rowI eb1 3 54 4 (edsC alwB.edges), rowI tb1 1 22 1 [(.slice qb1 1 1)], rowI qb1 1 3 1 (ints [1])] w1) => accAlw2 w1 sb1 eb1 tb1 1 3 1 [.slice qb1 1 1] ⟨(hI.slOf (List.mem_of_getElem? (i := 11) rfl)), (hI.slOf (List.mem_of_getElem? (i := 12) rfl)), (hI.slOf (List.mem_of_getElem? (i := 13) rfl)), (RowsR.cons (⟨rfl, fun i r h9 => by simp at h9⟩ : RowsR w1 [] []) (b := qb1) (c := 1) (hI.slOf (List.mem_of_getElem? (i := 14) rfl)))⟩ none (some ⟨bx9, 0, none⟩) 0 2 ⟨Sl.nil _ _, (hI.slOf (List.mem_of_getElem? (i := 0) rfl)), Nat.le_refl _, Nat.le_refl _⟩
  refine TO.loud rfl (l_call ent17 (CallT.of_pure hk37) rfl ?_)
  clear hk37
  rintro vr O' ⟨N, rfl, rfl, rfl⟩
  refine TO.quiet (q_move rfl) (TO.quiet (q_extract (vs := _) rfl rfl) (TO.quiet (q_extract (vs := _) rfl rfl) (TO.quiet (q_assign rfl) ?_)))
  refine TO.quiet (q_assign rfl) ?_
  refine TO.nil (T.seq (T.region ?_))
  refine TO.quiet (q_load_boxAgg 6 Try.underlying26 rfl inf26 rfl rfl rfl) ?_
  have hk42 := fun (w1 : World) (hI : Inv w [rowI (some ⟨bx9, 0, none⟩) 2 5 1 [.int .u8 0, .int .u8 1], rowI (some ⟨bx8, 0, none⟩) 1 5 1 [.int .u8 1], rowI (some ⟨bx7, 0, none⟩) 1 5 1 [.int .u8 0], rowI (some ⟨bx4, 0, none⟩) 1 22 1 [(.slice (some ⟨bx3, 0, none⟩) 1 1)], rowI (some ⟨bx3, 0, none⟩) 1 3 1 [.int .i64 0], oI bx2 26 [(.int .i64 1), (.int .i64 2), (.slice sb2 1 1), (.slice eb2 3 3), (.slice bx5 (1 + 1) c6)], oI bx1 26 [(.int .i64 1), (.int .i64 2), (.slice sb1 1 1), (.slice eb1 3 3), (.slice tb1 1 1)], rowI sb2 1 3 1 (ints alwB.start), rowI eb2 3 54 4 (edsC alwB.edges), rowI bx5 c6 22 1 ([(.slice qb2 1 1)] ++ [(.slice (some ⟨bx3, 0, none⟩) 1 1)]), rowI qb2 1 3 1 (ints [1]), rowI sb1 1 3 1 (ints alwB.start), rowI eb1 3 54 4 (edsC alwB.edges), rowI tb1 1 22 1 [(.slice qb1 1 1)], rowI qb1 1 3 1 (ints [1])] w1) => livAlw w1 sb1 eb1 tb1 1 3 1 [.slice qb1 1 1] ⟨(hI.slOf (List.mem_of_getElem? (i := 11) rfl)), (hI.slOf (List.mem_of_getElem? (i := 12) rfl)), (hI.slOf (List.mem_of_getElem? (i := 13) rfl)), (RowsR.cons (⟨rfl, fun i r h9 => by simp at h9⟩ : RowsR w1 [] []) (b := qb1) (c := 1) (hI.slOf (List.mem_of_getElem? (i := 14) rfl)))⟩
  refine TO.loud rfl (l_call ent19 (CallT.of_pure hk42) rfl ?_)
  clear hk42
  rintro vr O' ⟨N, rfl, lb, lc, rfl, rfl⟩
  refine TO.quiet (q_move rfl) (TO.quiet (q_extract (vs := _) rfl rfl) (TO.quiet (q_extract (vs := _) rfl rfl) (TO.quiet (q_assign rfl) ?_)))
  refine TO.quiet (q_assign rfl) ?_
  refine TO.nil (T.seq (T.region ?_))
  refine TO.quiet (q_load_boxAgg 7 Try.underlying26 rfl inf26 rfl rfl rfl) ?_
  have hk47 := fun (w1 : World) (hI : Inv w [rowI lb lc 4 1 (bools [true, true]), rowI (some ⟨bx9, 0, none⟩) 2 5 1 [.int .u8 0, .int .u8 1], rowI (some ⟨bx8, 0, none⟩) 1 5 1 [.int .u8 1], rowI (some ⟨bx7, 0, none⟩) 1 5 1 [.int .u8 0], rowI (some ⟨bx4, 0, none⟩) 1 22 1 [(.slice (some ⟨bx3, 0, none⟩) 1 1)], rowI (some ⟨bx3, 0, none⟩) 1 3 1 [.int .i64 0], oI bx2 26 [(.int .i64 1), (.int .i64 2), (.slice sb2 1 1), (.slice eb2 3 3), (.slice bx5 (1 + 1) c6)], oI bx1 26 [(.int .i64 1), (.int .i64 2), (.slice sb1 1 1), (.slice eb1 3 3), (.slice tb1 1 1)], rowI sb2 1 3 1 (ints alwB.start), rowI eb2 3 54 4 (edsC alwB.edges), rowI bx5 c6 22 1 ([(.slice qb2 1 1)] ++ [(.slice (some ⟨bx3, 0, none⟩) 1 1)]), rowI qb2 1 3 1 (ints [1]), rowI sb1 1 3 1 (ints alwB.start), rowI eb1 3 54 4 (edsC alwB.edges), rowI tb1 1 22 1 [(.slice qb1 1 1)], rowI qb1 1 3 1 (ints [1])] w1) => witAlw w1 sb1 eb1 tb1 1 3 1 [.slice qb1 1 1] ⟨(hI.slOf (List.mem_of_getElem? (i := 12) rfl)), (hI.slOf (List.mem_of_getElem? (i := 13) rfl)), (hI.slOf (List.mem_of_getElem? (i := 14) rfl)), (RowsR.cons (⟨rfl, fun i r h9 => by simp at h9⟩ : RowsR w1 [] []) (b := qb1) (c := 1) (hI.slOf (List.mem_of_getElem? (i := 15) rfl)))⟩
  refine TO.loud rfl (l_call ent27 (CallT.of_pure hk47) rfl ?_)
  clear hk47
  rintro vr O' ⟨N, rfl, c, wp, wl, wpc, wlc, rfl, rfl, hw⟩
  refine TO.quiet (q_move rfl) (TO.quiet (q_extract (vs := _) rfl rfl) (TO.quiet (q_extract (vs := _) rfl rfl) ?_))
  refine TO.loud rfl (l_alloc inf29 rfl (fun bx10 => ?_))
  refine TO.loud rfl (l_store_box (v := (.agg (laCells c wp wpc wl wlc).toArray)) (vs := (laCells c wp wpc wl wlc)) 0 inf29 rfl rfl rfl rfl rfl rfl (by simp [putL]) ?_)
  refine TO.quiet (q_assign rfl) ?_
  refine TO.nil (T.seq (T.region ?_))
  refine TO.quiet (q_load_boxAgg 9 Try.underlying26 rfl inf26 rfl rfl rfl) ?_
  have hk52 := fun (w1 : World) (hI : Inv w [oI bx10 29 (laCells c wp wpc wl wlc), rowI wp wpc 5 1 (byts c.pre), rowI wl wlc 5 1 (byts c.loop), rowI lb lc 4 1 (bools [true, true]), rowI (some ⟨bx9, 0, none⟩) 2 5 1 [.int .u8 0, .int .u8 1], rowI (some ⟨bx8, 0, none⟩) 1 5 1 [.int .u8 1], rowI (some ⟨bx7, 0, none⟩) 1 5 1 [.int .u8 0], rowI (some ⟨bx4, 0, none⟩) 1 22 1 [(.slice (some ⟨bx3, 0, none⟩) 1 1)], rowI (some ⟨bx3, 0, none⟩) 1 3 1 [.int .i64 0], oI bx2 26 [(.int .i64 1), (.int .i64 2), (.slice sb2 1 1), (.slice eb2 3 3), (.slice bx5 (1 + 1) c6)], oI bx1 26 [(.int .i64 1), (.int .i64 2), (.slice sb1 1 1), (.slice eb1 3 3), (.slice tb1 1 1)], rowI sb2 1 3 1 (ints alwB.start), rowI eb2 3 54 4 (edsC alwB.edges), rowI bx5 c6 22 1 ([(.slice qb2 1 1)] ++ [(.slice (some ⟨bx3, 0, none⟩) 1 1)]), rowI qb2 1 3 1 (ints [1]), rowI sb1 1 3 1 (ints alwB.start), rowI eb1 3 54 4 (edsC alwB.edges), rowI tb1 1 22 1 [(.slice qb1 1 1)], rowI qb1 1 3 1 (ints [1])] w1) => witAlwC w1 sb2 eb2 bx5 1 3 c6 [.slice qb2 1 1, .slice (some ⟨bx3, 0, none⟩) 1 1] ⟨(hI.slOf (List.mem_of_getElem? (i := 11) rfl)), (hI.slOf (List.mem_of_getElem? (i := 12) rfl)), (hI.slOf (List.mem_of_getElem? (i := 13) rfl)), (RowsR.cons (RowsR.cons (⟨rfl, fun i r h9 => by simp at h9⟩ : RowsR w1 [] []) (b := (some ⟨bx3, 0, none⟩)) (c := 1) (hI.slOf (List.mem_of_getElem? (i := 8) rfl))) (b := qb2) (c := 1) (hI.slOf (List.mem_of_getElem? (i := 14) rfl)))⟩
  refine TO.loud rfl (l_call ent27 (CallT.of_pure hk52) rfl ?_)
  clear hk52
  rintro vr O' ⟨N, rfl, xp, xl, xpc, xlc, rfl, rfl⟩
  refine TO.quiet (q_move rfl) (TO.quiet (q_extract (vs := _) rfl rfl) (TO.quiet (q_extract (vs := _) rfl rfl) ?_))
  refine TO.loud rfl (l_alloc inf29 rfl (fun bx11 => ?_))
  refine TO.loud rfl (l_store_box (v := (.agg #[(.slice xp 0 xpc), (.slice xl 0 xlc)])) (vs := [(.slice xp 0 xpc), (.slice xl 0 xlc)]) 0 inf29 rfl rfl rfl rfl rfl rfl (by simp [putL]) ?_)
  refine TO.quiet (q_assign rfl) ?_
  refine TO.nil (T.seq (T.region ?_))
  refine TO.quiet (q_load_boxAgg 12 Try.underlying26 rfl inf26 rfl rfl rfl) ?_
  have hk57 := fun (w1 : World) (hI : Inv w [oI bx11 29 [(.slice xp 0 xpc), (.slice xl 0 xlc)], rowI xp xpc 5 1 [], rowI xl xlc 5 1 [], oI bx10 29 (laCells c wp wpc wl wlc), rowI wp wpc 5 1 (byts c.pre), rowI wl wlc 5 1 (byts c.loop), rowI lb lc 4 1 (bools [true, true]), rowI (some ⟨bx9, 0, none⟩) 2 5 1 [.int .u8 0, .int .u8 1], rowI (some ⟨bx8, 0, none⟩) 1 5 1 [.int .u8 1], rowI (some ⟨bx7, 0, none⟩) 1 5 1 [.int .u8 0], rowI (some ⟨bx4, 0, none⟩) 1 22 1 [(.slice (some ⟨bx3, 0, none⟩) 1 1)], rowI (some ⟨bx3, 0, none⟩) 1 3 1 [.int .i64 0], oI bx2 26 [(.int .i64 1), (.int .i64 2), (.slice sb2 1 1), (.slice eb2 3 3), (.slice bx5 (1 + 1) c6)], oI bx1 26 [(.int .i64 1), (.int .i64 2), (.slice sb1 1 1), (.slice eb1 3 3), (.slice tb1 1 1)], rowI sb2 1 3 1 (ints alwB.start), rowI eb2 3 54 4 (edsC alwB.edges), rowI bx5 c6 22 1 ([(.slice qb2 1 1)] ++ [(.slice (some ⟨bx3, 0, none⟩) 1 1)]), rowI qb2 1 3 1 (ints [1]), rowI sb1 1 3 1 (ints alwB.start), rowI eb1 3 54 4 (edsC alwB.edges), rowI tb1 1 22 1 [(.slice qb1 1 1)], rowI qb1 1 3 1 (ints [1])] w1) => trmAlwC w1 sb2 eb2 bx5 1 3 c6 [.slice qb2 1 1, .slice (some ⟨bx3, 0, none⟩) 1 1] ⟨(hI.slOf (List.mem_of_getElem? (i := 14) rfl)), (hI.slOf (List.mem_of_getElem? (i := 15) rfl)), (hI.slOf (List.mem_of_getElem? (i := 16) rfl)), (RowsR.cons (RowsR.cons (⟨rfl, fun i r h9 => by simp at h9⟩ : RowsR w1 [] []) (b := (some ⟨bx3, 0, none⟩)) (c := 1) (hI.slOf (List.mem_of_getElem? (i := 11) rfl))) (b := qb2) (c := 1) (hI.slOf (List.mem_of_getElem? (i := 17) rfl)))⟩
  refine TO.loud rfl (l_call ent28 (CallT.of_pure hk57) rfl ?_)
  clear hk57
  rintro vr O' ⟨N, rfl, z0, s3, n1, c3, e3, n2, d3, t3, f3, rfl⟩
  refine TO.sub (O' := ([oI bx11 29 [(.slice xp 0 xpc), (.slice xl 0 xlc)], rowI xp xpc 5 1 [], rowI xl xlc 5 1 [], oI bx10 29 (laCells c wp wpc wl wlc), rowI wp wpc 5 1 (byts c.pre), rowI wl wlc 5 1 (byts c.loop), rowI lb lc 4 1 (bools [true, true]), rowI (some ⟨bx9, 0, none⟩) 2 5 1 [.int .u8 0, .int .u8 1], rowI (some ⟨bx8, 0, none⟩) 1 5 1 [.int .u8 1], rowI (some ⟨bx7, 0, none⟩) 1 5 1 [.int .u8 0], rowI (some ⟨bx4, 0, none⟩) 1 22 1 [(.slice (some ⟨bx3, 0, none⟩) 1 1)], rowI (some ⟨bx3, 0, none⟩) 1 3 1 [.int .i64 0], oI bx2 26 [(.int .i64 1), (.int .i64 2), (.slice sb2 1 1), (.slice eb2 3 3), (.slice bx5 (1 + 1) c6)], oI bx1 26 [(.int .i64 1), (.int .i64 2), (.slice sb1 1 1), (.slice eb1 3 3), (.slice tb1 1 1)], rowI sb2 1 3 1 (ints alwB.start), rowI eb2 3 54 4 (edsC alwB.edges), rowI bx5 c6 22 1 ([(.slice qb2 1 1)] ++ [(.slice (some ⟨bx3, 0, none⟩) 1 1)]), rowI qb2 1 3 1 (ints [1]), rowI sb1 1 3 1 (ints alwB.start), rowI eb1 3 54 4 (edsC alwB.edges), rowI tb1 1 22 1 [(.slice qb1 1 1)], rowI qb1 1 3 1 (ints [1])] ++ N)) (Sub.cnt [] (by intro a; simp only [itms, oI, List.set_cons_zero, List.set_cons_succ, putL, List.cons_append, List.nil_append, List.append_nil, List.append_assoc, List.map_append, List.map_cons, List.map_nil, cnt_append, cnt_cons, cnt_nil, buCells, laCells] <;> omega)) ?_
  refine TO.quiet (q_move rfl) (TO.quiet (q_extract (vs := _) rfl rfl) (TO.quiet (q_extract (vs := _) rfl rfl) ?_))
  refine TO.loud rfl (l_alloc inf26 rfl (fun bx12 => ?_))
  refine TO.loud rfl (l_store_box (v := (.agg #[(.int .i64 z0), (.int .i64 0), (.slice s3 n1 c3), (.slice e3 n2 d3), (.slice t3 2 f3)])) (vs := [(.int .i64 z0), (.int .i64 0), (.slice s3 n1 c3), (.slice e3 n2 d3), (.slice t3 2 f3)]) 0 inf26 rfl rfl rfl rfl rfl rfl (by simp [putL]) ?_)
  refine TO.quiet (q_assign rfl) ?_
  refine TO.nil (T.seq (T.region ?_))
  refine TO.quiet (q_load_boxAgg 14 Try.underlying26 rfl inf26 rfl rfl rfl) (TO.quiet (q_load_boxAgg 4 Try.underlying29 rfl inf29 rfl rfl rfl) ?_)
  have hk63 := fun (w1 : World) (hI : Inv w ([oI bx12 26 [(.int .i64 z0), (.int .i64 0), (.slice s3 n1 c3), (.slice e3 n2 d3), (.slice t3 2 f3)], oI bx11 29 [(.slice xp 0 xpc), (.slice xl 0 xlc)], rowI xp xpc 5 1 [], rowI xl xlc 5 1 [], oI bx10 29 (laCells c wp wpc wl wlc), rowI wp wpc 5 1 (byts c.pre), rowI wl wlc 5 1 (byts c.loop), rowI lb lc 4 1 (bools [true, true]), rowI (some ⟨bx9, 0, none⟩) 2 5 1 [.int .u8 0, .int .u8 1], rowI (some ⟨bx8, 0, none⟩) 1 5 1 [.int .u8 1], rowI (some ⟨bx7, 0, none⟩) 1 5 1 [.int .u8 0], rowI (some ⟨bx4, 0, none⟩) 1 22 1 [(.slice (some ⟨bx3, 0, none⟩) 1 1)], rowI (some ⟨bx3, 0, none⟩) 1 3 1 [.int .i64 0], oI bx2 26 [(.int .i64 1), (.int .i64 2), (.slice sb2 1 1), (.slice eb2 3 3), (.slice bx5 (1 + 1) c6)], oI bx1 26 [(.int .i64 1), (.int .i64 2), (.slice sb1 1 1), (.slice eb1 3 3), (.slice tb1 1 1)], rowI sb2 1 3 1 (ints alwB.start), rowI eb2 3 54 4 (edsC alwB.edges), rowI bx5 c6 22 1 ([(.slice qb2 1 1)] ++ [(.slice (some ⟨bx3, 0, none⟩) 1 1)]), rowI qb2 1 3 1 (ints [1]), rowI sb1 1 3 1 (ints alwB.start), rowI eb1 3 54 4 (edsC alwB.edges), rowI tb1 1 22 1 [(.slice qb1 1 1)], rowI qb1 1 3 1 (ints [1])] ++ N) w1) => accWit w1 sb1 eb1 tb1 1 3 1 [.slice qb1 1 1] ⟨(hI.slOf (List.mem_of_getElem? (i := 19) rfl)), (hI.slOf (List.mem_of_getElem? (i := 20) rfl)), (hI.slOf (List.mem_of_getElem? (i := 21) rfl)), (RowsR.cons (⟨rfl, fun i r h9 => by simp at h9⟩ : RowsR w1 [] []) (b := qb1) (c := 1) (hI.slOf (List.mem_of_getElem? (i := 22) rfl)))⟩ c hw wp wl wpc wlc ⟨(hI.slOf (List.mem_of_getElem? (i := 5) rfl)), (hI.slOf (List.mem_of_getElem? (i := 6) rfl)), by have h9 := rowP.cap (hI.row (i := 5) rfl); simpa using h9, by have h9 := rowP.cap (hI.row (i := 6) rfl); simpa using h9⟩
  refine TO.loud rfl (l_call ent17 (CallT.of_pure hk63) rfl ?_)
  clear hk63
  rintro vr O' ⟨N, rfl, rfl, rfl⟩
  refine TO.quiet (q_move rfl) (TO.quiet (q_extract (vs := _) rfl rfl) (TO.quiet (q_extract (vs := _) rfl rfl) (TO.quiet (q_assign rfl) ?_)))
  refine TO.quiet (q_assign rfl) ?_
  refine TO.nil (T.seq (T.region ?_))
  refine TO.quiet (q_move rfl) (TO.quiet (q_move rfl) ?_)
  refine TO.guarded rfl rfl rfl (LT.of_quiet rfl rfl (q_move rfl) ?_)
  refine TO.guarded rfl rfl rfl (LT.of_quiet rfl rfl (q_not rfl) ?_)
  refine TO.quiet (q_pick1 rfl rfl) (TO.quiet (q_move rfl) ?_)
  refine TO.guarded rfl rfl rfl (LT.of_quiet rfl rfl (q_move rfl) ?_)
  refine TO.guarded rfl rfl rfl (LT.of_quiet rfl rfl (q_eql rfl rfl) ?_)
  refine TO.quiet (q_pick1 rfl rfl) (TO.quiet (q_move rfl) ?_)
  refine TO.guarded rfl rfl rfl (LT.of_quiet rfl rfl (q_move rfl) ?_)
  refine TO.guarded rfl rfl rfl (LT.of_quiet rfl rfl (q_eql rfl rfl) ?_)
  refine TO.quiet (q_pick1 rfl rfl) (TO.quiet (q_move rfl) ?_)
  refine TO.guarded rfl rfl rfl (LT.of_quiet rfl rfl (q_move rfl) ?_)
  refine TO.guarded rfl rfl rfl (LT.of_quiet rfl rfl (q_eql rfl rfl) ?_)
  refine TO.quiet (q_pick1 rfl rfl) (TO.quiet (q_move rfl) ?_)
  refine TO.guarded rfl rfl rfl (LT.of_quiet rfl rfl (q_move rfl) ?_)
  refine TO.guarded rfl rfl rfl (l_buildSlice (m := 2) (parts := [(0, .const (.bool true)), (1, .const (.bool true))]) (cs := [.bool true, .bool true]) Try.underlying39 inf4 (by decide) (by kernel_rfl) rfl (fun bx13 => ?_))
  have hk86 := fun (w1 : World) (hI : Inv w ([rowI (some ⟨bx13, 0, none⟩) 2 4 1 [.bool true, .bool true], oI bx12 26 [(.int .i64 z0), (.int .i64 0), (.slice s3 n1 c3), (.slice e3 n2 d3), (.slice t3 2 f3)], oI bx11 29 [(.slice xp 0 xpc), (.slice xl 0 xlc)], rowI xp xpc 5 1 [], rowI xl xlc 5 1 [], oI bx10 29 (laCells c wp wpc wl wlc), rowI wp wpc 5 1 (byts c.pre), rowI wl wlc 5 1 (byts c.loop), rowI lb lc 4 1 (bools [true, true]), rowI (some ⟨bx9, 0, none⟩) 2 5 1 [.int .u8 0, .int .u8 1], rowI (some ⟨bx8, 0, none⟩) 1 5 1 [.int .u8 1], rowI (some ⟨bx7, 0, none⟩) 1 5 1 [.int .u8 0], rowI (some ⟨bx4, 0, none⟩) 1 22 1 [(.slice (some ⟨bx3, 0, none⟩) 1 1)], rowI (some ⟨bx3, 0, none⟩) 1 3 1 [.int .i64 0], oI bx2 26 [(.int .i64 1), (.int .i64 2), (.slice sb2 1 1), (.slice eb2 3 3), (.slice bx5 (1 + 1) c6)], oI bx1 26 [(.int .i64 1), (.int .i64 2), (.slice sb1 1 1), (.slice eb1 3 3), (.slice tb1 1 1)], rowI sb2 1 3 1 (ints alwB.start), rowI eb2 3 54 4 (edsC alwB.edges), rowI bx5 c6 22 1 ([(.slice qb2 1 1)] ++ [(.slice (some ⟨bx3, 0, none⟩) 1 1)]), rowI qb2 1 3 1 (ints [1]), rowI sb1 1 3 1 (ints alwB.start), rowI eb1 3 54 4 (edsC alwB.edges), rowI tb1 1 22 1 [(.slice qb1 1 1)], rowI qb1 1 3 1 (ints [1])] ++ N) w1) => equalBools w1 lb (some ⟨bx13, 0, none⟩) lc 2 [true, true] [true, true] (hI.slOf (List.mem_of_getElem? (i := 8) rfl)) (hI.slOf (List.mem_of_getElem? (i := 0) rfl)) (by decide)
  refine TO.guarded rfl rfl rfl (l_call ent23 (CallT.of_pure hk86) rfl ?_)
  clear hk86
  rintro vr O' ⟨N, rfl, rfl, rfl⟩
  refine TO.quiet (q_pick1 rfl rfl) (TO.quiet (q_move rfl) ?_)
  refine TO.guarded rfl rfl rfl (LT.of_quiet rfl rfl (q_move rfl) ?_)
  refine TO.guarded rfl rfl rfl (LT.of_quiet rfl rfl (q_eql rfl rfl) ?_)
  refine TO.quiet (q_pick1 rfl rfl) (TO.quiet (q_move rfl) ?_)
  refine TO.guarded rfl rfl rfl (LT.of_quiet rfl rfl (q_move rfl) ?_)
  refine TO.quiet (q_pick1 rfl rfl) (TO.quiet (q_move rfl) ?_)
  refine TO.guarded rfl rfl rfl (LT.of_quiet rfl rfl (q_move rfl) ?_)
  refine TO.guarded rfl rfl rfl (LT.of_quiet rfl rfl (q_eql rfl rfl) ?_)
  refine TO.quiet (q_pick1 rfl rfl) (TO.quiet (q_move rfl) ?_)
  refine TO.guarded rfl rfl rfl (LT.of_quiet rfl rfl (q_move rfl) ?_)
  refine TO.guarded rfl rfl rfl (LT.of_quiet rfl rfl (q_eql rfl rfl) ?_)
  refine TO.quiet (q_pick1 rfl rfl) (TO.quiet (q_move rfl) ?_)
  refine TO.guarded rfl rfl rfl (LT.of_quiet rfl rfl (q_move rfl) ?_)
  refine TO.guarded rfl rfl rfl (LT.of_quiet rfl rfl (q_eql rfl rfl) ?_)
  refine TO.quiet (q_pick1 rfl rfl) (TO.quiet (q_move rfl) ?_)
  refine TO.guarded rfl rfl rfl (LT.of_quiet rfl rfl (q_fieldAddr Try.underlying26 rfl inf3 rfl rfl) ?_)
  refine TO.guarded rfl rfl rfl (LT.of_quiet rfl rfl (q_load_box 1 Try.underlying3 rfl rfl rfl rfl) ?_)
  refine TO.guarded rfl rfl rfl (LT.of_quiet rfl rfl (q_eql rfl rfl) ?_)
  refine TO.quiet (q_pick1 rfl rfl) (TO.quiet (q_move rfl) ?_)
  refine TO.guarded rfl rfl rfl (LT.of_quiet rfl rfl (q_fieldAddr Try.underlying26 rfl inf24 rfl rfl) ?_)
  refine TO.guarded rfl rfl rfl (LT.of_quiet rfl rfl (q_load_box 1 Try.underlying24 rfl rfl rfl rfl) ?_)
  refine TO.guarded rfl rfl rfl (LT.of_quiet rfl rfl (q_len Try.underlying24 rfl) ?_)
  refine TO.guarded rfl rfl rfl (LT.of_quiet rfl rfl (q_eql rfl rfl) ?_)
  refine TO.quiet (q_pick1 rfl rfl) (TO.quiet (q_assign rfl) ?_)
  refine TO.nil (T.ret (Res.drop ?_))
  refine Res.one (.bool true) Try.results14 rfl ?_
  exact ⟨[], (Sub.pick0 [] [rowI (some ⟨bx13, 0, none⟩) 2 4 1 [.bool true, .bool true], oI bx12 26 [(.int .i64 z0), (.int .i64 0), (.slice s3 n1 c3), (.slice e3 n2 d3), (.slice t3 2 f3)], oI bx11 29 [(.slice xp 0 xpc), (.slice xl 0 xlc)], rowI xp xpc 5 1 [], rowI xl xlc 5 1 [], oI bx10 29 (laCells c wp wpc wl wlc), rowI wp wpc 5 1 (byts c.pre), rowI wl wlc 5 1 (byts c.loop), rowI lb lc 4 1 (bools [true, true]), rowI (some ⟨bx9, 0, none⟩) 2 5 1 [.int .u8 0, .int .u8 1], rowI (some ⟨bx8, 0, none⟩) 1 5 1 [.int .u8 1], rowI (some ⟨bx7, 0, none⟩) 1 5 1 [.int .u8 0], rowI (some ⟨bx4, 0, none⟩) 1 22 1 [(.slice (some ⟨bx3, 0, none⟩) 1 1)], rowI (some ⟨bx3, 0, none⟩) 1 3 1 [.int .i64 0], oI bx2 26 [(.int .i64 1), (.int .i64 2), (.slice sb2 1 1), (.slice eb2 3 3), (.slice bx5 (1 + 1) c6)], oI bx1 26 [(.int .i64 1), (.int .i64 2), (.slice sb1 1 1), (.slice eb1 3 3), (.slice tb1 1 1)], rowI sb2 1 3 1 (ints alwB.start), rowI eb2 3 54 4 (edsC alwB.edges), rowI bx5 c6 22 1 ([(.slice qb2 1 1)] ++ [(.slice (some ⟨bx3, 0, none⟩) 1 1)]), rowI qb2 1 3 1 (ints [1]), rowI sb1 1 3 1 (ints alwB.start), rowI eb1 3 54 4 (edsC alwB.edges), rowI tb1 1 22 1 [(.slice qb1 1 1)], rowI qb1 1 3 1 (ints [1])] N rfl rfl), rfl, rfl⟩
set_option maxHeartbeats 1000000 in
set_option maxRecDepth 20000 in
theorem acceptsL (w : World) (b : Bu) (sb eb tb : Option Addr) (sc ec tc : Nat) (vs : List Value) (h : BuAt w b sb eb tb vs) (hB : BuB b) (l : La) (pb lb : Option Addr) (pc lc : Nat) (h2 : LaAt w l pb lb pc lc) (hL : LaB l) (hE : b.edges.length ≤ 5000) :
    PureT Try.prog 30 [.agg (buCells b sb sc eb ec tb tc).toArray, .agg (laCells l pb pc lb lc).toArray] w fun v N => v = .bool (accV b l && decide (accE b l = 0)) ∧ N = [] := by
  refine CallT.enter Try.func30 rfl Try.ntmps30 rfl ?_
  refine T.seq (T.region ?_)
  refine TO.loud rfl (l_box (v := (.agg (buCells b sb sc eb ec tb tc).toArray)) (cs := (buCells b sb sc eb ec tb tc)) rfl rfl (fun bx1 => ?_))
  refine TO.loud rfl (l_box (v := (.agg (laCells l pb pc lb lc).toArray)) (cs := (laCells l pb pc lb lc)) rfl rfl (fun bx2 => ?_))
  refine TO.quiet (q_assign rfl) ?_
  refine TO.nil (T.seq (T.region ?_))
  refine TO.quiet (q_load_boxAgg 1 Try.underlying26 rfl inf26 rfl rfl rfl) (TO.quiet (q_load_boxAgg 0 Try.underlying29 rfl inf29 rfl rfl rfl) ?_)
  have hk10 := fun (w1 : World) (hI : Inv w [oI bx2 29 (laCells l pb pc lb lc), oI bx1 26 (buCells b sb sc eb ec tb tc)] w1) => acceptsF w1 b sb eb tb sc ec tc vs (hI.bu h) hB l pb lb pc lc (hI.la h2) hL hE
  refine TO.loud rfl (l_call ent17 (CallT.of_pure hk10) rfl ?_)
  clear hk10
  rintro vr O' ⟨N, rfl, rfl, rfl⟩
  refine TO.quiet (q_move rfl) (TO.quiet (q_extract (vs := _) rfl rfl) (TO.quiet (q_extract (vs := _) rfl rfl) (TO.quiet (q_assign rfl) ?_)))
  refine TO.quiet (q_assign rfl) ?_
  refine TO.nil (T.seq (T.region ?_))
  refine TO.quiet (q_move rfl) ?_
  by_cases hs14 : (accV b l) = true
  · refine TO.quiet (QT.toB (q_move rfl) (hs14)) ?_
    refine TO.guarded rfl rfl rfl (LT.of_quiet rfl rfl (q_move rfl) ?_)
    refine TO.guarded rfl rfl rfl (LT.of_quiet rfl rfl (q_eql rfl rfl) ?_)
    refine TO.quiet (q_pick1 rfl rfl) (TO.quiet (q_assign rfl) ?_)
    refine TO.nil (T.ret (Res.drop ?_))
    refine Res.one (.bool (decide (((accE b l : Nat) : Int) = 0))) Try.results30 rfl ?_
    exact ⟨[], (Sub.pick [] rfl), by simp_all, rfl⟩
  refine TO.quiet (QT.toB (q_move rfl) (Bool.eq_false_iff.2 hs14)) ?_
  refine TO.passed rfl rfl ?_
  refine TO.passed rfl rfl ?_
  refine TO.quiet (q_pick0 rfl rfl) (TO.quiet (q_assign rfl) ?_)
  refine TO.nil (T.ret (Res.drop ?_))
  refine Res.one (.bool false) Try.results30 rfl ?_
  exact ⟨[], (Sub.pick [] rfl), by simp_all, rfl⟩
end Go.Proofs.Ytnamoapbienooaa


namespace Go.Proofs.Ytnamoapbienooaa
open Go.Lx Go.RowKit
set_option linter.unusedVariables false
set_option linter.unusedSimpArgs false
theorem longL_no {l : La} (h : ¬ longL l = true) : l.pre.length ≤ 70 ∧ l.loop.length ≤ 70 := by
  unfold longL at h; rw [decide_eq_true_iff] at h; omega
theorem longL_lab {l : La} (h : ¬ longL l = true) (hp8 : ∀ x ∈ l.pre, x < 256) (hl8 : ∀ x ∈ l.loop, x < 256) : LaB l := by
  have := longL_no h; exact ⟨by omega, by omega, hp8, hl8⟩
theorem longB_ed {b : Bu} (h : ¬ longB b = true) : b.start.length ≤ 40 ∧ b.edges.length ≤ 60 ∧ b.sets.length ≤ 12 ∧ ∀ r ∈ b.sets, r.length ≤ 40 := by
  unfold longB longN at h
  rw [Bool.or_eq_true, not_or, decide_eq_true_iff, List.any_eq_true] at h
  refine ⟨by omega, by omega, by omega, fun r hr => ?_⟩
  exact Nat.le_of_not_lt (fun h3 => h.2 ⟨r, hr, decide_eq_true h3⟩)
theorem longB_no {b : Bu} (h : ¬ longB b = true) (hpn : ∀ e ∈ b.edges, e.pos < 256 ∧ e.neg < 256) : BuB b := by
  have h1 := longB_ed h
  exact ⟨by omega, by omega, by omega, fun r hr => by have := h1.2.2.2 r hr; omega, hpn⟩
end Go.Proofs.Ytnamoapbienooaa


namespace Go.Lx
open Go.RowKit Go.ChangeShapes Go.WideShapes Go.Deep
set_option linter.unusedVariables false
section
variable {H : Type} {enc : TypeId × Value → H} {P : Program}
theorem TrodAll_stays (hl : laidOutB P = true) {W W' : World} {sp' : Nat → Bool} : ∀ {ts : List TypeId} {vs : List Value} {ds : List (DataW H)} {ps : List MemPlace},
    (∀ t ∈ ts, P.readableRec t = true ∧ t < P.types.size) → DataW.TrodAll enc P W 0 (fun _ => true) true ts vs ds ps → (∀ p ∈ ps, W.sameAt W' p) → (∀ p ∈ ps, sp' p.block = true) → DataW.TrodAll enc P W' 0 sp' true ts vs ds ps
  | [], _, _, _, _, h, _, _ => by
    obtain ⟨rfl, rfl, rfl⟩ := trodAll_nil h
    rfl
  | t :: ts, _, _, _, hr, h, hs, hsp => by
    obtain ⟨v, vs1, d, ds1, p, q, rfl, rfl, rfl, h1, h2⟩ := trodAll_cons h
    have ht := hr t (by simp)
    exact ⟨p, q, WideElems.Trod_stays hl ht.1 ht.2 h1 (fun x hx => hs x (List.mem_append_left _ hx)) (fun x hx => hsp x (List.mem_append_left _ hx)),
      TrodAll_stays hl (fun t ht => hr t (by simp [ht])) h2 (fun x hx => hs x (List.mem_append_right _ hx)) (fun x hx => hsp x (List.mem_append_right _ hx)), rfl⟩
theorem post_law {f : Func} {s : ChangeSpec} {W W' : World} {args : Array Value} {ds gs : List (DataW H)} {before : List MemPlace} {tb : TypeId}
    (hl : laidOutB P = true) (hr : ∀ t ∈ f.params.toList, P.readableRec t = true ∧ t < P.types.size) (hres : f.resultTypes = #[tb]) (hb : P.underlying tb = some .bool) (hv : s.vars = [])
    (hW : DataW.Whole enc P f.params.toList s.vars false W args.toList ds gs before)
    (h1 : (s.fn H ds).results = [.lit (.bool true)]) (h2 : (s.fn H ds).args = ds) (h3 : (s.fn H ds).vars = [])
    (hB : Below W.heap.size W W') : s.post enc P f false true false false W args (.bool true) W' := by
  have hW0 := hW
  obtain ⟨p, q, hA, hV, rfl, hz, hn⟩ := hW
  rw [hv] at hV
  obtain ⟨rfl, rfl⟩ := trodVars_none hV
  simp only [List.append_nil] at hW0 hz hn
  have hlt := hW0.lt
  have hsame : ∀ x ∈ p, W.sameAt W' x := fun x hx => hB.same (hlt x hx)
  have hargs : ∀ sp : Nat → Bool, (∀ x ∈ p, sp x.block = true) → DataW.TrodAll enc P W' 0 sp true f.params.toList args.toList (s.fn H (ds ++ [])).args p := fun sp hsp => by
    rw [List.append_nil, h2]
    exact TrodAll_stays hl hr hA hsame hsp
  have hvars : ∀ sp : Nat → Bool, DataW.TrodVars enc P W' sp s.vars (s.fn H (ds ++ [])).vars [] := fun sp => by
    rw [List.append_nil, hv, h3]; rfl
  have hresult : ∀ (b : Nat) (sp : Nat → Bool) (hd : Bool), DataW.TrodAll enc P W' b sp hd f.resultTypes.toList ((Value.bool true).resultList f.resultTypes.size) (s.fn H (ds ++ [])).results [] := fun b sp hd => by
    rw [List.append_nil, h1, hres]
    exact trodAll_cons_mk (shut_bool hb _) trodAll_mk0
  have hold : ∀ x ∈ p, (fun b => decide (b < W.heap.size)) x.block = true := fun x hx => by simpa using hlt x hx
  refine ⟨ds, [], p, [], p, [], hW0, hresult _ _ _, hargs _ hold, hvars _, World.keptBut_mono (fun x hx => ⟨hx, ?_⟩) (hB.frame _), fun _ => ?_⟩
  · exact Or.inr (by simpa using hx)
  · refine ⟨ok_one hres rfl (okWide_bool_mk hb _), _, _, ([] ++ p) ++ [], ⟨[] ++ p, [], trodAll_append (hargs _ (fun _ _ => rfl)) (hresult _ _ _), hvars _, rfl, ?_, ?_⟩, ?_⟩
    · intro b off hx
      have hx' : MemPlace.cell b off ∈ p := by simpa using hx
      rw [hB.frozen (p := ⟨b, off, none⟩) (hlt _ hx')]
      exact hz b off hx'
    · intro ha; cases ha
    · intro x hx _
      simpa using hx
theorem spotNone {w : World} {a : Addr} {v : Value} (h : w.cell? a = some v) : a.spot = none := by
  unfold World.cell? at h
  cases e : a.spot with
  | none => rfl
  | some x => rw [e] at h; split at h <;> simp at h
theorem Sl.ofCells {w : World} {a : Addr} {cs : List Value} (h : ∀ i (hi : i < cs.length), w.cell? (a.add i) = some cs[i]) : Sl w (some a) cs := fun i hi => by
  have h0 := h 0 (by omega)
  have h1 := h i hi
  have h2 : a.spot = none := spotNone (a := a) (by simpa [Addr.add] using h0)
  refine ⟨a, rfl, h2, ?_⟩
  have e : a.add i = ⟨a.block, a.off + i, none⟩ := by
    unfold Addr.add
    split
    · rename_i h; subst h
      cases a with
      | mk b o s => simp at h2; subst h2; rfl
    · rfl
  rw [← e]; exact h1
theorem weights_all (e : TypeId) : ∀ {l : List (DataW H)} {d : DataW H}, d ∈ l → ∀ m ∈ d.weights P e, m ∈ DataW.weightsAll P e l
  | [], _, h, _, _ => by cases h
  | x :: l, d, h, m, hm => by
    rw [DataW.weightsAll, List.mem_append]
    rcases List.mem_cons.1 h with rfl | h
    · exact .inl hm
    · exact .inr (weights_all e h m hm)
theorem slice_bound {t e : TypeId} {elems spare : List (DataW H)} (ht : P.underlying t = some (.slice e)) (he : 0 < P.bytesOf e) (h : ∀ m ∈ (DataW.slice elems spare).weights P t, m ≤ reachBytes) :
    elems.length ≤ reachBytes ∧ ∀ d ∈ elems, ∀ m ∈ d.weights P e, m ≤ reachBytes := by
  have hw : (DataW.slice elems spare).weights P t = (elems.length + spare.length) * P.bytesOf e :: (DataW.weightsAll P e elems ++ DataW.weightsAll P e spare) := by
    rw [DataW.weights, ht]
  rw [hw] at h
  refine ⟨?_, fun d hd m hm => h m (List.mem_cons_of_mem _ (List.mem_append_left _ (weights_all e hd m hm)))⟩
  have h1 := h _ List.mem_cons_self
  have h2 := Nat.mul_le_mul_left (elems.length + spare.length) (show 1 ≤ P.bytesOf e from he)
  omega
theorem intsOf {w : World} {A : Option Addr} {L C : Nat} {Z : List Int} (hL : L ≤ C) (hZ : Z.length = C) (h0 : A = none → C = 0) (h : ∀ a', A = some a' → 0 ≤ a'.block ∧ ∀ c, c < C → w.cell? (a'.add c) = some (.int .i64 (Z.getD c 0))) :
    (Z.take L).length = L ∧ Sl w A (ints (Z.take L)) := by
  have hl : (Z.take L).length = L := by rw [List.length_take]; omega
  refine ⟨hl, ?_⟩
  cases A with
  | none =>
    have := h0 rfl
    have : Z.take L = [] := List.eq_nil_of_length_eq_zero (by omega)
    rw [this]; exact Sl.nil _ _
  | some a =>
    refine Sl.ofCells fun i hi => ?_
    have hi' : i < L := by rw [List.length_map, hl] at hi; exact hi
    have hiz : i < Z.length := by omega
    rw [(h a rfl).2 i (by omega), List.getElem_map, List.getElem_take]
    simp [hiz]
theorem wfU8 {n : Int} (h : (Lit.int .u8 n).wf = true) : 0 ≤ n ∧ n < 256 := by
  simp only [Lit.wf, Bool.and_eq_true, decide_eq_true_eq] at h
  have h1 : (0 : Int) ≤ n := h.1
  have h2 : n ≤ 255 := h.2
  omega
theorem lt63 {n : Nat} (h : n ≤ reachBytes) : n < 9223372036854775807 := Nat.lt_of_le_of_lt h (by decide)
end
end Go.Lx


namespace Go.Lx
open Go.RowKit Go.ChangeShapes Go.WideShapes Go.Deep
set_option linter.unusedVariables false
section
variable {H : Type} {enc : TypeId × Value → H} {P : Program}
theorem open_nums {tr ti : TypeId} {W : World} {c : Value} {cs : List Value} {x : DataW H × List MemPlace} {fuel : Nat} (hrow : P.underlying tr = some (.slice ti)) (hi : P.underlying ti = some (.int .i64)) (ci : P.cellsOf ti = 1) (bi : 0 < P.bytesOf ti)
    (hcs : cs = [c]) (hw : ∀ m ∈ x.1.weights P tr, m ≤ reachBytes) (g : DataW.trod enc P W 0 (fun _ => true) true fuel tr cs = some x) :
    ∃ (b : Option Addr) (cp : Nat) (xs : List Int), c = .slice b xs.length cp ∧ xs.length ≤ reachBytes ∧ Sl W b (ints xs) := by
  subst hcs
  rcases open_ints hrow hi ci g with ⟨h, _⟩ | ⟨a, len, cap, zs, h, _, hl, _, hz, hx, hcell, _⟩
  · exact ⟨none, 0, [], by simpa using h, Nat.zero_le _, Sl.nil _ _⟩
  · simp only [if_true] at hz
    rw [congrArg Prod.fst hx] at hw
    have hb := (slice_bound hrow bi hw).1
    have hln : (zs.take len).length = len := by rw [List.length_take]; omega
    have hb' : len ≤ reachBytes := by
      have : (lits (H := H) .i64 (zs.take len)).length = len := by simp [lits]; omega
      omega
    refine ⟨some a, cap, zs.take len, by rw [hln]; simpa using h, by omega, ?_⟩
    have := intsOf (w := W) (A := some a) (L := len) (C := cap) (Z := zs) hl hz (fun h => by cases h) (fun a' h => by cases h; exact ⟨Nat.zero_le _, fun i hi => hcell i (by omega)⟩)
    exact this.2
theorem open_numrows {tn tr ti : TypeId} {W : World} {c2 : Value} {cs : List Value} {x : DataW H × List MemPlace} {fuel : Nat} (hn : P.underlying tn = some (.slice tr)) (hrow : P.underlying tr = some (.slice ti)) (hi : P.underlying ti = some (.int .i64)) (cr : P.cellsOf tr = 1) (ci : P.cellsOf ti = 1) (br : 0 < P.bytesOf tr) (bi : 0 < P.bytesOf ti)
    (hcs : cs = [c2]) (hw2 : ∀ m ∈ x.1.weights P tn, m ≤ reachBytes) (g2 : DataW.trod enc P W 0 (fun _ => true) true fuel tn cs = some x) :
    ∃ (nb : Option Addr) (nc : Nat) (rows : List (List Int)) (vs : List Value), c2 = .slice nb rows.length nc ∧ rows.length ≤ reachBytes ∧ (∀ r ∈ rows, r.length ≤ reachBytes) ∧ Sl W nb vs ∧ RowsR W vs rows := by
  subst hcs
  rcases open_int_rows hn hrow hi cr ci g2 with ⟨hcs2, _⟩ | ⟨a, len, cap, A, L, C, Z, hcs2, _, hlc, hcm, hx2, hall⟩
  · exact ⟨none, 0, [], [], by simpa using hcs2, Nat.zero_le _, fun r hr => (List.not_mem_nil hr).elim, Sl.nil _ _, rfl, fun i r hr => by simp at hr⟩
  · rw [congrArg Prod.fst hx2] at hw2
    obtain ⟨hwl, hwr⟩ := slice_bound hn br hw2
    have hwl' : len ≤ reachBytes := by simpa using hwl
    have hwrow : ∀ r, r < len → L r ≤ reachBytes := fun r hr => by
      obtain ⟨_, a2, _, a4, _, a6, _⟩ := hall r (by omega)
      have hm := hwr _ (List.mem_map.2 ⟨r, List.mem_range.2 hr, rfl⟩)
      cases hA : A r with
      | none => have := a6 hA; omega
      | some b =>
        rw [hA] at hm
        have := (slice_bound hrow bi hm).1
        simp [lits] at this
        omega
    have hrl : ∀ r, r < len → ((Z r).take (L r)).length = L r ∧ Sl W (A r) (ints ((Z r).take (L r))) := fun r hr => by
      obtain ⟨_, a2, a3, a4, _, a6, a7⟩ := hall r (by omega)
      exact intsOf a2 a4 a6 a7
    refine ⟨some a, cap, (List.range len).map fun r => (Z r).take (L r), (List.range len).map fun r => .slice (A r) (L r) (C r), by simpa using hcs2, by simp; omega, ?_, ?_, by simp, ?_⟩
    · intro r hr
      obtain ⟨j, hj, rfl⟩ := List.mem_map.1 hr
      have hj' := List.mem_range.1 hj
      rw [(hrl j hj').1]; exact hwrow j hj'
    · refine Sl.ofCells fun i hi9 => ?_
      have hi' : i < len := by simpa using hi9
      rw [(hall i (by omega)).1]; simp
    · intro i r hr
      have hi' : i < len := by
        have := (List.getElem?_eq_some_iff.1 hr).1
        simpa using this
      have er : r = (Z i).take (L i) := by
        rw [List.getElem?_map, List.getElem?_range hi'] at hr
        exact (Option.some.inj hr).symm
      subst er
      refine ⟨A i, C i, ?_, (hrl i hi').2⟩
      rw [List.getElem?_map, List.getElem?_range hi', (hrl i hi').1]; rfl
theorem open_edges {te e ti tu : TypeId} {f0 f1 f2 f3 : Field} {W : World} {c : Value} {cs : List Value} {x : DataW H × List MemPlace} {fuel : Nat} (ht : P.underlying te = some (.slice e)) (he : P.underlying e = some (.struct #[f0, f1, f2, f3])) (ce : P.cellsOf e = 4) (be : 0 < P.bytesOf e)
    (h0 : f0.type = ti) (h1 : f1.type = ti) (h2 : f2.type = tu) (h3 : f3.type = tu) (o0 : f0.offset = 0) (o1 : f1.offset = 1) (o2 : f2.offset = 2) (o3 : f3.offset = 3)
    (hi : P.underlying ti = some (.int .i64)) (hu : P.underlying tu = some (.int .u8)) (ci : P.cellsOf ti = 1) (cu : P.cellsOf tu = 1)
    (hcs : cs = [c]) (hw : ∀ m ∈ x.1.weights P te, m ≤ reachBytes) (g : DataW.trod enc P W 0 (fun _ => true) true fuel te cs = some x) :
    ∃ (b : Option Addr) (cp : Nat) (es : List Ed), c = .slice b es.length cp ∧ es.length ≤ reachBytes ∧ Sl W b (edsC es) ∧ ∀ e ∈ es, e.pos < 256 ∧ e.neg < 256 := by
  subst hcs
  rcases open_slice ht g with ⟨h, _⟩ | ⟨a, len, cap, m, n, D, Pl, h, _, hl, _, hm, hx, hall⟩
  · exact ⟨none, 0, [], by simpa using h, Nat.zero_le _, Sl.nil _ _, fun e h => by cases h⟩
  · simp only [if_true] at hm
    have hm' := hm.symm
    subst hm'
    rw [congrArg Prod.fst hx] at hw
    have hb := (slice_bound ht be hw).1
    have hb' : len ≤ reachBytes := by simpa using hb
    have each : ∀ i, i < cap → ∃ q : Ed, (q.pos < 256 ∧ q.neg < 256) ∧ ∀ j, j < 4 → W.cell? (a.add (i * 4 + j)) = (edC q)[j]? := by
      intro i hi9
      obtain ⟨cs', k1, k2⟩ := hall i hi9
      rw [ce] at k1
      obtain ⟨_, hlen, hcell⟩ := World.cells?_some k1
      obtain ⟨xs, k, hk, hxy, _, hxl, hf⟩ := DataW.trod_struct he k2
      match xs, hxl, cs', hlen with
      | [y0, y1, y2, y3], _, [v0, v1, v2, v3], _ =>
        have g0 := hf 0 f0 rfl
        have g1 := hf 1 f1 rfl
        have g2 := hf 2 f2 rfl
        have g3 := hf 3 f3 rfl
        rw [h0, o0, ci] at g0
        rw [h1, o1, ci] at g1
        rw [h2, o2, cu] at g2
        rw [h3, o3, cu] at g3
        obtain ⟨n0, e0, _, w0⟩ := DataW.trod_int hi g0
        obtain ⟨n1, e1, _, w1⟩ := DataW.trod_int hi g1
        obtain ⟨n2, e2, _, w2⟩ := DataW.trod_int hu g2
        obtain ⟨n3, e3, _, w3⟩ := DataW.trod_int hu g3
        have e0' : v0 = .int .i64 n0 := by simpa using e0
        have e1' : v1 = .int .i64 n1 := by simpa using e1
        have e2' : v2 = .int .u8 n2 := by simpa using e2
        have e3' : v3 = .int .u8 n3 := by simpa using e3
        subst e0' e1' e2' e3'
        have b2 := wfU8 w2
        have b3 := wfU8 w3
        refine ⟨⟨n0, n1, n2.toNat, n3.toNat⟩, ⟨by simp only; omega, by simp only; omega⟩, fun j hj => ?_⟩
        have q := hcell j hj
        rw [add_add] at q
        rw [q]
        match j, hj with
        | 0, _ => rfl
        | 1, _ => rfl
        | 2, _ => simp [edC, Int.toNat_of_nonneg b2.1]
        | 3, _ => simp [edC, Int.toNat_of_nonneg b3.1]
    have : Inhabited Ed := ⟨⟨0, 0, 0, 0⟩⟩
    obtain ⟨q, hq⟩ := choose_lt each
    refine ⟨some a, cap, (List.range len).map q, by simpa using h, by simp; omega, Sl.ofCells fun i hi9 => ?_, fun e he9 => ?_⟩
    · have hi' : i < len * 4 := by rw [eds_len] at hi9; simpa using hi9
      have h4 := (hq (i / 4) (by omega)).2 (i % 4) (by omega)
      rw [show i / 4 * 4 + i % 4 = i by omega] at h4
      rw [h4]
      have h5 := eds_get' (es := (List.range len).map q) (i := i / 4) (by simp; omega) (i % 4) (by omega)
      rw [show i / 4 * 4 + i % 4 = i by omega, List.getElem?_eq_getElem hi9] at h5
      rw [h5]; simp
    · obtain ⟨j, hj, rfl⟩ := List.mem_map.1 he9
      exact (hq j (by have := List.mem_range.1 hj; omega)).1
structure BuIn (P : Program) (W : World) (v : Value) (b : Bu) (sb eb tb : Option Addr) (sc ec tc : Nat) (vs : List Value) : Prop where
  val : v = .agg (buCells b sb sc eb ec tb tc).toArray
  at_ : BuAt W b sb eb tb vs
  pn : ∀ e ∈ b.edges, e.pos < 256 ∧ e.neg < 256
  s : b.start.length ≤ reachBytes
  e : b.edges.length ≤ reachBytes
  t : b.sets.length ≤ reachBytes
  r : ∀ r ∈ b.sets, r.length ≤ reachBytes
theorem open_bu {t ti tr te e tn tu : TypeId} {f0 f1 f2 f3 f4 : Field} {g0 g1 g2 g3 : Field} {W : World} {v : Value} {d : DataW H} {p : List MemPlace}
    (ht : P.underlying t = some (.struct #[f0, f1, f2, f3, f4])) (hc : P.cellsOf t = 5) (h0 : f0.type = ti) (h1 : f1.type = ti) (h2 : f2.type = tr) (h3 : f3.type = te) (h4 : f4.type = tn) (o0 : f0.offset = 0) (o1 : f1.offset = 1) (o2 : f2.offset = 2) (o3 : f3.offset = 3) (o4 : f4.offset = 4)
    (hi : P.underlying ti = some (.int .i64)) (hn : P.underlying tn = some (.slice tr)) (hrow : P.underlying tr = some (.slice ti)) (hte : P.underlying te = some (.slice e)) (he : P.underlying e = some (.struct #[g0, g1, g2, g3])) (hu : P.underlying tu = some (.int .u8))
    (k0 : g0.type = ti) (k1 : g1.type = ti) (k2 : g2.type = tu) (k3 : g3.type = tu) (q0 : g0.offset = 0) (q1 : g1.offset = 1) (q2 : g2.offset = 2) (q3 : g3.offset = 3)
    (ci : P.cellsOf ti = 1) (cn : P.cellsOf tn = 1) (cr : P.cellsOf tr = 1) (cte : P.cellsOf te = 1) (ce : P.cellsOf e = 4) (cu : P.cellsOf tu = 1) (br : 0 < P.bytesOf tr) (bi : 0 < P.bytesOf ti) (be : 0 < P.bytesOf e) (hw : ∀ m ∈ d.weights P t, m ≤ reachBytes)
    (h : DataW.Trod enc P W 0 (fun _ => true) true t v d p) : ∃ b sb eb tb sc ec tc vs, BuIn P W v b sb eb tb sc ec tc vs := by
  obtain ⟨fuel, hT⟩ := h
  obtain ⟨xs, n, rfl, hx, hlen, hxl, hfs⟩ := DataW.trod_struct ht hT
  rw [hc] at hlen
  obtain ⟨c0, c1, c2, c3, c4, hcs⟩ : ∃ c0 c1 c2 c3 c4, v.cells.toList = [c0, c1, c2, c3, c4] := by
    match hh : v.cells.toList, hlen with
    | [a, b, c, e, f], _ => exact ⟨a, b, c, e, f, rfl⟩
  have hv : v = .agg #[c0, c1, c2, c3, c4] := by
    have hsz : v.cells.size = 5 := by rw [← Array.length_toList, hcs]; rfl
    cases v with
    | agg cs =>
      have : cs.toList = [c0, c1, c2, c3, c4] := hcs
      rw [← Array.toArray_toList (xs := cs), this]
    | _ => simp [Value.cells] at hsz
  rw [hcs] at hfs
  obtain ⟨x0, x1, x2, x3, x4, rfl⟩ : ∃ a b c e f, xs = [a, b, c, e, f] := by
    match xs, hxl with
    | [a, b, c, e, f], _ => exact ⟨a, b, c, e, f, rfl⟩
  have p0 := hfs 0 f0 rfl
  have p1 := hfs 1 f1 rfl
  have p2 := hfs 2 f2 rfl
  have p3 := hfs 3 f3 rfl
  have p4 := hfs 4 f4 rfl
  rw [h0, o0, ci] at p0
  rw [h1, o1, ci] at p1
  rw [h2, o2, cr] at p2
  rw [h3, o3, cte] at p3
  rw [h4, o4, cn] at p4
  have hd : d = .agg [x0.1, x1.1, x2.1, x3.1, x4.1] := congrArg Prod.fst hx
  have hwe : d.weights P t = DataW.weightsEach P [ti, ti, tr, te, tn] [x0.1, x1.1, x2.1, x3.1, x4.1] := by
    rw [hd, DataW.weights, ht]
    simp [h0, h1, h2, h3, h4]
  rw [hwe] at hw
  have hw2 : ∀ m ∈ x2.1.weights P tr, m ≤ reachBytes := fun m hm => hw m (DataW.weights_mem_each (j := 2) rfl rfl m hm)
  have hw3 : ∀ m ∈ x3.1.weights P te, m ≤ reachBytes := fun m hm => hw m (DataW.weights_mem_each (j := 3) rfl rfl m hm)
  have hw4 : ∀ m ∈ x4.1.weights P tn, m ≤ reachBytes := fun m hm => hw m (DataW.weights_mem_each (j := 4) rfl rfl m hm)
  obtain ⟨n0, e0, _, _⟩ := DataW.trod_int hi p0
  obtain ⟨n1, e1, _, _⟩ := DataW.trod_int hi p1
  have e0' : c0 = .int .i64 n0 := by simpa using e0
  have e1' : c1 = .int .i64 n1 := by simpa using e1
  subst e0' e1'
  obtain ⟨sb, sc, ss, e2, l2, s2⟩ := open_nums (c := c2) hrow hi ci bi rfl hw2 p2
  obtain ⟨eb, ec, es, e3, l3, s3, pn⟩ := open_edges (c := c3) hte he ce be k0 k1 k2 k3 q0 q1 q2 q3 hi hu ci cu rfl hw3 p3
  obtain ⟨tb, tc, ts, vs, e4, l4, r4, s4, t4⟩ := open_numrows (c2 := c4) hn hrow hi cr ci br bi rfl hw4 p4
  exact ⟨⟨n0, n1, ss, es, ts⟩, sb, eb, tb, sc, ec, tc, vs, by rw [hv, e2, e3, e4], ⟨s2, s3, s4, t4⟩, pn, l2, l3, l4, r4⟩
theorem open_bytes {t e : TypeId} {W : World} {c : Value} {cs : List Value} {x : DataW H × List MemPlace} {fuel : Nat} (ht : P.underlying t = some (.slice e)) (he : P.underlying e = some (.int .u8)) (ce : P.cellsOf e = 1) (be : 0 < P.bytesOf e)
    (hcs : cs = [c]) (hw : ∀ m ∈ x.1.weights P t, m ≤ reachBytes) (g : DataW.trod enc P W 0 (fun _ => true) true fuel t cs = some x) :
    ∃ (l : List Nat) (b : Option Addr) (cp : Nat), c = .slice b l.length cp ∧ l.length ≤ reachBytes ∧ l.length ≤ cp ∧ Sl W b (byts l) ∧ ∀ x ∈ l, x < 256 := by
  subst hcs
  rcases open_ints ht he ce g with ⟨h, _⟩ | ⟨a, len, cap, zs, h, _, hl, _, hz, hx, hcell, hwz⟩
  · exact ⟨[], none, 0, by simpa using h, Nat.zero_le _, Nat.zero_le _, Sl.nil _ _, fun x hx => by cases hx⟩
  · simp only [if_true] at hz
    rw [congrArg Prod.fst hx] at hw
    have hb := (slice_bound ht be hw).1
    have hln : (zs.take len).length = len := by rw [List.length_take]; omega
    have hwt : ∀ z ∈ zs, 0 ≤ z ∧ z < 256 := fun z hz => wfU8 (hwz z hz)
    have hb' : len ≤ reachBytes := by
      have : (lits (H := H) .u8 (zs.take len)).length = len := by simp [lits]; omega
      omega
    refine ⟨(zs.take len).map Int.toNat, some a, cap, ?_, ?_, ?_, Sl.ofCells fun i hi => ?_, ?_⟩
    · rw [List.length_map, hln]; simpa using h
    · rw [List.length_map, hln]; exact hb'
    · rw [List.length_map, hln]; exact hl
    · have hi' : i < len := by rw [List.length_map, List.length_map, hln] at hi; exact hi
      have hiz : i < zs.length := by omega
      have hz0 := (hwt _ (List.getElem_mem hiz)).1
      rw [hcell i hiz]
      simp [hiz, Int.toNat_of_nonneg hz0]
    · intro x hx
      obtain ⟨z, hz', rfl⟩ := List.mem_map.1 hx
      have := hwt z (List.mem_of_mem_take hz')
      omega
structure LaIn (P : Program) (W : World) (v : Value) (l : La) (pb lb : Option Addr) (pc lc : Nat) : Prop where
  val : v = .agg (laCells l pb pc lb lc).toArray
  at_ : LaAt W l pb lb pc lc
  p8 : ∀ x ∈ l.pre, x < 256
  l8 : ∀ x ∈ l.loop, x < 256
  p : l.pre.length ≤ reachBytes
  l : l.loop.length ≤ reachBytes
theorem open_la {t tw tu : TypeId} {f0 f1 : Field} {W : World} {v : Value} {d : DataW H} {p : List MemPlace}
    (ht : P.underlying t = some (.struct #[f0, f1])) (hc : P.cellsOf t = 2) (h0 : f0.type = tw) (h1 : f1.type = tw) (o0 : f0.offset = 0) (o1 : f1.offset = 1)
    (hn : P.underlying tw = some (.slice tu)) (hu : P.underlying tu = some (.int .u8)) (cw : P.cellsOf tw = 1) (cu : P.cellsOf tu = 1) (bu : 0 < P.bytesOf tu) (hw : ∀ m ∈ d.weights P t, m ≤ reachBytes)
    (h : DataW.Trod enc P W 0 (fun _ => true) true t v d p) : ∃ l pb lb pc lc, LaIn P W v l pb lb pc lc := by
  obtain ⟨fuel, hT⟩ := h
  obtain ⟨xs, n, rfl, hx, hlen, hxl, hfs⟩ := DataW.trod_struct ht hT
  rw [hc] at hlen
  obtain ⟨c0, c1, hcs⟩ : ∃ c0 c1, v.cells.toList = [c0, c1] := by
    match hh : v.cells.toList, hlen with
    | [a, b], _ => exact ⟨a, b, rfl⟩
  have hv : v = .agg #[c0, c1] := by
    have hsz : v.cells.size = 2 := by rw [← Array.length_toList, hcs]; rfl
    cases v with
    | agg cs =>
      have : cs.toList = [c0, c1] := hcs
      rw [← Array.toArray_toList (xs := cs), this]
    | _ => simp [Value.cells] at hsz
  rw [hcs] at hfs
  obtain ⟨x0, x1, rfl⟩ : ∃ a b, xs = [a, b] := by
    match xs, hxl with
    | [a, b], _ => exact ⟨a, b, rfl⟩
  have p0 := hfs 0 f0 rfl
  have p1 := hfs 1 f1 rfl
  rw [h0, o0, cw] at p0
  rw [h1, o1, cw] at p1
  have hd : d = .agg [x0.1, x1.1] := congrArg Prod.fst hx
  have hwe : d.weights P t = DataW.weightsEach P [tw, tw] [x0.1, x1.1] := by
    rw [hd, DataW.weights, ht]
    simp [h0, h1]
  rw [hwe] at hw
  have hw0 : ∀ m ∈ x0.1.weights P tw, m ≤ reachBytes := fun m hm => hw m (DataW.weights_mem_each (j := 0) rfl rfl m hm)
  have hw1 : ∀ m ∈ x1.1.weights P tw, m ≤ reachBytes := fun m hm => hw m (DataW.weights_mem_each (j := 1) rfl rfl m hm)
  obtain ⟨l0, b0, cp0, e0, a0, m0, s0, r0⟩ := open_bytes (c := c0) hn hu cu bu rfl hw0 p0
  obtain ⟨l1, b1, cp1, e1, a1, m1, s1, r1⟩ := open_bytes (c := c1) hn hu cu bu rfl hw1 p1
  exact ⟨⟨l0, l1⟩, b0, b1, cp0, cp1, by rw [hv, e0, e1], ⟨s0, s1, m0, m1⟩, r0, r1, a0, a1⟩
end
end Go.Lx


namespace Go.Proofs.Ytnamoapbienooaa
open Go.ChangeShapes Go.WideShapes Go.ChangeAt Go.RowKit Go.Lx
set_option maxRecDepth 100000
theorem own : ownKnob Try.prog.godebug = none := by kernel_rfl
theorem laidOut : laidOutB Try.prog = true := by kernel_rfl
theorem reads26 : Try.prog.readableRec 26 = true := by kernel_rfl
theorem lt26 : 26 < Try.prog.types.size := of_decide_eq_true (by kernel_rfl)
theorem reads29 : Try.prog.readableRec 29 = true := by kernel_rfl
theorem lt29 : 29 < Try.prog.types.size := of_decide_eq_true (by kernel_rfl)
theorem openB {H : Type} {enc : TypeId × Value → H} {W : World} {v : Value} {d : DataW H} {p : List MemPlace} (hw : ∀ m ∈ d.weights Try.prog 26, m ≤ reachBytes) (h : DataW.Trod enc Try.prog W 0 (fun _ => true) true 26 v d p) : ∃ b sb eb tb sc ec tc vs, BuIn Try.prog W v b sb eb tb sc ec tc vs :=
  open_bu Try.underlying26 (by kernel_rfl) rfl rfl rfl rfl rfl rfl rfl rfl rfl rfl Try.underlying3 Try.underlying24 Try.underlying22 Try.underlying23 Try.underlying54 Try.underlying5 rfl rfl rfl rfl rfl rfl rfl rfl (by kernel_rfl) (by kernel_rfl) (by kernel_rfl) (by kernel_rfl) (by kernel_rfl) (by kernel_rfl) (of_decide_eq_true (by kernel_rfl)) (of_decide_eq_true (by kernel_rfl)) (of_decide_eq_true (by kernel_rfl)) hw h
theorem openL {H : Type} {enc : TypeId × Value → H} {W : World} {v : Value} {d : DataW H} {p : List MemPlace} (hw : ∀ m ∈ d.weights Try.prog 29, m ≤ reachBytes) (h : DataW.Trod enc Try.prog W 0 (fun _ => true) true 29 v d p) : ∃ l pb lb pc lc, LaIn Try.prog W v l pb lb pc lc :=
  open_la Try.underlying29 (by kernel_rfl) rfl rfl rfl rfl Try.underlying27 Try.underlying5 (by kernel_rfl) (by kernel_rfl) (of_decide_eq_true (by kernel_rfl)) hw h
noncomputable def laidWorld (os : Os) : World := World.holding Try.prog os ⟨#[], #[], []⟩
end Go.Proofs.Ytnamoapbienooaa

