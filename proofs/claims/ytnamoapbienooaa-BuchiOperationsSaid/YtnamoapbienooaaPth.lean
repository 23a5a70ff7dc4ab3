/- Contracts of functions of the program (BLive, Mrk, BMrk, BAut, Acc, BLvs, BLet, BMat, Pth): what each call answers and that it leaves memory as it was. Conditions: those each theorem names. -/
import Derived.Test.YtnamoapbienooaaBComp
import Derived.Test.YtnamoapbienooaaBDel
set_option linter.unusedSectionVars false
set_option linter.unusedSimpArgs false
set_option linter.unusedVariables false
set_option linter.unnecessarySimpa false
namespace Go.Proofs.Ytnamoapbienooaa
open Go.Lx Go.RowKit
set_option linter.unusedVariables false
set_option linter.unusedSimpArgs false
set_option maxHeartbeats 4000000 in
set_option maxRecDepth 20000 in
theorem liveF (base : World) (nb mb : Option Addr) (nc mc : Nat) (vs : List Value) (nx : List (List Int)) (ms : List Nat) (m : Nat) (hS : Sl base nb vs) (hR : RowsR base vs nx) (hn : nx.length ≤ 1000000) (hrl : ∀ r ∈ nx, r.length ≤ 1000000) (hval : okRows nx) (hM : Sl base mb (uns ms)) (hml : ms.length = nx.length) (hmb : ∀ x ∈ ms, x < 2 ^ m) (hm : m ≤ 8) :
    PureT Try.prog 55 [.agg #[.slice nb nx.length nc, .slice mb ms.length mc, .int .u64 ((2 ^ m - 1 : Nat) : Int)]] base fun v N => ∃ lb lc kb kc ls co, v = .tuple #[.slice lb nx.length lc, .slice kb nx.length kc] ∧ N = [rowI lb lc 4 1 (bools ls), rowI kb kc 4 1 (bools co)] ∧ ls.length = nx.length ∧ co.length = nx.length ∧ ∀ v, v < nx.length → (ls.getD v false = true ↔ Liv nx ms m v) ∧ (co.getD v false = true ↔ Cor nx ms m v) := by
  refine CallT.enter Try.func55 rfl Try.ntmps55 rfl ?_
  refine T.seq (T.region ?_)
  refine TO.loud rfl (l_box (v := (.agg #[(.slice nb nx.length nc), (.slice mb ms.length mc), .int .u64 ((2 ^ m - 1 : Nat) : Int)])) (cs := [(.slice nb nx.length nc), (.slice mb ms.length mc), .int .u64 ((2 ^ m - 1 : Nat) : Int)]) rfl rfl (fun bx1 => ?_))
  refine TO.quiet (q_assign rfl) (TO.quiet (q_assign rfl) ?_)
  refine TO.nil (T.seq (T.region ?_))
  refine TO.quiet (q_load_boxAgg 0 Try.underlying79 rfl inf79 rfl rfl rfl) ?_
  have hk28 := fun (w1 : World) (hI : Inv base [oI bx1 79 [(.slice nb nx.length nc), (.slice mb ms.length mc), .int .u64 ((2 ^ m - 1 : Nat) : Int)]] w1) => componentsF w1 nb mb nc ms.length mc ((2 ^ m - 1 : Nat) : Int) vs nx (hI.sl hS) (hI.rows hR) hn hrl hval
  refine TO.loud rfl (l_call ent74 (CallT.of_pure hk28) rfl ?_)
  clear hk28
  rintro vr O' ⟨N, rfl, cb, cc, cn, cnt, rfl, rfl, hcl, hC, hcnt⟩
  refine TO.quiet (q_move rfl) (TO.quiet (q_extract (vs := _) rfl rfl) (TO.quiet (q_extract (vs := _) rfl rfl) (TO.quiet (q_assign rfl) ?_)))
  refine TO.quiet (q_assign rfl) ?_
  refine TO.nil ?_
  refine T.cut (fun ρ O => ∃ (zA zB : Nat), O = [rowI (some ⟨zA, 0, none⟩) cnt 4 1 (List.replicate cnt (.bool false)), rowI (some ⟨zB, 0, none⟩) cnt 52 1 (List.replicate cnt (.int .u64 0)), rowI cb cc 3 1 (nats cn), oI bx1 79 [(.slice nb nx.length nc), (.slice mb ms.length mc), .int .u64 ((2 ^ m - 1 : Nat) : Int)]] ∧ Heads [(0, (.agg #[(.slice nb nx.length nc), (.slice mb ms.length mc), .int .u64 ((2 ^ m - 1 : Nat) : Int)])), (1, (.pointer (some ⟨bx1, 0, none⟩))), (2, (.slice none 0 0)), (3, (.slice none 0 0)), (4, (.slice cb nx.length cc)), (5, .int .i64 ((cnt : Nat) : Int)), (6, (.slice (some ⟨zA, 0, none⟩) cnt cnt)), (7, (.slice (some ⟨zB, 0, none⟩) cnt cnt))] ρ) ?_ ?_
  · refine T.tree [] 6 mixed rfl (Sub.pick [] rfl) (fun _ _ _ h => h) ?_
    refine RO.quietT 0 rfl (by kernel_rfl) (q_move rfl) ?_
    refine RO.quietT 2 rfl (by kernel_rfl) (q_move rfl) ?_
    refine RO.fork [1, 3] (by kernel_rfl) rfl ⟨⟨_, rfl, rfl, l_makeSlice (m := cnt) Try.underlying39 inf4 rfl rfl (by omega) (by omega) (fun zA => ⟨Sub.pick [] rfl, ?_⟩)⟩, ⟨_, rfl, rfl, l_makeSlice (m := cnt) Try.underlying77 inf52 rfl rfl (by omega) (by omega) (fun zB => ⟨Sub.pick [] rfl, ?_⟩)⟩, trivial⟩
    · refine RO.quietT 4 rfl (by kernel_rfl) (q_assign rfl) ?_
      refine RO.fork [3] (by kernel_rfl) rfl ⟨⟨_, rfl, rfl, l_makeSlice (m := cnt) Try.underlying77 inf52 rfl rfl (by omega) (by omega) (fun zB => ⟨Sub.pick [] rfl, ?_⟩)⟩, trivial⟩
      refine RO.quietT 5 rfl (by kernel_rfl) (q_assign rfl) ?_
      exact RO.fin (by kernel_rfl) ⟨zA, zB, rfl, ⟨rfl, rfl, rfl, rfl, rfl, rfl, rfl, rfl, trivial⟩⟩ (Sub.pick [1, 0, 0, 0] rfl)
    refine RO.fork [1] (by kernel_rfl) rfl ⟨⟨_, rfl, rfl, l_makeSlice (m := cnt) Try.underlying39 inf4 rfl rfl (by omega) (by omega) (fun zA => ⟨Sub.pick [] rfl, ?_⟩)⟩, trivial⟩
    refine RO.quietT 4 rfl (by kernel_rfl) (q_assign rfl) ?_
    refine RO.quietT 5 rfl (by kernel_rfl) (q_assign rfl) ?_
    exact RO.fin (by kernel_rfl) ⟨zA, zB, rfl, ⟨rfl, rfl, rfl, rfl, rfl, rfl, rfl, rfl, trivial⟩⟩ (Sub.pick [0, 0, 0, 0] rfl)
  rintro ρ O ⟨zA, zB, rfl, hH⟩
  obtain ⟨ρ0, rfl⟩ := hH.elim
  clear hH
  refine T.seq (T.seq (T.region ?_))
  refine TO.quiet (q_fieldAddr Try.underlying79 rfl inf24 rfl rfl) (TO.quiet (q_load_box 3 Try.underlying24 rfl rfl rfl rfl) (TO.quiet (q_len Try.underlying24 rfl) (TO.quiet (q_move rfl) ?_)))
  refine TO.nil (T.block ?_)
  refine T.loop (fun (k : Nat) ρ O => ∃ (cy : List Bool) (ha : List Nat), O = [rowI (some ⟨zA, 0, none⟩) cnt 4 1 (bools cy), rowI (some ⟨zB, 0, none⟩) cnt 52 1 (uns ha), rowI cb cc 3 1 (nats cn), oI bx1 79 [(.slice nb nx.length nc), (.slice mb ms.length mc), .int .u64 ((2 ^ m - 1 : Nat) : Int)]] ∧ k ≤ nx.length ∧ CyP nx cn cnt k 0 cy ∧ HaP nx ms cn m cnt k ha ∧ Heads [(0, (.agg #[(.slice nb nx.length nc), (.slice mb ms.length mc), .int .u64 ((2 ^ m - 1 : Nat) : Int)])), (1, (.pointer (some ⟨bx1, 0, none⟩))), (2, (.slice none 0 0)), (3, (.slice none 0 0)), (4, (.slice cb nx.length cc)), (5, .int .i64 ((cnt : Nat) : Int)), (6, (.slice (some ⟨zA, 0, none⟩) cnt cnt)), (7, (.slice (some ⟨zB, 0, none⟩) cnt cnt)), (36, (.slice nb nx.length nc)), (37, .int .i64 (nx.length : Int)), (38, .int .i64 (k : Int))] ρ) (fun k => nx.length - k) 0 ?_ ?_
  · exact ⟨List.replicate cnt false, List.replicate cnt 0, (by first | (simp only [List.map_replicate]; done) | (simp only [List.map_replicate]; rfl)), Nat.zero_le _, CyP.start, HaP.start, ⟨rfl, rfl, rfl, rfl, rfl, rfl, rfl, rfl, rfl, rfl, rfl, trivial⟩⟩
  rintro k ρ O ⟨cy, ha, rfl, hk, hcy, hha, hH⟩
  obtain ⟨ρ0, rfl⟩ := hH.elim
  clear hH
  have hyl := hcy.l; have hhl := hha.l
  refine T.seq (T.region ?_)
  refine TO.quiet (q_lss rfl rfl) ?_
  refine TO.nil (T.seq ?_)
  refine T.condP rfl (fun hc => ?_) (fun hc => ?_)
  · have hlt39 : k < nx.length := by omega
    obtain ⟨rb, rc, g1, s1⟩ := hR.get hlt39
    have hrk := hrl _ (List.getElem_mem hlt39)
    have hfk : fn cn k = cn[k] := fn_get (by omega)
    have hck : cn[k] < cnt := by have := (hC.pos k (by omega)).2; have h2 : ((fn cn k : Nat) : Int) < cnt := this; omega
    have hb1 : ha[cn[k]] < 256 := lt64 (by have := hha.b cn[k]; rwa [gd (by omega)] at this) hm
    have hb2 : ms[k] < 256 := lt64 (hmb _ (List.getElem_mem _)) hm
    refine T.skip (T.seq (T.block (T.seq (T.region ?_))))
    refine TO.quiet (q_move rfl) (TO.quiet (q_ix (i := k) Try.underlying24 inf22 rfl rfl (Sl.o hS) (by first | assumption | omega | (simp; omega) | simp_all) (by rw [hR.1]; exact hlt39)) (TO.quiet (q_ld Try.underlying22 rfl rfl (Sl.o hS) g1) (TO.quiet (q_assign rfl) ?_)))
    refine TO.quiet (q_assign rfl) ?_
    refine TO.nil (T.seq ?_)
    refine T.draws _ [(0, 0), (1, 0), (2, 0), (3, 0), (4, 0), (5, 0), (6, 0), (7, 0), (8, 0), (9, 0), (10, 0), (11, 0), (12, 0), (13, 0), (14, 2)] mixed (by kernel_rfl) (Sub.of (List.Sublist.refl _)) (fun _ _ _ h => h) ?_
    refine DO.quiet rfl (q_move rfl) (DO.quiet rfl (q_move rfl) (DO.quiet rfl (q_move rfl) (DO.quiet rfl (q_ix (i := k) Try.underlying22 inf3 rfl rfl (rowO (List.mem_of_getElem? (i := 2) rfl))) ?_)))
    refine DO.quiet rfl (q_ld Try.underlying3 rfl rfl (rowO (List.mem_of_getElem? (i := 2) rfl)) nats_get) (DO.quiet rfl (q_ix (i := cn[k]) Try.underlying77 inf52 rfl rfl (rowO (List.mem_of_getElem? (i := 1) rfl))) (DO.quiet rfl (q_ld Try.underlying52 rfl rfl (rowO (List.mem_of_getElem? (i := 1) rfl)) uns_get) (DO.quiet rfl (q_fieldAddr Try.underlying79 rfl inf77 rfl rfl) ?_)))
    refine DO.quiet rfl (q_load_box 3 Try.underlying77 rfl rfl rfl rfl) (DO.quiet rfl (q_move rfl) (DO.quiet rfl (q_ix (i := k) Try.underlying77 inf52 rfl rfl (Sl.o hM)) (DO.quiet rfl (q_ld Try.underlying52 rfl rfl (Sl.o hM) uns_get) ?_)))
    refine DO.quiet rfl (q_or (a := ha[cn[k]]) (b := ms[k]) .u64 rfl rfl (by show _ < 18446744073709551616; omega) (by show _ < 18446744073709551616; omega)) (DO.quiet rfl (q_ix (i := cn[k]) Try.underlying77 inf52 rfl rfl (rowO (List.mem_of_getElem? (i := 1) rfl))) ?_)
    refine DO.last rfl rfl (l_st (j := cn[k]) (v := .int .u64 ((ha[cn[k]] ||| ms[k] : Nat) : Int)) (vs := [(.int .u64 ((ha[cn[k]] ||| ms[k] : Nat) : Int))]) (cs := uns ha) 1 inf52 rfl rfl rfl rfl rfl (by simp) rfl (by first | (simp; omega) | (simp_all; omega)) ?_)
    refine DO.sub (O' := [rowI (some ⟨zA, 0, none⟩) cnt 4 1 (bools cy), rowI (some ⟨zB, 0, none⟩) cnt 52 1 (uns (ha.set cn[k] (ha[cn[k]] ||| ms[k]))), rowI cb cc 3 1 (nats cn), oI bx1 79 [(.slice nb nx.length nc), (.slice mb ms.length mc), .int .u64 ((2 ^ m - 1 : Nat) : Int)]]) (by rw [show putL (uns ha) cn[k] [(.int .u64 ((ha[cn[k]] ||| ms[k] : Nat) : Int))] = uns (ha.set cn[k] (ha[cn[k]] ||| ms[k])) from (by simp [putL])]; exact Sub.of (List.Sublist.refl _)) ?_
    refine DO.done ?_
    refine T.seq (T.region ?_)
    refine TO.quiet (q_move rfl) (TO.quiet (q_len Try.underlying22 rfl) (TO.quiet (q_move rfl) ?_))
    refine TO.nil (T.block ?_)
    refine T.loop (fun (j : Nat) ρ O => ∃ (cz : List Bool), O = [rowI (some ⟨zA, 0, none⟩) cnt 4 1 (bools cz), rowI (some ⟨zB, 0, none⟩) cnt 52 1 (uns (ha.set cn[k] (ha[cn[k]] ||| ms[k]))), rowI cb cc 3 1 (nats cn), oI bx1 79 [(.slice nb nx.length nc), (.slice mb ms.length mc), .int .u64 ((2 ^ m - 1 : Nat) : Int)]] ∧ j ≤ nx[k].length ∧ CyP nx cn cnt k j cz ∧ Heads [(0, (.agg #[(.slice nb nx.length nc), (.slice mb ms.length mc), .int .u64 ((2 ^ m - 1 : Nat) : Int)])), (1, (.pointer (some ⟨bx1, 0, none⟩))), (2, (.slice none 0 0)), (3, (.slice none 0 0)), (4, (.slice cb nx.length cc)), (5, .int .i64 ((cnt : Nat) : Int)), (6, (.slice (some ⟨zA, 0, none⟩) cnt cnt)), (7, (.slice (some ⟨zB, 0, none⟩) cnt cnt)), (8, .int .i64 (k : Int)), (9, (.slice rb nx[k].length rc)), (36, (.slice nb nx.length nc)), (37, .int .i64 (nx.length : Int)), (38, .int .i64 (k : Int)), (57, (.slice rb nx[k].length rc)), (58, .int .i64 (nx[k].length : Int)), (59, .int .i64 (j : Int))] ρ) (fun j => nx[k].length - j) 0 ?_ ?_
    · exact ⟨cy, rfl, Nat.zero_le _, hcy, ⟨rfl, rfl, rfl, rfl, rfl, rfl, rfl, rfl, rfl, rfl, rfl, rfl, rfl, rfl, rfl, rfl, trivial⟩⟩
    rintro j ρ O ⟨cz, rfl, hj, hcz, hH⟩
    obtain ⟨ρ0, rfl⟩ := hH.elim
    clear hH
    have hzl := hcz.l
    refine T.seq (T.region ?_)
    refine TO.quiet (q_lss rfl rfl) ?_
    refine TO.nil (T.seq ?_)
    refine T.condP rfl (fun hc => ?_) (fun hc => ?_)
    · have hlt60 : j < nx[k].length := by omega
      obtain ⟨u, hu, hul⟩ : ∃ u : Nat, nx[k][j] = (u : Int) ∧ u < nx.length := by
        have := hval _ (List.getElem_mem hlt39) _ (List.getElem_mem hlt60)
        exact ⟨nx[k][j].toNat, by omega, by omega⟩
      have hfu : fn cn u = cn[u] := fn_get (by omega)
      have hcu : cn[u] < cnt := by have := (hC.pos u hul).2; have h2 : ((fn cn u : Nat) : Int) < cnt := this; omega
      refine T.skip (T.seq (T.block (T.seq (T.region ?_))))
      refine TO.quiet (q_ix (i := j) Try.underlying22 inf3 rfl rfl (Sl.o s1)) (TO.quiet (q_ld Try.underlying3 rfl rfl (Sl.o s1) (show (ints nx[k])[j]? = _ by rw [ints_get hlt60, hu])) (TO.quiet (q_assign rfl) ?_))
      refine TO.nil ?_
      refine T.draws _ [(0, 0), (1, 0), (2, 0), (3, 0), (4, 0), (5, 0), (6, 0), (7, 0), (8, 0), (9, 0), (10, 0), (11, 0), (12, 0), (13, 0), (14, 0), (15, 0), (16, 0), (17, 0), (18, 0), (19, 0), (20, 0), (21, 0), (22, 0), (23, 0), (24, 2)] mixed (by kernel_rfl) (Sub.of (List.Sublist.refl _)) (fun _ _ _ h => h) ?_
      refine DO.quiet rfl (q_move rfl) (DO.quiet rfl (q_move rfl) (DO.quiet rfl (q_move rfl) (DO.quiet rfl (q_ix (i := k) Try.underlying22 inf3 rfl rfl (rowO (List.mem_of_getElem? (i := 2) rfl))) ?_)))
      refine DO.quiet rfl (q_ld Try.underlying3 rfl rfl (rowO (List.mem_of_getElem? (i := 2) rfl)) nats_get) (DO.quiet rfl (q_move rfl) (DO.quiet rfl (q_move rfl) (DO.quiet rfl (q_move rfl) ?_)))
      refine DO.quiet rfl (q_ix (i := k) Try.underlying22 inf3 rfl rfl (rowO (List.mem_of_getElem? (i := 2) rfl))) (DO.quiet rfl (q_ld Try.underlying3 rfl rfl (rowO (List.mem_of_getElem? (i := 2) rfl)) nats_get) (DO.quiet rfl (q_ix (i := cn[k]) Try.underlying39 inf4 rfl rfl (rowO (List.mem_of_getElem? (i := 0) rfl))) (DO.quiet rfl (q_ld Try.underlying4 rfl rfl (rowO (List.mem_of_getElem? (i := 0) rfl)) bools_get) ?_)))
      by_cases hs75 : cz[cn[k]] = true
      · refine DO.quiet rfl (QT.toB (q_move rfl) (hs75)) ?_
        refine DO.passed rfl rfl rfl ?_
        refine DO.passed rfl rfl rfl ?_
        refine DO.passed rfl rfl rfl ?_
        refine DO.passed rfl rfl rfl ?_
        refine DO.passed rfl rfl rfl ?_
        refine DO.passed rfl rfl rfl ?_
        refine DO.passed rfl rfl rfl ?_
        refine DO.passed rfl rfl rfl ?_
        refine DO.passed rfl rfl rfl ?_
        refine DO.quiet rfl (q_pick1 rfl rfl) (DO.quiet rfl (q_ix (i := cn[k]) Try.underlying39 inf4 rfl rfl (rowO (List.mem_of_getElem? (i := 0) rfl))) ?_)
        refine DO.last rfl rfl (l_st (j := cn[k]) (v := .bool true) (vs := [(.bool true)]) (cs := bools cz) 0 inf4 rfl rfl rfl rfl rfl (by simp) rfl (by first | (simp; omega) | (simp_all; omega)) ?_)
        refine DO.sub (O' := [rowI (some ⟨zA, 0, none⟩) cnt 4 1 (bools (cz.set cn[k] true)), rowI (some ⟨zB, 0, none⟩) cnt 52 1 (uns (ha.set cn[k] (ha[cn[k]] ||| ms[k]))), rowI cb cc 3 1 (nats cn), oI bx1 79 [(.slice nb nx.length nc), (.slice mb ms.length mc), .int .u64 ((2 ^ m - 1 : Nat) : Int)]]) (by rw [show putL (bools cz) cn[k] [(.bool true)] = bools (cz.set cn[k] true) from (by simp [putL])]; exact Sub.of (List.Sublist.refl _)) ?_
        refine DO.done ?_
        refine T.region ?_
        refine TO.quiet (q_addN (a := j) (b := 1) rfl rfl (by omega)) (TO.quiet (q_move rfl) ?_)
        refine TO.nil ?_
        exact ⟨j + 1, by omega, cz.set cn[k] true, rfl, by omega, (by have := hcz.step (k := k) (b := true) hlt39 hlt60 hu (by rw [hfk]; exact hck) (by rw [hfk, hfu, gb (by omega)]; first | (simp [hs75]; done) | (simp [hs75]; omega)); rwa [hfk] at this), ⟨rfl, rfl, rfl, rfl, rfl, rfl, rfl, rfl, rfl, rfl, rfl, rfl, rfl, rfl, rfl, rfl, trivial⟩⟩
      refine DO.quiet rfl (QT.toB (q_move rfl) (Bool.eq_false_iff.2 hs75)) ?_
      refine DO.guarded rfl rfl rfl (q_move rfl) ?_
      refine DO.guarded rfl rfl rfl (q_move rfl) ?_
      refine DO.guarded rfl rfl rfl (q_ix (i := u) Try.underlying22 inf3 rfl rfl (rowO (List.mem_of_getElem? (i := 2) rfl))) ?_
      refine DO.guarded rfl rfl rfl (q_ld Try.underlying3 rfl rfl (rowO (List.mem_of_getElem? (i := 2) rfl)) nats_get) ?_
      refine DO.guarded rfl rfl rfl (q_move rfl) ?_
      refine DO.guarded rfl rfl rfl (q_move rfl) ?_
      refine DO.guarded rfl rfl rfl (q_ix (i := k) Try.underlying22 inf3 rfl rfl (rowO (List.mem_of_getElem? (i := 2) rfl))) ?_
      refine DO.guarded rfl rfl rfl (q_ld Try.underlying3 rfl rfl (rowO (List.mem_of_getElem? (i := 2) rfl)) nats_get) ?_
      refine DO.guarded rfl rfl rfl (q_eql rfl rfl) ?_
      refine DO.quiet rfl (q_pick0 rfl rfl) (DO.quiet rfl (q_ix (i := cn[k]) Try.underlying39 inf4 rfl rfl (rowO (List.mem_of_getElem? (i := 0) rfl))) ?_)
      refine DO.last rfl rfl (l_st (j := cn[k]) (v := .bool (decide (((cn[u] : Nat) : Int) = ((cn[k] : Nat) : Int)))) (vs := [(.bool (decide (((cn[u] : Nat) : Int) = ((cn[k] : Nat) : Int))))]) (cs := bools cz) 0 inf4 rfl rfl rfl rfl rfl (by simp) rfl (by first | (simp; omega) | (simp_all; omega)) ?_)
      refine DO.sub (O' := [rowI (some ⟨zA, 0, none⟩) cnt 4 1 (bools (cz.set cn[k] (decide (((cn[u] : Nat) : Int) = ((cn[k] : Nat) : Int))))), rowI (some ⟨zB, 0, none⟩) cnt 52 1 (uns (ha.set cn[k] (ha[cn[k]] ||| ms[k]))), rowI cb cc 3 1 (nats cn), oI bx1 79 [(.slice nb nx.length nc), (.slice mb ms.length mc), .int .u64 ((2 ^ m - 1 : Nat) : Int)]]) (by rw [show putL (bools cz) cn[k] [(.bool (decide (((cn[u] : Nat) : Int) = ((cn[k] : Nat) : Int))))] = bools (cz.set cn[k] (decide (((cn[u] : Nat) : Int) = ((cn[k] : Nat) : Int)))) from (by simp [putL])]; exact Sub.of (List.Sublist.refl _)) ?_
      refine DO.done ?_
      refine T.region ?_
      refine TO.quiet (q_addN (a := j) (b := 1) rfl rfl (by omega)) (TO.quiet (q_move rfl) ?_)
      refine TO.nil ?_
      exact ⟨j + 1, by omega, cz.set cn[k] (decide (((cn[u] : Nat) : Int) = ((cn[k] : Nat) : Int))), rfl, by omega, (by have := hcz.step (k := k) (b := (decide (((cn[u] : Nat) : Int) = ((cn[k] : Nat) : Int)))) hlt39 hlt60 hu (by rw [hfk]; exact hck) (by rw [hfk, hfu, gb (by omega)]; first | (simp [hs75]; done) | (simp [hs75]; omega)); rwa [hfk] at this), ⟨rfl, rfl, rfl, rfl, rfl, rfl, rfl, rfl, rfl, rfl, rfl, rfl, rfl, rfl, rfl, rfl, trivial⟩⟩
    have hge60 : ¬ j < nx[k].length := by omega
    refine T.exit ?_
    refine T.region ?_
    refine TO.quiet (q_addN (a := k) (b := 1) rfl rfl (by omega)) (TO.quiet (q_move rfl) ?_)
    refine TO.nil ?_
    exact ⟨k + 1, by omega, cz, ha.set cn[k] (ha[cn[k]] ||| ms[k]), rfl, by omega, hcz.row hlt39 (by omega) hj, (by have := hha.step (k := k) (a := ha[cn[k]] ||| ms[k]) (by rw [hfk]; exact hck) (by rw [gd (by omega)]; exact hmb _ (List.getElem_mem _)) (by rw [hfk, gd (by omega), gd (by omega)]); rwa [hfk] at this), ⟨rfl, rfl, rfl, rfl, rfl, rfl, rfl, rfl, rfl, rfl, rfl, trivial⟩⟩
  have hge39 : ¬ k < nx.length := by omega
  refine T.exit ?_
  refine T.seq (T.region ?_)
  refine TO.quiet (q_move rfl) ?_
  refine TO.loud rfl (l_makeSlice (m := cnt) Try.underlying39 inf4 rfl rfl (by omega) (by omega) (fun bx2 => ?_))
  refine TO.quiet (q_assign rfl) ?_
  refine TO.nil ?_
  refine T.cut (fun ρ O => ∃ (zL zK : Nat), O = [rowI (some ⟨zL, 0, none⟩) nx.length 4 1 (List.replicate nx.length (.bool false)), rowI (some ⟨zK, 0, none⟩) nx.length 4 1 (List.replicate nx.length (.bool false)), rowI (some ⟨bx2, 0, none⟩) cnt 4 1 (List.replicate cnt (.bool false)), rowI (some ⟨zA, 0, none⟩) cnt 4 1 (bools cy), rowI (some ⟨zB, 0, none⟩) cnt 52 1 (uns ha), rowI cb cc 3 1 (nats cn), oI bx1 79 [(.slice nb nx.length nc), (.slice mb ms.length mc), .int .u64 ((2 ^ m - 1 : Nat) : Int)]] ∧ Heads [(0, (.agg #[(.slice nb nx.length nc), (.slice mb ms.length mc), .int .u64 ((2 ^ m - 1 : Nat) : Int)])), (1, (.pointer (some ⟨bx1, 0, none⟩))), (2, (.slice (some ⟨zL, 0, none⟩) nx.length nx.length)), (3, (.slice (some ⟨zK, 0, none⟩) nx.length nx.length)), (4, (.slice cb nx.length cc)), (5, .int .i64 ((cnt : Nat) : Int)), (6, (.slice (some ⟨zA, 0, none⟩) cnt cnt)), (7, (.slice (some ⟨zB, 0, none⟩) cnt cnt)), (12, (.slice (some ⟨bx2, 0, none⟩) cnt cnt))] ρ) ?_ ?_
  · refine T.tree [oI bx1 79 [(.slice nb nx.length nc), (.slice mb ms.length mc), .int .u64 ((2 ^ m - 1 : Nat) : Int)]] 10 mixed rfl (Sub.pick [4] rfl) (fun _ _ _ h => h) ?_
    refine RO.quietT 0 rfl (by kernel_rfl) (q_fieldAddr Try.underlying79 rfl inf24 rfl rfl) ?_
    refine RO.quietT 1 rfl (by kernel_rfl) (q_load_box 0 Try.underlying24 rfl rfl rfl rfl) ?_
    refine RO.quietT 2 rfl (by kernel_rfl) (q_len Try.underlying24 rfl) ?_
    refine RO.quietT 4 rfl (by kernel_rfl) (q_fieldAddr Try.underlying79 rfl inf24 rfl rfl) ?_
    refine RO.quietT 5 rfl (by kernel_rfl) (q_load_box 0 Try.underlying24 rfl rfl rfl rfl) ?_
    refine RO.quietT 6 rfl (by kernel_rfl) (q_len Try.underlying24 rfl) ?_
    refine RO.fork [3, 7] (by kernel_rfl) rfl ⟨⟨_, rfl, rfl, l_makeSlice (m := nx.length) Try.underlying39 inf4 rfl rfl (by omega) (by omega) (fun zL => ⟨Sub.pick [5] rfl, ?_⟩)⟩, ⟨_, rfl, rfl, l_makeSlice (m := nx.length) Try.underlying39 inf4 rfl rfl (by omega) (by omega) (fun zK => ⟨Sub.pick [5] rfl, ?_⟩)⟩, trivial⟩
    · refine RO.quietT 8 rfl (by kernel_rfl) (q_assign rfl) ?_
      refine RO.fork [7] (by kernel_rfl) rfl ⟨⟨_, rfl, rfl, l_makeSlice (m := nx.length) Try.underlying39 inf4 rfl rfl (by omega) (by omega) (fun zK => ⟨Sub.pick [6] rfl, ?_⟩)⟩, trivial⟩
      refine RO.quietT 9 rfl (by kernel_rfl) (q_assign rfl) ?_
      exact RO.fin (by kernel_rfl) ⟨zL, zK, rfl, ⟨rfl, rfl, rfl, rfl, rfl, rfl, rfl, rfl, rfl, trivial⟩⟩ (Sub.pick [1, 0, 0, 0, 0, 0, 0] rfl)
    refine RO.fork [3] (by kernel_rfl) rfl ⟨⟨_, rfl, rfl, l_makeSlice (m := nx.length) Try.underlying39 inf4 rfl rfl (by omega) (by omega) (fun zL => ⟨Sub.pick [6] rfl, ?_⟩)⟩, trivial⟩
    refine RO.quietT 8 rfl (by kernel_rfl) (q_assign rfl) ?_
    refine RO.quietT 9 rfl (by kernel_rfl) (q_assign rfl) ?_
    exact RO.fin (by kernel_rfl) ⟨zL, zK, rfl, ⟨rfl, rfl, rfl, rfl, rfl, rfl, rfl, rfl, rfl, trivial⟩⟩ (Sub.pick [0, 0, 0, 0, 0, 0, 0] rfl)
  rintro ρ O ⟨zL, zK, rfl, hH⟩
  obtain ⟨ρ0, rfl⟩ := hH.elim
  clear hH
  refine T.seq (T.region ?_)
  refine TO.quiet (q_move rfl) ?_
  refine TO.loud rfl (l_makeSlice (m := cnt) Try.underlying24 inf22 rfl rfl (by omega) (by omega) (fun bx3 => ?_))
  refine TO.quiet (q_assign rfl) ?_
  refine TO.nil (T.seq (T.seq (T.region ?_)))
  refine TO.quiet (q_move rfl) (TO.quiet (q_len Try.underlying22 rfl) (TO.quiet (q_move rfl) ?_))
  refine TO.nil (T.block ?_)
  refine T.nilRows 3 cnt ?_
  refine T.loop (fun (p : Nat) ρ O => ∃ (qs : List Rec), O = ([rowI (some ⟨bx3, 0, none⟩) cnt 22 1 (vals qs), rowI (some ⟨zL, 0, none⟩) nx.length 4 1 (List.replicate nx.length (.bool false)), rowI (some ⟨zK, 0, none⟩) nx.length 4 1 (List.replicate nx.length (.bool false)), rowI (some ⟨bx2, 0, none⟩) cnt 4 1 (List.replicate cnt (.bool false)), rowI (some ⟨zA, 0, none⟩) cnt 4 1 (bools cy), rowI (some ⟨zB, 0, none⟩) cnt 52 1 (uns ha), rowI cb cc 3 1 (nats cn), oI bx1 79 [(.slice nb nx.length nc), (.slice mb ms.length mc), .int .u64 ((2 ^ m - 1 : Nat) : Int)]] ++ (itms 3 qs)) ∧ p ≤ nx.length ∧ OrP nx cn cnt p (nums qs) ∧ Heads [(0, (.agg #[(.slice nb nx.length nc), (.slice mb ms.length mc), .int .u64 ((2 ^ m - 1 : Nat) : Int)])), (1, (.pointer (some ⟨bx1, 0, none⟩))), (2, (.slice (some ⟨zL, 0, none⟩) nx.length nx.length)), (3, (.slice (some ⟨zK, 0, none⟩) nx.length nx.length)), (4, (.slice cb nx.length cc)), (5, .int .i64 ((cnt : Nat) : Int)), (6, (.slice (some ⟨zA, 0, none⟩) cnt cnt)), (7, (.slice (some ⟨zB, 0, none⟩) cnt cnt)), (12, (.slice (some ⟨bx2, 0, none⟩) cnt cnt)), (13, (.slice (some ⟨bx3, 0, none⟩) cnt cnt)), (101, (.slice cb nx.length cc)), (102, .int .i64 (nx.length : Int)), (103, .int .i64 (p : Int))] ρ) (fun p => nx.length - p) 0 ?_ ?_
  · exact ⟨List.replicate cnt nilRec, (by simp only [List.map_replicate]; rfl), Nat.zero_le _, (by rw [show nums (List.replicate cnt nilRec) = List.replicate cnt [] by simp [nums]]; exact OrP.start), ⟨rfl, rfl, rfl, rfl, rfl, rfl, rfl, rfl, rfl, rfl, rfl, rfl, rfl, trivial⟩⟩
  rintro p ρ O ⟨qs, rfl, hp, hor, hH⟩
  obtain ⟨ρ0, rfl⟩ := hH.elim
  clear hH
  have hql := hor.ql
  refine T.seq (T.region ?_)
  refine TO.quiet (q_lss rfl rfl) ?_
  refine TO.nil (T.seq ?_)
  refine T.condP rfl (fun hc => ?_) (fun hc => ?_)
  · have hlt104 : p < nx.length := by omega
    have hfk : fn cn p = cn[p] := fn_get (by omega)
    have hck : cn[p] < cnt := by have := (hC.pos p (by omega)).2; have h2 : ((fn cn p : Nat) : Int) < cnt := this; omega
    have hqk : cn[p] < qs.length := by omega
    have hrq := hor.rl hqk
    refine T.skip (T.seq (T.block (T.seq (T.region ?_))))
    refine TO.quiet (q_move rfl) (TO.quiet (q_ix (i := p) Try.underlying22 inf3 rfl rfl (rowO (List.mem_of_getElem? (i := 6) rfl))) (TO.quiet (q_ld Try.underlying3 rfl rfl (rowO (List.mem_of_getElem? (i := 6) rfl)) nats_get) (TO.quiet (q_assign rfl) ?_)))
    refine TO.quiet (q_assign rfl) ?_
    refine TO.nil ?_
    refine T.sub (sub_out hqk [rowI (some ⟨bx3, 0, none⟩) cnt 22 1 (vals qs), rowI (some ⟨zL, 0, none⟩) nx.length 4 1 (List.replicate nx.length (.bool false)), rowI (some ⟨zK, 0, none⟩) nx.length 4 1 (List.replicate nx.length (.bool false)), rowI (some ⟨bx2, 0, none⟩) cnt 4 1 (List.replicate cnt (.bool false)), rowI (some ⟨zA, 0, none⟩) cnt 4 1 (bools cy), rowI (some ⟨zB, 0, none⟩) cnt 52 1 (uns ha), rowI cb cc 3 1 (nats cn), oI bx1 79 [(.slice nb nx.length nc), (.slice mb ms.length mc), .int .u64 ((2 ^ m - 1 : Nat) : Int)]]) ?_
    refine T.region ?_
    refine TO.quiet (q_move rfl) (TO.quiet (q_move rfl) (TO.quiet (q_move rfl) (TO.quiet (q_move rfl) ?_)))
    refine TO.quiet (q_ix (i := cn[p]) Try.underlying24 inf22 rfl rfl (rowO (List.mem_of_getElem? (i := 1) rfl))) (TO.quiet (q_ld Try.underlying22 rfl rfl (rowO (List.mem_of_getElem? (i := 1) rfl)) (vals_at hqk)) (TO.quiet (q_move rfl) ?_))
    refine TO.loud rfl (l_build1 (v := .int .i64 (p : Int)) Try.underlying22 inf3 rfl rfl rfl (fun bx4 => ?_))
    refine TO.loud rfl (l_append 1 Try.underlying22 Try.underlying22 inf3 rfl rfl rfl rfl (by simp) (by decide) (Src.row (j := 0) rfl (by simp)) (by simp [oneB]) (by omega) (by decide) (by decide) (fun bx5 c6 => ?_))
    refine TO.quiet (q_ix (i := cn[p]) Try.underlying24 inf22 rfl rfl (rowO (List.mem_of_getElem? (i := 2) rfl))) ?_
    refine TO.loud rfl (l_st (j := cn[p]) (v := (.slice bx5 (qs[cn[p]].xs.length + 1) c6)) (vs := [(.slice bx5 (qs[cn[p]].xs.length + 1) c6)]) (cs := vals qs) 2 inf22 rfl rfl rfl rfl rfl (by simp) rfl (by first | (simp; omega) | (simp_all; omega)) ?_)
    refine TO.sub (O' := ([rowI (some ⟨bx4, 0, none⟩) 1 3 1 [.int .i64 (p : Int)], rowI bx5 c6 3 1 ((ints qs[cn[p]].xs) ++ [.int .i64 (p : Int)]), rowI (some ⟨bx3, 0, none⟩) cnt 22 1 (vals (qs.set cn[p] ⟨bx5, c6, qs[cn[p]].xs ++ [(p : Int)]⟩)), rowI (some ⟨zL, 0, none⟩) nx.length 4 1 (List.replicate nx.length (.bool false)), rowI (some ⟨zK, 0, none⟩) nx.length 4 1 (List.replicate nx.length (.bool false)), rowI (some ⟨bx2, 0, none⟩) cnt 4 1 (List.replicate cnt (.bool false)), rowI (some ⟨zA, 0, none⟩) cnt 4 1 (bools cy), rowI (some ⟨zB, 0, none⟩) cnt 52 1 (uns ha), rowI cb cc 3 1 (nats cn), oI bx1 79 [(.slice nb nx.length nc), (.slice mb ms.length mc), .int .u64 ((2 ^ m - 1 : Nat) : Int)]] ++ (itms 3 (qs.eraseIdx cn[p])))) (by rw [show putL (vals qs) cn[p] [(.slice bx5 (qs[cn[p]].xs.length + 1) c6)] = vals (qs.set cn[p] ⟨bx5, c6, qs[cn[p]].xs ++ [(p : Int)]⟩) from (by simp [putL, Rec.val])]; exact Sub.of (List.Sublist.refl _)) ?_
    refine TO.sub (O' := [rowI bx5 c6 3 1 ((ints qs[cn[p]].xs) ++ [.int .i64 (p : Int)]), rowI (some ⟨bx3, 0, none⟩) cnt 22 1 (vals (qs.set cn[p] ⟨bx5, c6, qs[cn[p]].xs ++ [(p : Int)]⟩)), rowI (some ⟨zL, 0, none⟩) nx.length 4 1 (List.replicate nx.length (.bool false)), rowI (some ⟨zK, 0, none⟩) nx.length 4 1 (List.replicate nx.length (.bool false)), rowI (some ⟨bx2, 0, none⟩) cnt 4 1 (List.replicate cnt (.bool false)), rowI (some ⟨zA, 0, none⟩) cnt 4 1 (bools cy), rowI (some ⟨zB, 0, none⟩) cnt 52 1 (uns ha), rowI cb cc 3 1 (nats cn), oI bx1 79 [(.slice nb nx.length nc), (.slice mb ms.length mc), .int .u64 ((2 ^ m - 1 : Nat) : Int)]] ++ (itms 3 (qs.eraseIdx cn[p]))) (Sub.pickR [1, 1, 1, 1, 1, 1, 1, 1, 1] [rowI (some ⟨bx4, 0, none⟩) 1 3 1 [.int .i64 (p : Int)], rowI bx5 c6 3 1 ((ints qs[cn[p]].xs) ++ [.int .i64 (p : Int)]), rowI (some ⟨bx3, 0, none⟩) cnt 22 1 (vals (qs.set cn[p] ⟨bx5, c6, qs[cn[p]].xs ++ [(p : Int)]⟩)), rowI (some ⟨zL, 0, none⟩) nx.length 4 1 (List.replicate nx.length (.bool false)), rowI (some ⟨zK, 0, none⟩) nx.length 4 1 (List.replicate nx.length (.bool false)), rowI (some ⟨bx2, 0, none⟩) cnt 4 1 (List.replicate cnt (.bool false)), rowI (some ⟨zA, 0, none⟩) cnt 4 1 (bools cy), rowI (some ⟨zB, 0, none⟩) cnt 52 1 (uns ha), rowI cb cc 3 1 (nats cn), oI bx1 79 [(.slice nb nx.length nc), (.slice mb ms.length mc), .int .u64 ((2 ^ m - 1 : Nat) : Int)]] (itms 3 (qs.eraseIdx cn[p])) rfl rfl) ?_
    refine TO.sub (O' := [rowI (some ⟨bx3, 0, none⟩) cnt 22 1 (vals (qs.set cn[p] ⟨bx5, c6, qs[cn[p]].xs ++ [(p : Int)]⟩)), rowI (some ⟨zL, 0, none⟩) nx.length 4 1 (List.replicate nx.length (.bool false)), rowI (some ⟨zK, 0, none⟩) nx.length 4 1 (List.replicate nx.length (.bool false)), rowI (some ⟨bx2, 0, none⟩) cnt 4 1 (List.replicate cnt (.bool false)), rowI (some ⟨zA, 0, none⟩) cnt 4 1 (bools cy), rowI (some ⟨zB, 0, none⟩) cnt 52 1 (uns ha), rowI cb cc 3 1 (nats cn), oI bx1 79 [(.slice nb nx.length nc), (.slice mb ms.length mc), .int .u64 ((2 ^ m - 1 : Nat) : Int)]] ++ (itms 3 (qs.set cn[p] ⟨bx5, c6, qs[cn[p]].xs ++ [(p : Int)]⟩))) (sub_in hqk [rowI (some ⟨bx3, 0, none⟩) cnt 22 1 (vals (qs.set cn[p] ⟨bx5, c6, qs[cn[p]].xs ++ [(p : Int)]⟩)), rowI (some ⟨zL, 0, none⟩) nx.length 4 1 (List.replicate nx.length (.bool false)), rowI (some ⟨zK, 0, none⟩) nx.length 4 1 (List.replicate nx.length (.bool false)), rowI (some ⟨bx2, 0, none⟩) cnt 4 1 (List.replicate cnt (.bool false)), rowI (some ⟨zA, 0, none⟩) cnt 4 1 (bools cy), rowI (some ⟨zB, 0, none⟩) cnt 52 1 (uns ha), rowI cb cc 3 1 (nats cn), oI bx1 79 [(.slice nb nx.length nc), (.slice mb ms.length mc), .int .u64 ((2 ^ m - 1 : Nat) : Int)]] ⟨bx5, c6, qs[cn[p]].xs ++ [(p : Int)]⟩ (by simp)) ?_
    refine TO.nil (T.region ?_)
    refine TO.quiet (q_addN (a := p) (b := 1) rfl rfl (by omega)) (TO.quiet (q_move rfl) ?_)
    refine TO.nil ?_
    exact ⟨p + 1, by omega, qs.set cn[p] ⟨bx5, c6, qs[cn[p]].xs ++ [(p : Int)]⟩, rfl, by omega, hor.push (by omega) hck _ _, ⟨rfl, rfl, rfl, rfl, rfl, rfl, rfl, rfl, rfl, rfl, rfl, rfl, rfl, trivial⟩⟩
  have hge104 : ¬ p < nx.length := by omega
  refine T.exit ?_
  refine T.seq (T.seq (T.region ?_))
  refine TO.quiet (q_move rfl) (TO.quiet (q_len Try.underlying24 rfl) (TO.quiet (q_move rfl) ?_))
  refine TO.nil (T.block ?_)
  have hql := hor.ql
  have hor9 : OrP nx cn cnt nx.length (nums qs) := (show p = nx.length by omega) ▸ hor
  have hcy9 : CyP nx cn cnt nx.length 0 cy := (show k = nx.length by omega) ▸ hcy
  have hha9 : HaP nx ms cn m cnt nx.length ha := (show k = nx.length by omega) ▸ hha
  refine T.loop (fun (c : Nat) ρ O => ∃ (gs ls co : List Bool), O = ([rowI (some ⟨bx3, 0, none⟩) cnt 22 1 (vals qs), rowI (some ⟨zL, 0, none⟩) nx.length 4 1 (bools ls), rowI (some ⟨zK, 0, none⟩) nx.length 4 1 (bools co), rowI (some ⟨bx2, 0, none⟩) cnt 4 1 (bools gs), rowI (some ⟨zA, 0, none⟩) cnt 4 1 (bools cy), rowI (some ⟨zB, 0, none⟩) cnt 52 1 (uns ha), rowI cb cc 3 1 (nats cn), oI bx1 79 [(.slice nb nx.length nc), (.slice mb ms.length mc), .int .u64 ((2 ^ m - 1 : Nat) : Int)]] ++ (itms 3 qs)) ∧ c ≤ cnt ∧ LvP nx ms m cn cnt c gs ls co ∧ Heads [(0, (.agg #[(.slice nb nx.length nc), (.slice mb ms.length mc), .int .u64 ((2 ^ m - 1 : Nat) : Int)])), (1, (.pointer (some ⟨bx1, 0, none⟩))), (2, (.slice (some ⟨zL, 0, none⟩) nx.length nx.length)), (3, (.slice (some ⟨zK, 0, none⟩) nx.length nx.length)), (4, (.slice cb nx.length cc)), (5, .int .i64 ((cnt : Nat) : Int)), (6, (.slice (some ⟨zA, 0, none⟩) cnt cnt)), (7, (.slice (some ⟨zB, 0, none⟩) cnt cnt)), (12, (.slice (some ⟨bx2, 0, none⟩) cnt cnt)), (13, (.slice (some ⟨bx3, 0, none⟩) cnt cnt)), (119, (.slice (some ⟨bx3, 0, none⟩) cnt cnt)), (120, .int .i64 (cnt : Int)), (121, .int .i64 (c : Int))] ρ) (fun c => cnt - c) 0 ?_ ?_
  · exact ⟨List.replicate cnt false, List.replicate nx.length false, List.replicate nx.length false, (by first | (simp only [List.map_replicate]; done) | (simp only [List.map_replicate]; rfl)), Nat.zero_le _, LvP.start (by simp) (by simp) (by simp), ⟨rfl, rfl, rfl, rfl, rfl, rfl, rfl, rfl, rfl, rfl, rfl, rfl, rfl, trivial⟩⟩
  rintro c ρ O ⟨gs, ls, co, rfl, hc9, hlv, hH⟩
  obtain ⟨ρ0, rfl⟩ := hH.elim
  clear hH
  have hgl := hlv.lg; have hll := hlv.ll; have hcl2 := hlv.lc
  refine T.seq (T.region ?_)
  refine TO.quiet (q_lss rfl rfl) ?_
  refine TO.nil (T.seq ?_)
  refine T.condP rfl (fun hc => ?_) (fun hc => ?_)
  · have hlt122 : c < cnt := by omega
    have hqc : c < qs.length := by omega
    have hrq := hor9.rl hqc
    refine T.skip (T.seq (T.block (T.seq (T.region ?_))))
    refine TO.quiet (q_move rfl) (TO.quiet (q_ix (i := c) Try.underlying24 inf22 rfl rfl (rowO (List.mem_of_getElem? (i := 0) rfl))) (TO.quiet (q_ld Try.underlying22 rfl rfl (rowO (List.mem_of_getElem? (i := 0) rfl)) (vals_at hqc)) (TO.quiet (q_assign rfl) ?_)))
    refine TO.quiet (q_assign rfl) ?_
    refine TO.nil (T.seq ?_)
    refine T.draws _ [(0, 0), (1, 0), (2, 0), (3, 0), (4, 0), (5, 0), (6, 0), (7, 0), (8, 0), (9, 0), (10, 0), (11, 0), (12, 0), (13, 0), (14, 0), (15, 0), (16, 2)] mixed (by kernel_rfl) (Sub.of (List.Sublist.refl _)) (fun _ _ _ h => h) ?_
    refine DO.quiet rfl (q_move rfl) (DO.quiet rfl (q_move rfl) (DO.quiet rfl (q_move rfl) (DO.quiet rfl (q_move rfl) ?_)))
    refine DO.quiet rfl (q_ix (i := c) Try.underlying39 inf4 rfl rfl (rowO (List.mem_of_getElem? (i := 4) rfl))) (DO.quiet rfl (q_ld Try.underlying4 rfl rfl (rowO (List.mem_of_getElem? (i := 4) rfl)) bools_get) ?_)
    by_cases hs132 : cy[c] = true
    · refine DO.quiet rfl (QT.toB (q_move rfl) (hs132)) ?_
      refine DO.guarded rfl rfl rfl (q_move rfl) ?_
      refine DO.guarded rfl rfl rfl (q_move rfl) ?_
      refine DO.guarded rfl rfl rfl (q_ix (i := c) Try.underlying77 inf52 rfl rfl (rowO (List.mem_of_getElem? (i := 5) rfl))) ?_
      refine DO.guarded rfl rfl rfl (q_ld Try.underlying52 rfl rfl (rowO (List.mem_of_getElem? (i := 5) rfl)) uns_get) ?_
      refine DO.guarded rfl rfl rfl (q_fieldAddr Try.underlying79 rfl inf52 rfl rfl) ?_
      refine DO.guarded rfl rfl rfl (q_load_box 7 Try.underlying52 rfl rfl rfl rfl) ?_
      refine DO.guarded rfl rfl rfl (q_eql rfl rfl) ?_
      refine DO.quiet rfl (q_pick1 rfl rfl) (DO.quiet rfl (q_ix (i := c) Try.underlying39 inf4 rfl rfl (rowO (List.mem_of_getElem? (i := 3) rfl))) ?_)
      refine DO.last rfl rfl (l_st (j := c) (v := .bool (decide (((ha[c] : Nat) : Int) = ((2 ^ m - 1 : Nat) : Int)))) (vs := [(.bool (decide (((ha[c] : Nat) : Int) = ((2 ^ m - 1 : Nat) : Int))))]) (cs := bools gs) 3 inf4 rfl rfl rfl rfl rfl (by simp) rfl (by first | (simp; omega) | (simp_all; omega)) ?_)
      refine DO.sub (O' := ([rowI (some ⟨bx3, 0, none⟩) cnt 22 1 (vals qs), rowI (some ⟨zL, 0, none⟩) nx.length 4 1 (bools ls), rowI (some ⟨zK, 0, none⟩) nx.length 4 1 (bools co), rowI (some ⟨bx2, 0, none⟩) cnt 4 1 (bools (gs.set c ((decide (((ha[c] : Nat) : Int) = ((2 ^ m - 1 : Nat) : Int)))))), rowI (some ⟨zA, 0, none⟩) cnt 4 1 (bools cy), rowI (some ⟨zB, 0, none⟩) cnt 52 1 (uns ha), rowI cb cc 3 1 (nats cn), oI bx1 79 [(.slice nb nx.length nc), (.slice mb ms.length mc), .int .u64 ((2 ^ m - 1 : Nat) : Int)]] ++ (itms 3 qs))) (by rw [show putL (bools gs) c [(.bool (decide (((ha[c] : Nat) : Int) = ((2 ^ m - 1 : Nat) : Int))))] = bools (gs.set c ((decide (((ha[c] : Nat) : Int) = ((2 ^ m - 1 : Nat) : Int))))) from (by simp [putL])]; exact Sub.of (List.Sublist.refl _)) ?_
      refine DO.done ?_
      refine T.seq (T.seq (T.region ?_))
      refine TO.quiet (q_move rfl) (TO.quiet (q_len Try.underlying22 rfl) (TO.quiet (q_move rfl) ?_))
      refine TO.nil (T.block ?_)
      have hbeg : LvC nx ms m cn cnt c qs[c].xs 0 (gs.set c ((decide (((ha[c] : Nat) : Int) = ((2 ^ m - 1 : Nat) : Int))))) ls co := hlv.begin hlt122 (fun v hv e => by
        rw [show Cor nx ms m v = Core (adjE nx) m (mkM nx ms) v from rfl, ← core_iff hC hval hcy9 hha9 hv e, gb (by omega), gd (by omega)]
        simp only [hs132, true_and, decide_eq_true_eq, Int.natCast_inj])
      refine T.loop (fun (j : Nat) ρ O => ∃ (co5 : List Bool), O = ([rowI (some ⟨bx3, 0, none⟩) cnt 22 1 (vals qs), rowI (some ⟨zL, 0, none⟩) nx.length 4 1 (bools ls), rowI (some ⟨zK, 0, none⟩) nx.length 4 1 (bools co5), rowI (some ⟨bx2, 0, none⟩) cnt 4 1 (bools (gs.set c ((decide (((ha[c] : Nat) : Int) = ((2 ^ m - 1 : Nat) : Int)))))), rowI (some ⟨zA, 0, none⟩) cnt 4 1 (bools cy), rowI (some ⟨zB, 0, none⟩) cnt 52 1 (uns ha), rowI cb cc 3 1 (nats cn), oI bx1 79 [(.slice nb nx.length nc), (.slice mb ms.length mc), .int .u64 ((2 ^ m - 1 : Nat) : Int)]] ++ (itms 3 qs)) ∧ j ≤ qs[c].xs.length ∧ LvC nx ms m cn cnt c qs[c].xs j (gs.set c ((decide (((ha[c] : Nat) : Int) = ((2 ^ m - 1 : Nat) : Int))))) ls co5 ∧ Heads [(0, (.agg #[(.slice nb nx.length nc), (.slice mb ms.length mc), .int .u64 ((2 ^ m - 1 : Nat) : Int)])), (1, (.pointer (some ⟨bx1, 0, none⟩))), (2, (.slice (some ⟨zL, 0, none⟩) nx.length nx.length)), (3, (.slice (some ⟨zK, 0, none⟩) nx.length nx.length)), (4, (.slice cb nx.length cc)), (5, .int .i64 ((cnt : Nat) : Int)), (6, (.slice (some ⟨zA, 0, none⟩) cnt cnt)), (7, (.slice (some ⟨zB, 0, none⟩) cnt cnt)), (12, (.slice (some ⟨bx2, 0, none⟩) cnt cnt)), (13, (.slice (some ⟨bx3, 0, none⟩) cnt cnt)), (16, .int .i64 (c : Int)), (17, (.slice qs[c].b qs[c].xs.length qs[c].c)), (119, (.slice (some ⟨bx3, 0, none⟩) cnt cnt)), (120, .int .i64 (cnt : Int)), (121, .int .i64 (c : Int)), (142, (.slice qs[c].b qs[c].xs.length qs[c].c)), (143, .int .i64 (qs[c].xs.length : Int)), (144, .int .i64 (j : Int))] ρ) (fun j => qs[c].xs.length - j) 0 ?_ ?_
      · exact ⟨co, rfl, Nat.zero_le _, hbeg, ⟨rfl, rfl, rfl, rfl, rfl, rfl, rfl, rfl, rfl, rfl, rfl, rfl, rfl, rfl, rfl, rfl, rfl, rfl, trivial⟩⟩
      rintro j ρ O ⟨co5, rfl, hj, hlv5, hH⟩
      obtain ⟨ρ0, rfl⟩ := hH.elim
      clear hH
      have hcl2 := hlv5.lc
      refine T.seq (T.region ?_)
      refine TO.quiet (q_lss rfl rfl) ?_
      refine TO.nil (T.seq ?_)
      refine T.condP rfl (fun hc => ?_) (fun hc => ?_)
      · have hlt145 : j < qs[c].xs.length := by omega
        obtain ⟨x, hx, hxl, hxc⟩ := hor9.at hqc hlt145
        refine T.skip (T.seq (T.block (T.seq (T.region ?_))))
        refine TO.quiet (q_ix (i := j) Try.underlying22 inf3 rfl rfl (rowO (itms_at hqc))) (TO.quiet (q_ld Try.underlying3 rfl rfl (rowO (itms_at hqc)) (show (ints qs[c].xs)[j]? = _ by rw [ints_get hlt145, hx])) (TO.quiet (q_assign rfl) ?_))
        refine TO.nil (T.region ?_)
        refine TO.quiet (q_move rfl) (TO.quiet (q_move rfl) (TO.quiet (q_move rfl) (TO.quiet (q_move rfl) ?_)))
        refine TO.quiet (q_ix (i := c) Try.underlying39 inf4 rfl rfl (rowO (List.mem_of_getElem? (i := 3) rfl))) (TO.quiet (q_ld Try.underlying4 rfl rfl (rowO (List.mem_of_getElem? (i := 3) rfl)) (show (bools (gs.set c ((decide (((ha[c] : Nat) : Int) = ((2 ^ m - 1 : Nat) : Int))))))[c]? = some (.bool ((decide (((ha[c] : Nat) : Int) = ((2 ^ m - 1 : Nat) : Int))))) by rw [List.getElem?_map, List.getElem?_set_self (by omega)]; rfl)) (TO.quiet (q_ix (i := x) Try.underlying39 inf4 rfl rfl (rowO (List.mem_of_getElem? (i := 2) rfl))) ?_))
        refine TO.loud rfl (l_st (j := x) (v := .bool ((decide (((ha[c] : Nat) : Int) = ((2 ^ m - 1 : Nat) : Int))))) (vs := [(.bool ((decide (((ha[c] : Nat) : Int) = ((2 ^ m - 1 : Nat) : Int)))))]) (cs := bools co5) 2 inf4 rfl rfl rfl rfl rfl (by simp) rfl (by first | (simp; omega) | (simp_all; omega)) ?_)
        refine TO.sub (O' := ([rowI (some ⟨bx3, 0, none⟩) cnt 22 1 (vals qs), rowI (some ⟨zL, 0, none⟩) nx.length 4 1 (bools ls), rowI (some ⟨zK, 0, none⟩) nx.length 4 1 (bools (co5.set x ((decide (((ha[c] : Nat) : Int) = ((2 ^ m - 1 : Nat) : Int)))))), rowI (some ⟨bx2, 0, none⟩) cnt 4 1 (bools (gs.set c ((decide (((ha[c] : Nat) : Int) = ((2 ^ m - 1 : Nat) : Int)))))), rowI (some ⟨zA, 0, none⟩) cnt 4 1 (bools cy), rowI (some ⟨zB, 0, none⟩) cnt 52 1 (uns ha), rowI cb cc 3 1 (nats cn), oI bx1 79 [(.slice nb nx.length nc), (.slice mb ms.length mc), .int .u64 ((2 ^ m - 1 : Nat) : Int)]] ++ (itms 3 qs))) (by rw [show putL (bools co5) x [(.bool ((decide (((ha[c] : Nat) : Int) = ((2 ^ m - 1 : Nat) : Int)))))] = bools (co5.set x ((decide (((ha[c] : Nat) : Int) = ((2 ^ m - 1 : Nat) : Int))))) from (by simp [putL])]; exact Sub.of (List.Sublist.refl _)) ?_
        refine TO.nil (T.region ?_)
        refine TO.quiet (q_addN (a := j) (b := 1) rfl rfl (by omega)) (TO.quiet (q_move rfl) ?_)
        refine TO.nil ?_
        exact ⟨j + 1, by omega, co5.set x ((decide (((ha[c] : Nat) : Int) = ((2 ^ m - 1 : Nat) : Int)))), rfl, by omega, hlv5.coreStep hlt145 hx hxl hxc (by rw [getB_set (by omega), if_pos rfl]), ⟨rfl, rfl, rfl, rfl, rfl, rfl, rfl, rfl, rfl, rfl, rfl, rfl, rfl, rfl, rfl, rfl, rfl, rfl, trivial⟩⟩
      have hge145 : ¬ j < qs[c].xs.length := by omega
      refine T.exit ?_
      refine T.seq (T.seq (T.region ?_))
      refine TO.quiet (q_move rfl) (TO.quiet (q_len Try.underlying22 rfl) (TO.quiet (q_move rfl) ?_))
      refine TO.nil (T.block ?_)
      refine T.loop (fun (j : Nat) ρ O => ∃ (gs6 : List Bool), O = ([rowI (some ⟨bx3, 0, none⟩) cnt 22 1 (vals qs), rowI (some ⟨zL, 0, none⟩) nx.length 4 1 (bools ls), rowI (some ⟨zK, 0, none⟩) nx.length 4 1 (bools co5), rowI (some ⟨bx2, 0, none⟩) cnt 4 1 (bools gs6), rowI (some ⟨zA, 0, none⟩) cnt 4 1 (bools cy), rowI (some ⟨zB, 0, none⟩) cnt 52 1 (uns ha), rowI cb cc 3 1 (nats cn), oI bx1 79 [(.slice nb nx.length nc), (.slice mb ms.length mc), .int .u64 ((2 ^ m - 1 : Nat) : Int)]] ++ (itms 3 qs)) ∧ j ≤ qs[c].xs.length ∧ LvD nx ms m cn cnt c qs[c].xs j 0 gs6 ls co5 ∧ Heads [(0, (.agg #[(.slice nb nx.length nc), (.slice mb ms.length mc), .int .u64 ((2 ^ m - 1 : Nat) : Int)])), (1, (.pointer (some ⟨bx1, 0, none⟩))), (2, (.slice (some ⟨zL, 0, none⟩) nx.length nx.length)), (3, (.slice (some ⟨zK, 0, none⟩) nx.length nx.length)), (4, (.slice cb nx.length cc)), (5, .int .i64 ((cnt : Nat) : Int)), (6, (.slice (some ⟨zA, 0, none⟩) cnt cnt)), (7, (.slice (some ⟨zB, 0, none⟩) cnt cnt)), (12, (.slice (some ⟨bx2, 0, none⟩) cnt cnt)), (13, (.slice (some ⟨bx3, 0, none⟩) cnt cnt)), (16, .int .i64 (c : Int)), (17, (.slice qs[c].b qs[c].xs.length qs[c].c)), (119, (.slice (some ⟨bx3, 0, none⟩) cnt cnt)), (120, .int .i64 (cnt : Int)), (121, .int .i64 (c : Int)), (156, (.slice qs[c].b qs[c].xs.length qs[c].c)), (157, .int .i64 (qs[c].xs.length : Int)), (158, .int .i64 (j : Int))] ρ) (fun j => qs[c].xs.length - j) 0 ?_ ?_
      · exact ⟨_, rfl, Nat.zero_le _, hlv5.toD (by omega) (hor9.all hqc), ⟨rfl, rfl, rfl, rfl, rfl, rfl, rfl, rfl, rfl, rfl, rfl, rfl, rfl, rfl, rfl, rfl, rfl, rfl, trivial⟩⟩
      rintro j ρ O ⟨gs6, rfl, hj6, hlv6, hH⟩
      obtain ⟨ρ0, rfl⟩ := hH.elim
      clear hH
      refine T.seq (T.region ?_)
      refine TO.quiet (q_lss rfl rfl) ?_
      refine TO.nil (T.seq ?_)
      refine T.condP rfl (fun hc => ?_) (fun hc => ?_)
      · have hlt159 : j < qs[c].xs.length := by omega
        obtain ⟨x, hx, hxl, hxc⟩ := hor9.at hqc hlt159
        obtain ⟨rb2, rc2, g2, s2⟩ := hR.get hxl
        have hrx := hrl _ (List.getElem_mem hxl)
        refine T.skip (T.seq (T.block (T.seq (T.region ?_))))
        refine TO.quiet (q_ix (i := j) Try.underlying22 inf3 rfl rfl (rowO (itms_at hqc))) (TO.quiet (q_ld Try.underlying3 rfl rfl (rowO (itms_at hqc)) (show (ints qs[c].xs)[j]? = _ by rw [ints_get hlt159, hx])) (TO.quiet (q_assign rfl) ?_))
        refine TO.nil (T.seq (T.region ?_))
        refine TO.quiet (q_fieldAddr Try.underlying79 rfl inf24 rfl rfl) (TO.quiet (q_load_box 7 Try.underlying24 rfl rfl rfl rfl) (TO.quiet (q_move rfl) (TO.quiet (q_ix (i := x) Try.underlying24 inf22 rfl rfl (Sl.o hS) (by first | assumption | omega | (simp; omega) | simp_all) (by rw [hR.1]; exact hxl)) ?_)))
        refine TO.quiet (q_ld Try.underlying22 rfl rfl (Sl.o hS) g2) (TO.quiet (q_len Try.underlying22 rfl) (TO.quiet (q_move rfl) ?_))
        refine TO.nil (T.block ?_)
        refine T.loop (fun (i : Nat) ρ O => ∃ (gs7 : List Bool), O = ([rowI (some ⟨bx3, 0, none⟩) cnt 22 1 (vals qs), rowI (some ⟨zL, 0, none⟩) nx.length 4 1 (bools ls), rowI (some ⟨zK, 0, none⟩) nx.length 4 1 (bools co5), rowI (some ⟨bx2, 0, none⟩) cnt 4 1 (bools gs7), rowI (some ⟨zA, 0, none⟩) cnt 4 1 (bools cy), rowI (some ⟨zB, 0, none⟩) cnt 52 1 (uns ha), rowI cb cc 3 1 (nats cn), oI bx1 79 [(.slice nb nx.length nc), (.slice mb ms.length mc), .int .u64 ((2 ^ m - 1 : Nat) : Int)]] ++ (itms 3 qs)) ∧ i ≤ nx[x].length ∧ LvD nx ms m cn cnt c qs[c].xs j i gs7 ls co5 ∧ Heads [(0, (.agg #[(.slice nb nx.length nc), (.slice mb ms.length mc), .int .u64 ((2 ^ m - 1 : Nat) : Int)])), (1, (.pointer (some ⟨bx1, 0, none⟩))), (2, (.slice (some ⟨zL, 0, none⟩) nx.length nx.length)), (3, (.slice (some ⟨zK, 0, none⟩) nx.length nx.length)), (4, (.slice cb nx.length cc)), (5, .int .i64 ((cnt : Nat) : Int)), (6, (.slice (some ⟨zA, 0, none⟩) cnt cnt)), (7, (.slice (some ⟨zB, 0, none⟩) cnt cnt)), (12, (.slice (some ⟨bx2, 0, none⟩) cnt cnt)), (13, (.slice (some ⟨bx3, 0, none⟩) cnt cnt)), (16, .int .i64 (c : Int)), (17, (.slice qs[c].b qs[c].xs.length qs[c].c)), (21, .int .i64 ((x : Nat) : Int)), (119, (.slice (some ⟨bx3, 0, none⟩) cnt cnt)), (120, .int .i64 (cnt : Int)), (121, .int .i64 (c : Int)), (156, (.slice qs[c].b qs[c].xs.length qs[c].c)), (157, .int .i64 (qs[c].xs.length : Int)), (158, .int .i64 (j : Int)), (166, (.slice rb2 nx[x].length rc2)), (167, .int .i64 (nx[x].length : Int)), (168, .int .i64 (i : Int))] ρ) (fun i => nx[x].length - i) 0 ?_ ?_
        · exact ⟨gs6, rfl, Nat.zero_le _, hlv6, ⟨rfl, rfl, rfl, rfl, rfl, rfl, rfl, rfl, rfl, rfl, rfl, rfl, rfl, rfl, rfl, rfl, rfl, rfl, rfl, rfl, rfl, rfl, trivial⟩⟩
        rintro i ρ O ⟨gs7, rfl, hi, hlv7, hH⟩
        obtain ⟨ρ0, rfl⟩ := hH.elim
        clear hH
        have hgl7 := hlv7.lg
        refine T.seq (T.region ?_)
        refine TO.quiet (q_lss rfl rfl) ?_
        refine TO.nil (T.seq ?_)
        refine T.condP rfl (fun hc => ?_) (fun hc => ?_)
        · have hlt169 : i < nx[x].length := by omega
          obtain ⟨u, hu, hul⟩ : ∃ u : Nat, nx[x][i] = (u : Int) ∧ u < nx.length := by
            have := hval _ (List.getElem_mem hxl) _ (List.getElem_mem hlt169)
            exact ⟨nx[x][i].toNat, by omega, by omega⟩
          have hfu : fn cn u = cn[u] := fn_get (by omega)
          have hcu : cn[u] < cnt := by have := (hC.pos u hul).2; have h2 : ((fn cn u : Nat) : Int) < cnt := this; omega
          refine T.skip (T.seq (T.block (T.seq (T.region ?_))))
          refine TO.quiet (q_ix (i := i) Try.underlying22 inf3 rfl rfl (Sl.o s2)) (TO.quiet (q_ld Try.underlying3 rfl rfl (Sl.o s2) (show (ints nx[x])[i]? = _ by rw [ints_get hlt169, hu])) (TO.quiet (q_assign rfl) ?_))
          refine TO.nil (T.region ?_)
          refine TO.quiet (q_move rfl) (TO.quiet (q_move rfl) (TO.quiet (q_move rfl) (TO.quiet (q_move rfl) ?_)))
          refine TO.quiet (q_ix (i := c) Try.underlying39 inf4 rfl rfl (rowO (List.mem_of_getElem? (i := 3) rfl))) (TO.quiet (q_ld Try.underlying4 rfl rfl (rowO (List.mem_of_getElem? (i := 3) rfl)) bools_get) ?_)
          by_cases hs178 : gs7[c] = true
          · refine TO.quiet (QT.toB (q_move rfl) (hs178)) ?_
            refine TO.passed rfl rfl ?_
            refine TO.passed rfl rfl ?_
            refine TO.passed rfl rfl ?_
            refine TO.passed rfl rfl ?_
            refine TO.passed rfl rfl ?_
            refine TO.passed rfl rfl ?_
            refine TO.passed rfl rfl ?_
            refine TO.quiet (q_pick1 rfl rfl) (TO.quiet (q_ix (i := c) Try.underlying39 inf4 rfl rfl (rowO (List.mem_of_getElem? (i := 3) rfl))) ?_)
            refine TO.loud rfl (l_st (j := c) (v := .bool true) (vs := [(.bool true)]) (cs := bools gs7) 3 inf4 rfl rfl rfl rfl rfl (by simp) rfl (by first | (simp; omega) | (simp_all; omega)) ?_)
            refine TO.sub (O' := ([rowI (some ⟨bx3, 0, none⟩) cnt 22 1 (vals qs), rowI (some ⟨zL, 0, none⟩) nx.length 4 1 (bools ls), rowI (some ⟨zK, 0, none⟩) nx.length 4 1 (bools co5), rowI (some ⟨bx2, 0, none⟩) cnt 4 1 (bools (gs7.set c true)), rowI (some ⟨zA, 0, none⟩) cnt 4 1 (bools cy), rowI (some ⟨zB, 0, none⟩) cnt 52 1 (uns ha), rowI cb cc 3 1 (nats cn), oI bx1 79 [(.slice nb nx.length nc), (.slice mb ms.length mc), .int .u64 ((2 ^ m - 1 : Nat) : Int)]] ++ (itms 3 qs))) (by rw [show putL (bools gs7) c [(.bool true)] = bools (gs7.set c true) from (by simp [putL])]; exact Sub.of (List.Sublist.refl _)) ?_
            refine TO.nil (T.region ?_)
            refine TO.quiet (q_addN (a := i) (b := 1) rfl rfl (by omega)) (TO.quiet (q_move rfl) ?_)
            refine TO.nil ?_
            exact ⟨i + 1, by omega, gs7.set c true, rfl, by omega, hlv7.step hC hval hlt122 hlt159 hx hxl hxc hlt169 hu (by rw [gb (by omega), gb (by rw [hfu]; omega)]; simp only [hfu]; simp [hs178]), ⟨rfl, rfl, rfl, rfl, rfl, rfl, rfl, rfl, rfl, rfl, rfl, rfl, rfl, rfl, rfl, rfl, rfl, rfl, rfl, rfl, rfl, rfl, trivial⟩⟩
          refine TO.quiet (QT.toB (q_move rfl) (Bool.eq_false_iff.2 hs178)) ?_
          refine TO.guarded rfl rfl rfl (LT.of_quiet rfl rfl (q_move rfl) ?_)
          refine TO.guarded rfl rfl rfl (LT.of_quiet rfl rfl (q_move rfl) ?_)
          refine TO.guarded rfl rfl rfl (LT.of_quiet rfl rfl (q_move rfl) ?_)
          refine TO.guarded rfl rfl rfl (LT.of_quiet rfl rfl (q_ix (i := u) Try.underlying22 inf3 rfl rfl (rowO (List.mem_of_getElem? (i := 6) rfl))) ?_)
          refine TO.guarded rfl rfl rfl (LT.of_quiet rfl rfl (q_ld Try.underlying3 rfl rfl (rowO (List.mem_of_getElem? (i := 6) rfl)) nats_get) ?_)
          refine TO.guarded rfl rfl rfl (LT.of_quiet rfl rfl (q_ix (i := cn[u]) Try.underlying39 inf4 rfl rfl (rowO (List.mem_of_getElem? (i := 3) rfl))) ?_)
          refine TO.guarded rfl rfl rfl (LT.of_quiet rfl rfl (q_ld Try.underlying4 rfl rfl (rowO (List.mem_of_getElem? (i := 3) rfl)) bools_get) ?_)
          refine TO.quiet (q_pick0 rfl rfl) (TO.quiet (q_ix (i := c) Try.underlying39 inf4 rfl rfl (rowO (List.mem_of_getElem? (i := 3) rfl))) ?_)
          refine TO.loud rfl (l_st (j := c) (v := .bool gs7[cn[u]]) (vs := [(.bool gs7[cn[u]])]) (cs := bools gs7) 3 inf4 rfl rfl rfl rfl rfl (by simp) rfl (by first | (simp; omega) | (simp_all; omega)) ?_)
          refine TO.sub (O' := ([rowI (some ⟨bx3, 0, none⟩) cnt 22 1 (vals qs), rowI (some ⟨zL, 0, none⟩) nx.length 4 1 (bools ls), rowI (some ⟨zK, 0, none⟩) nx.length 4 1 (bools co5), rowI (some ⟨bx2, 0, none⟩) cnt 4 1 (bools (gs7.set c gs7[cn[u]])), rowI (some ⟨zA, 0, none⟩) cnt 4 1 (bools cy), rowI (some ⟨zB, 0, none⟩) cnt 52 1 (uns ha), rowI cb cc 3 1 (nats cn), oI bx1 79 [(.slice nb nx.length nc), (.slice mb ms.length mc), .int .u64 ((2 ^ m - 1 : Nat) : Int)]] ++ (itms 3 qs))) (by rw [show putL (bools gs7) c [(.bool gs7[cn[u]])] = bools (gs7.set c gs7[cn[u]]) from (by simp [putL])]; exact Sub.of (List.Sublist.refl _)) ?_
          refine TO.nil (T.region ?_)
          refine TO.quiet (q_addN (a := i) (b := 1) rfl rfl (by omega)) (TO.quiet (q_move rfl) ?_)
          refine TO.nil ?_
          exact ⟨i + 1, by omega, gs7.set c gs7[cn[u]], rfl, by omega, hlv7.step hC hval hlt122 hlt159 hx hxl hxc hlt169 hu (by rw [gb (by omega), gb (by rw [hfu]; omega)]; simp only [hfu]; simp [hs178]), ⟨rfl, rfl, rfl, rfl, rfl, rfl, rfl, rfl, rfl, rfl, rfl, rfl, rfl, rfl, rfl, rfl, rfl, rfl, rfl, rfl, rfl, rfl, trivial⟩⟩
        have hge169 : ¬ i < nx[x].length := by omega
        refine T.exit ?_
        refine T.region ?_
        refine TO.quiet (q_addN (a := j) (b := 1) rfl rfl (by omega)) (TO.quiet (q_move rfl) ?_)
        refine TO.nil ?_
        exact ⟨j + 1, by omega, gs7, rfl, by omega, hlv7.next hlt159 hx hxl (by omega), ⟨rfl, rfl, rfl, rfl, rfl, rfl, rfl, rfl, rfl, rfl, rfl, rfl, rfl, rfl, rfl, rfl, rfl, rfl, trivial⟩⟩
      have hge159 : ¬ j < qs[c].xs.length := by omega
      refine T.exit ?_
      refine T.seq (T.region ?_)
      refine TO.quiet (q_move rfl) (TO.quiet (q_len Try.underlying22 rfl) (TO.quiet (q_move rfl) ?_))
      refine TO.nil (T.block ?_)
      refine T.loop (fun (j : Nat) ρ O => ∃ (ls8 : List Bool), O = ([rowI (some ⟨bx3, 0, none⟩) cnt 22 1 (vals qs), rowI (some ⟨zL, 0, none⟩) nx.length 4 1 (bools ls8), rowI (some ⟨zK, 0, none⟩) nx.length 4 1 (bools co5), rowI (some ⟨bx2, 0, none⟩) cnt 4 1 (bools gs6), rowI (some ⟨zA, 0, none⟩) cnt 4 1 (bools cy), rowI (some ⟨zB, 0, none⟩) cnt 52 1 (uns ha), rowI cb cc 3 1 (nats cn), oI bx1 79 [(.slice nb nx.length nc), (.slice mb ms.length mc), .int .u64 ((2 ^ m - 1 : Nat) : Int)]] ++ (itms 3 qs)) ∧ j ≤ qs[c].xs.length ∧ LvE nx ms m cn cnt c qs[c].xs j gs6 ls8 co5 ∧ Heads [(0, (.agg #[(.slice nb nx.length nc), (.slice mb ms.length mc), .int .u64 ((2 ^ m - 1 : Nat) : Int)])), (1, (.pointer (some ⟨bx1, 0, none⟩))), (2, (.slice (some ⟨zL, 0, none⟩) nx.length nx.length)), (3, (.slice (some ⟨zK, 0, none⟩) nx.length nx.length)), (4, (.slice cb nx.length cc)), (5, .int .i64 ((cnt : Nat) : Int)), (6, (.slice (some ⟨zA, 0, none⟩) cnt cnt)), (7, (.slice (some ⟨zB, 0, none⟩) cnt cnt)), (12, (.slice (some ⟨bx2, 0, none⟩) cnt cnt)), (13, (.slice (some ⟨bx3, 0, none⟩) cnt cnt)), (16, .int .i64 (c : Int)), (17, (.slice qs[c].b qs[c].xs.length qs[c].c)), (119, (.slice (some ⟨bx3, 0, none⟩) cnt cnt)), (120, .int .i64 (cnt : Int)), (121, .int .i64 (c : Int)), (190, (.slice qs[c].b qs[c].xs.length qs[c].c)), (191, .int .i64 (qs[c].xs.length : Int)), (192, .int .i64 (j : Int))] ρ) (fun j => qs[c].xs.length - j) 0 ?_ ?_
      · exact ⟨ls, rfl, Nat.zero_le _, hlv6.toE hC hval (by omega) (hor9.all hqc), ⟨rfl, rfl, rfl, rfl, rfl, rfl, rfl, rfl, rfl, rfl, rfl, rfl, rfl, rfl, rfl, rfl, rfl, rfl, trivial⟩⟩
      rintro j ρ O ⟨ls8, rfl, hj8, hlv8, hH⟩
      obtain ⟨ρ0, rfl⟩ := hH.elim
      clear hH
      have hll8 := hlv8.ll; have hgl8 := hlv8.lg
      refine T.seq (T.region ?_)
      refine TO.quiet (q_lss rfl rfl) ?_
      refine TO.nil (T.seq ?_)
      refine T.condP rfl (fun hc => ?_) (fun hc => ?_)
      · have hlt193 : j < qs[c].xs.length := by omega
        obtain ⟨x, hx, hxl, hxc⟩ := hor9.at hqc hlt193
        refine T.skip (T.seq (T.block (T.seq (T.region ?_))))
        refine TO.quiet (q_ix (i := j) Try.underlying22 inf3 rfl rfl (rowO (itms_at hqc))) (TO.quiet (q_ld Try.underlying3 rfl rfl (rowO (itms_at hqc)) (show (ints qs[c].xs)[j]? = _ by rw [ints_get hlt193, hx])) (TO.quiet (q_assign rfl) ?_))
        refine TO.nil (T.region ?_)
        refine TO.quiet (q_move rfl) (TO.quiet (q_move rfl) (TO.quiet (q_move rfl) (TO.quiet (q_move rfl) ?_)))
        refine TO.quiet (q_ix (i := c) Try.underlying39 inf4 rfl rfl (rowO (List.mem_of_getElem? (i := 3) rfl))) (TO.quiet (q_ld Try.underlying4 rfl rfl (rowO (List.mem_of_getElem? (i := 3) rfl)) bools_get) (TO.quiet (q_ix (i := x) Try.underlying39 inf4 rfl rfl (rowO (List.mem_of_getElem? (i := 1) rfl))) ?_))
        refine TO.loud rfl (l_st (j := x) (v := .bool gs6[c]) (vs := [(.bool gs6[c])]) (cs := bools ls8) 1 inf4 rfl rfl rfl rfl rfl (by simp) rfl (by first | (simp; omega) | (simp_all; omega)) ?_)
        refine TO.sub (O' := ([rowI (some ⟨bx3, 0, none⟩) cnt 22 1 (vals qs), rowI (some ⟨zL, 0, none⟩) nx.length 4 1 (bools (ls8.set x gs6[c])), rowI (some ⟨zK, 0, none⟩) nx.length 4 1 (bools co5), rowI (some ⟨bx2, 0, none⟩) cnt 4 1 (bools gs6), rowI (some ⟨zA, 0, none⟩) cnt 4 1 (bools cy), rowI (some ⟨zB, 0, none⟩) cnt 52 1 (uns ha), rowI cb cc 3 1 (nats cn), oI bx1 79 [(.slice nb nx.length nc), (.slice mb ms.length mc), .int .u64 ((2 ^ m - 1 : Nat) : Int)]] ++ (itms 3 qs))) (by rw [show putL (bools ls8) x [(.bool gs6[c])] = bools (ls8.set x gs6[c]) from (by simp [putL])]; exact Sub.of (List.Sublist.refl _)) ?_
        refine TO.nil (T.region ?_)
        refine TO.quiet (q_addN (a := j) (b := 1) rfl rfl (by omega)) (TO.quiet (q_move rfl) ?_)
        refine TO.nil ?_
        exact ⟨j + 1, by omega, ls8.set x gs6[c], rfl, by omega, hlv8.step hlt193 hx hxl hxc (by rw [gb (by omega)]), ⟨rfl, rfl, rfl, rfl, rfl, rfl, rfl, rfl, rfl, rfl, rfl, rfl, rfl, rfl, rfl, rfl, rfl, rfl, trivial⟩⟩
      have hge193 : ¬ j < qs[c].xs.length := by omega
      refine T.exit ?_
      refine T.region ?_
      refine TO.quiet (q_addN (a := c) (b := 1) rfl rfl (by omega)) (TO.quiet (q_move rfl) ?_)
      refine TO.nil ?_
      exact ⟨c + 1, by omega, gs6, ls8, co5, rfl, by omega, hlv8.done (by omega) (hor9.all hqc), ⟨rfl, rfl, rfl, rfl, rfl, rfl, rfl, rfl, rfl, rfl, rfl, rfl, rfl, trivial⟩⟩
    refine DO.quiet rfl (QT.toB (q_move rfl) (Bool.eq_false_iff.2 hs132)) ?_
    refine DO.passed rfl rfl rfl ?_
    refine DO.passed rfl rfl rfl ?_
    refine DO.passed rfl rfl rfl ?_
    refine DO.passed rfl rfl rfl ?_
    refine DO.passed rfl rfl rfl ?_
    refine DO.passed rfl rfl rfl ?_
    refine DO.passed rfl rfl rfl ?_
    refine DO.quiet rfl (q_pick0 rfl rfl) (DO.quiet rfl (q_ix (i := c) Try.underlying39 inf4 rfl rfl (rowO (List.mem_of_getElem? (i := 3) rfl))) ?_)
    refine DO.last rfl rfl (l_st (j := c) (v := .bool false) (vs := [(.bool false)]) (cs := bools gs) 3 inf4 rfl rfl rfl rfl rfl (by simp) rfl (by first | (simp; omega) | (simp_all; omega)) ?_)
    refine DO.sub (O' := ([rowI (some ⟨bx3, 0, none⟩) cnt 22 1 (vals qs), rowI (some ⟨zL, 0, none⟩) nx.length 4 1 (bools ls), rowI (some ⟨zK, 0, none⟩) nx.length 4 1 (bools co), rowI (some ⟨bx2, 0, none⟩) cnt 4 1 (bools (gs.set c (false))), rowI (some ⟨zA, 0, none⟩) cnt 4 1 (bools cy), rowI (some ⟨zB, 0, none⟩) cnt 52 1 (uns ha), rowI cb cc 3 1 (nats cn), oI bx1 79 [(.slice nb nx.length nc), (.slice mb ms.length mc), .int .u64 ((2 ^ m - 1 : Nat) : Int)]] ++ (itms 3 qs))) (by rw [show putL (bools gs) c [(.bool false)] = bools (gs.set c (false)) from (by simp [putL])]; exact Sub.of (List.Sublist.refl _)) ?_
    refine DO.done ?_
    refine T.seq (T.seq (T.region ?_))
    refine TO.quiet (q_move rfl) (TO.quiet (q_len Try.underlying22 rfl) (TO.quiet (q_move rfl) ?_))
    refine TO.nil (T.block ?_)
    have hbeg : LvC nx ms m cn cnt c qs[c].xs 0 (gs.set c (false)) ls co := hlv.begin hlt122 (fun v hv e => by
      rw [show Cor nx ms m v = Core (adjE nx) m (mkM nx ms) v from rfl, ← core_iff hC hval hcy9 hha9 hv e, gb (by omega), gd (by omega)]
      simp [hs132])
    refine T.loop (fun (j : Nat) ρ O => ∃ (co5 : List Bool), O = ([rowI (some ⟨bx3, 0, none⟩) cnt 22 1 (vals qs), rowI (some ⟨zL, 0, none⟩) nx.length 4 1 (bools ls), rowI (some ⟨zK, 0, none⟩) nx.length 4 1 (bools co5), rowI (some ⟨bx2, 0, none⟩) cnt 4 1 (bools (gs.set c (false))), rowI (some ⟨zA, 0, none⟩) cnt 4 1 (bools cy), rowI (some ⟨zB, 0, none⟩) cnt 52 1 (uns ha), rowI cb cc 3 1 (nats cn), oI bx1 79 [(.slice nb nx.length nc), (.slice mb ms.length mc), .int .u64 ((2 ^ m - 1 : Nat) : Int)]] ++ (itms 3 qs)) ∧ j ≤ qs[c].xs.length ∧ LvC nx ms m cn cnt c qs[c].xs j (gs.set c (false)) ls co5 ∧ Heads [(0, (.agg #[(.slice nb nx.length nc), (.slice mb ms.length mc), .int .u64 ((2 ^ m - 1 : Nat) : Int)])), (1, (.pointer (some ⟨bx1, 0, none⟩))), (2, (.slice (some ⟨zL, 0, none⟩) nx.length nx.length)), (3, (.slice (some ⟨zK, 0, none⟩) nx.length nx.length)), (4, (.slice cb nx.length cc)), (5, .int .i64 ((cnt : Nat) : Int)), (6, (.slice (some ⟨zA, 0, none⟩) cnt cnt)), (7, (.slice (some ⟨zB, 0, none⟩) cnt cnt)), (12, (.slice (some ⟨bx2, 0, none⟩) cnt cnt)), (13, (.slice (some ⟨bx3, 0, none⟩) cnt cnt)), (16, .int .i64 (c : Int)), (17, (.slice qs[c].b qs[c].xs.length qs[c].c)), (119, (.slice (some ⟨bx3, 0, none⟩) cnt cnt)), (120, .int .i64 (cnt : Int)), (121, .int .i64 (c : Int)), (142, (.slice qs[c].b qs[c].xs.length qs[c].c)), (143, .int .i64 (qs[c].xs.length : Int)), (144, .int .i64 (j : Int))] ρ) (fun j => qs[c].xs.length - j) 0 ?_ ?_
    · exact ⟨co, rfl, Nat.zero_le _, hbeg, ⟨rfl, rfl, rfl, rfl, rfl, rfl, rfl, rfl, rfl, rfl, rfl, rfl, rfl, rfl, rfl, rfl, rfl, rfl, trivial⟩⟩
    rintro j ρ O ⟨co5, rfl, hj, hlv5, hH⟩
    obtain ⟨ρ0, rfl⟩ := hH.elim
    clear hH
    have hcl2 := hlv5.lc
    refine T.seq (T.region ?_)
    refine TO.quiet (q_lss rfl rfl) ?_
    refine TO.nil (T.seq ?_)
    refine T.condP rfl (fun hc => ?_) (fun hc => ?_)
    · have hlt145 : j < qs[c].xs.length := by omega
      obtain ⟨x, hx, hxl, hxc⟩ := hor9.at hqc hlt145
      refine T.skip (T.seq (T.block (T.seq (T.region ?_))))
      refine TO.quiet (q_ix (i := j) Try.underlying22 inf3 rfl rfl (rowO (itms_at hqc))) (TO.quiet (q_ld Try.underlying3 rfl rfl (rowO (itms_at hqc)) (show (ints qs[c].xs)[j]? = _ by rw [ints_get hlt145, hx])) (TO.quiet (q_assign rfl) ?_))
      refine TO.nil (T.region ?_)
      refine TO.quiet (q_move rfl) (TO.quiet (q_move rfl) (TO.quiet (q_move rfl) (TO.quiet (q_move rfl) ?_)))
      refine TO.quiet (q_ix (i := c) Try.underlying39 inf4 rfl rfl (rowO (List.mem_of_getElem? (i := 3) rfl))) (TO.quiet (q_ld Try.underlying4 rfl rfl (rowO (List.mem_of_getElem? (i := 3) rfl)) (show (bools (gs.set c (false)))[c]? = some (.bool (false)) by rw [List.getElem?_map, List.getElem?_set_self (by omega)]; rfl)) (TO.quiet (q_ix (i := x) Try.underlying39 inf4 rfl rfl (rowO (List.mem_of_getElem? (i := 2) rfl))) ?_))
      refine TO.loud rfl (l_st (j := x) (v := .bool (false)) (vs := [(.bool (false))]) (cs := bools co5) 2 inf4 rfl rfl rfl rfl rfl (by simp) rfl (by first | (simp; omega) | (simp_all; omega)) ?_)
      refine TO.sub (O' := ([rowI (some ⟨bx3, 0, none⟩) cnt 22 1 (vals qs), rowI (some ⟨zL, 0, none⟩) nx.length 4 1 (bools ls), rowI (some ⟨zK, 0, none⟩) nx.length 4 1 (bools (co5.set x (false))), rowI (some ⟨bx2, 0, none⟩) cnt 4 1 (bools (gs.set c (false))), rowI (some ⟨zA, 0, none⟩) cnt 4 1 (bools cy), rowI (some ⟨zB, 0, none⟩) cnt 52 1 (uns ha), rowI cb cc 3 1 (nats cn), oI bx1 79 [(.slice nb nx.length nc), (.slice mb ms.length mc), .int .u64 ((2 ^ m - 1 : Nat) : Int)]] ++ (itms 3 qs))) (by rw [show putL (bools co5) x [(.bool (false))] = bools (co5.set x (false)) from (by simp [putL])]; exact Sub.of (List.Sublist.refl _)) ?_
      refine TO.nil (T.region ?_)
      refine TO.quiet (q_addN (a := j) (b := 1) rfl rfl (by omega)) (TO.quiet (q_move rfl) ?_)
      refine TO.nil ?_
      exact ⟨j + 1, by omega, co5.set x (false), rfl, by omega, hlv5.coreStep hlt145 hx hxl hxc (by rw [getB_set (by omega), if_pos rfl]), ⟨rfl, rfl, rfl, rfl, rfl, rfl, rfl, rfl, rfl, rfl, rfl, rfl, rfl, rfl, rfl, rfl, rfl, rfl, trivial⟩⟩
    have hge145 : ¬ j < qs[c].xs.length := by omega
    refine T.exit ?_
    refine T.seq (T.seq (T.region ?_))
    refine TO.quiet (q_move rfl) (TO.quiet (q_len Try.underlying22 rfl) (TO.quiet (q_move rfl) ?_))
    refine TO.nil (T.block ?_)
    refine T.loop (fun (j : Nat) ρ O => ∃ (gs6 : List Bool), O = ([rowI (some ⟨bx3, 0, none⟩) cnt 22 1 (vals qs), rowI (some ⟨zL, 0, none⟩) nx.length 4 1 (bools ls), rowI (some ⟨zK, 0, none⟩) nx.length 4 1 (bools co5), rowI (some ⟨bx2, 0, none⟩) cnt 4 1 (bools gs6), rowI (some ⟨zA, 0, none⟩) cnt 4 1 (bools cy), rowI (some ⟨zB, 0, none⟩) cnt 52 1 (uns ha), rowI cb cc 3 1 (nats cn), oI bx1 79 [(.slice nb nx.length nc), (.slice mb ms.length mc), .int .u64 ((2 ^ m - 1 : Nat) : Int)]] ++ (itms 3 qs)) ∧ j ≤ qs[c].xs.length ∧ LvD nx ms m cn cnt c qs[c].xs j 0 gs6 ls co5 ∧ Heads [(0, (.agg #[(.slice nb nx.length nc), (.slice mb ms.length mc), .int .u64 ((2 ^ m - 1 : Nat) : Int)])), (1, (.pointer (some ⟨bx1, 0, none⟩))), (2, (.slice (some ⟨zL, 0, none⟩) nx.length nx.length)), (3, (.slice (some ⟨zK, 0, none⟩) nx.length nx.length)), (4, (.slice cb nx.length cc)), (5, .int .i64 ((cnt : Nat) : Int)), (6, (.slice (some ⟨zA, 0, none⟩) cnt cnt)), (7, (.slice (some ⟨zB, 0, none⟩) cnt cnt)), (12, (.slice (some ⟨bx2, 0, none⟩) cnt cnt)), (13, (.slice (some ⟨bx3, 0, none⟩) cnt cnt)), (16, .int .i64 (c : Int)), (17, (.slice qs[c].b qs[c].xs.length qs[c].c)), (119, (.slice (some ⟨bx3, 0, none⟩) cnt cnt)), (120, .int .i64 (cnt : Int)), (121, .int .i64 (c : Int)), (156, (.slice qs[c].b qs[c].xs.length qs[c].c)), (157, .int .i64 (qs[c].xs.length : Int)), (158, .int .i64 (j : Int))] ρ) (fun j => qs[c].xs.length - j) 0 ?_ ?_
    · exact ⟨_, rfl, Nat.zero_le _, hlv5.toD (by omega) (hor9.all hqc), ⟨rfl, rfl, rfl, rfl, rfl, rfl, rfl, rfl, rfl, rfl, rfl, rfl, rfl, rfl, rfl, rfl, rfl, rfl, trivial⟩⟩
    rintro j ρ O ⟨gs6, rfl, hj6, hlv6, hH⟩
    obtain ⟨ρ0, rfl⟩ := hH.elim
    clear hH
    refine T.seq (T.region ?_)
    refine TO.quiet (q_lss rfl rfl) ?_
    refine TO.nil (T.seq ?_)
    refine T.condP rfl (fun hc => ?_) (fun hc => ?_)
    · have hlt159 : j < qs[c].xs.length := by omega
      obtain ⟨x, hx, hxl, hxc⟩ := hor9.at hqc hlt159
      obtain ⟨rb2, rc2, g2, s2⟩ := hR.get hxl
      have hrx := hrl _ (List.getElem_mem hxl)
      refine T.skip (T.seq (T.block (T.seq (T.region ?_))))
      refine TO.quiet (q_ix (i := j) Try.underlying22 inf3 rfl rfl (rowO (itms_at hqc))) (TO.quiet (q_ld Try.underlying3 rfl rfl (rowO (itms_at hqc)) (show (ints qs[c].xs)[j]? = _ by rw [ints_get hlt159, hx])) (TO.quiet (q_assign rfl) ?_))
      refine TO.nil (T.seq (T.region ?_))
      refine TO.quiet (q_fieldAddr Try.underlying79 rfl inf24 rfl rfl) (TO.quiet (q_load_box 7 Try.underlying24 rfl rfl rfl rfl) (TO.quiet (q_move rfl) (TO.quiet (q_ix (i := x) Try.underlying24 inf22 rfl rfl (Sl.o hS) (by first | assumption | omega | (simp; omega) | simp_all) (by rw [hR.1]; exact hxl)) ?_)))
      refine TO.quiet (q_ld Try.underlying22 rfl rfl (Sl.o hS) g2) (TO.quiet (q_len Try.underlying22 rfl) (TO.quiet (q_move rfl) ?_))
      refine TO.nil (T.block ?_)
      refine T.loop (fun (i : Nat) ρ O => ∃ (gs7 : List Bool), O = ([rowI (some ⟨bx3, 0, none⟩) cnt 22 1 (vals qs), rowI (some ⟨zL, 0, none⟩) nx.length 4 1 (bools ls), rowI (some ⟨zK, 0, none⟩) nx.length 4 1 (bools co5), rowI (some ⟨bx2, 0, none⟩) cnt 4 1 (bools gs7), rowI (some ⟨zA, 0, none⟩) cnt 4 1 (bools cy), rowI (some ⟨zB, 0, none⟩) cnt 52 1 (uns ha), rowI cb cc 3 1 (nats cn), oI bx1 79 [(.slice nb nx.length nc), (.slice mb ms.length mc), .int .u64 ((2 ^ m - 1 : Nat) : Int)]] ++ (itms 3 qs)) ∧ i ≤ nx[x].length ∧ LvD nx ms m cn cnt c qs[c].xs j i gs7 ls co5 ∧ Heads [(0, (.agg #[(.slice nb nx.length nc), (.slice mb ms.length mc), .int .u64 ((2 ^ m - 1 : Nat) : Int)])), (1, (.pointer (some ⟨bx1, 0, none⟩))), (2, (.slice (some ⟨zL, 0, none⟩) nx.length nx.length)), (3, (.slice (some ⟨zK, 0, none⟩) nx.length nx.length)), (4, (.slice cb nx.length cc)), (5, .int .i64 ((cnt : Nat) : Int)), (6, (.slice (some ⟨zA, 0, none⟩) cnt cnt)), (7, (.slice (some ⟨zB, 0, none⟩) cnt cnt)), (12, (.slice (some ⟨bx2, 0, none⟩) cnt cnt)), (13, (.slice (some ⟨bx3, 0, none⟩) cnt cnt)), (16, .int .i64 (c : Int)), (17, (.slice qs[c].b qs[c].xs.length qs[c].c)), (21, .int .i64 ((x : Nat) : Int)), (119, (.slice (some ⟨bx3, 0, none⟩) cnt cnt)), (120, .int .i64 (cnt : Int)), (121, .int .i64 (c : Int)), (156, (.slice qs[c].b qs[c].xs.length qs[c].c)), (157, .int .i64 (qs[c].xs.length : Int)), (158, .int .i64 (j : Int)), (166, (.slice rb2 nx[x].length rc2)), (167, .int .i64 (nx[x].length : Int)), (168, .int .i64 (i : Int))] ρ) (fun i => nx[x].length - i) 0 ?_ ?_
      · exact ⟨gs6, rfl, Nat.zero_le _, hlv6, ⟨rfl, rfl, rfl, rfl, rfl, rfl, rfl, rfl, rfl, rfl, rfl, rfl, rfl, rfl, rfl, rfl, rfl, rfl, rfl, rfl, rfl, rfl, trivial⟩⟩
      rintro i ρ O ⟨gs7, rfl, hi, hlv7, hH⟩
      obtain ⟨ρ0, rfl⟩ := hH.elim
      clear hH
      have hgl7 := hlv7.lg
      refine T.seq (T.region ?_)
      refine TO.quiet (q_lss rfl rfl) ?_
      refine TO.nil (T.seq ?_)
      refine T.condP rfl (fun hc => ?_) (fun hc => ?_)
      · have hlt169 : i < nx[x].length := by omega
        obtain ⟨u, hu, hul⟩ : ∃ u : Nat, nx[x][i] = (u : Int) ∧ u < nx.length := by
          have := hval _ (List.getElem_mem hxl) _ (List.getElem_mem hlt169)
          exact ⟨nx[x][i].toNat, by omega, by omega⟩
        have hfu : fn cn u = cn[u] := fn_get (by omega)
        have hcu : cn[u] < cnt := by have := (hC.pos u hul).2; have h2 : ((fn cn u : Nat) : Int) < cnt := this; omega
        refine T.skip (T.seq (T.block (T.seq (T.region ?_))))
        refine TO.quiet (q_ix (i := i) Try.underlying22 inf3 rfl rfl (Sl.o s2)) (TO.quiet (q_ld Try.underlying3 rfl rfl (Sl.o s2) (show (ints nx[x])[i]? = _ by rw [ints_get hlt169, hu])) (TO.quiet (q_assign rfl) ?_))
        refine TO.nil (T.region ?_)
        refine TO.quiet (q_move rfl) (TO.quiet (q_move rfl) (TO.quiet (q_move rfl) (TO.quiet (q_move rfl) ?_)))
        refine TO.quiet (q_ix (i := c) Try.underlying39 inf4 rfl rfl (rowO (List.mem_of_getElem? (i := 3) rfl))) (TO.quiet (q_ld Try.underlying4 rfl rfl (rowO (List.mem_of_getElem? (i := 3) rfl)) bools_get) ?_)
        by_cases hs178 : gs7[c] = true
        · refine TO.quiet (QT.toB (q_move rfl) (hs178)) ?_
          refine TO.passed rfl rfl ?_
          refine TO.passed rfl rfl ?_
          refine TO.passed rfl rfl ?_
          refine TO.passed rfl rfl ?_
          refine TO.passed rfl rfl ?_
          refine TO.passed rfl rfl ?_
          refine TO.passed rfl rfl ?_
          refine TO.quiet (q_pick1 rfl rfl) (TO.quiet (q_ix (i := c) Try.underlying39 inf4 rfl rfl (rowO (List.mem_of_getElem? (i := 3) rfl))) ?_)
          refine TO.loud rfl (l_st (j := c) (v := .bool true) (vs := [(.bool true)]) (cs := bools gs7) 3 inf4 rfl rfl rfl rfl rfl (by simp) rfl (by first | (simp; omega) | (simp_all; omega)) ?_)
          refine TO.sub (O' := ([rowI (some ⟨bx3, 0, none⟩) cnt 22 1 (vals qs), rowI (some ⟨zL, 0, none⟩) nx.length 4 1 (bools ls), rowI (some ⟨zK, 0, none⟩) nx.length 4 1 (bools co5), rowI (some ⟨bx2, 0, none⟩) cnt 4 1 (bools (gs7.set c true)), rowI (some ⟨zA, 0, none⟩) cnt 4 1 (bools cy), rowI (some ⟨zB, 0, none⟩) cnt 52 1 (uns ha), rowI cb cc 3 1 (nats cn), oI bx1 79 [(.slice nb nx.length nc), (.slice mb ms.length mc), .int .u64 ((2 ^ m - 1 : Nat) : Int)]] ++ (itms 3 qs))) (by rw [show putL (bools gs7) c [(.bool true)] = bools (gs7.set c true) from (by simp [putL])]; exact Sub.of (List.Sublist.refl _)) ?_
          refine TO.nil (T.region ?_)
          refine TO.quiet (q_addN (a := i) (b := 1) rfl rfl (by omega)) (TO.quiet (q_move rfl) ?_)
          refine TO.nil ?_
          exact ⟨i + 1, by omega, gs7.set c true, rfl, by omega, hlv7.step hC hval hlt122 hlt159 hx hxl hxc hlt169 hu (by rw [gb (by omega), gb (by rw [hfu]; omega)]; simp only [hfu]; simp [hs178]), ⟨rfl, rfl, rfl, rfl, rfl, rfl, rfl, rfl, rfl, rfl, rfl, rfl, rfl, rfl, rfl, rfl, rfl, rfl, rfl, rfl, rfl, rfl, trivial⟩⟩
        refine TO.quiet (QT.toB (q_move rfl) (Bool.eq_false_iff.2 hs178)) ?_
        refine TO.guarded rfl rfl rfl (LT.of_quiet rfl rfl (q_move rfl) ?_)
        refine TO.guarded rfl rfl rfl (LT.of_quiet rfl rfl (q_move rfl) ?_)
        refine TO.guarded rfl rfl rfl (LT.of_quiet rfl rfl (q_move rfl) ?_)
        refine TO.guarded rfl rfl rfl (LT.of_quiet rfl rfl (q_ix (i := u) Try.underlying22 inf3 rfl rfl (rowO (List.mem_of_getElem? (i := 6) rfl))) ?_)
        refine TO.guarded rfl rfl rfl (LT.of_quiet rfl rfl (q_ld Try.underlying3 rfl rfl (rowO (List.mem_of_getElem? (i := 6) rfl)) nats_get) ?_)
        refine TO.guarded rfl rfl rfl (LT.of_quiet rfl rfl (q_ix (i := cn[u]) Try.underlying39 inf4 rfl rfl (rowO (List.mem_of_getElem? (i := 3) rfl))) ?_)
        refine TO.guarded rfl rfl rfl (LT.of_quiet rfl rfl (q_ld Try.underlying4 rfl rfl (rowO (List.mem_of_getElem? (i := 3) rfl)) bools_get) ?_)
        refine TO.quiet (q_pick0 rfl rfl) (TO.quiet (q_ix (i := c) Try.underlying39 inf4 rfl rfl (rowO (List.mem_of_getElem? (i := 3) rfl))) ?_)
        refine TO.loud rfl (l_st (j := c) (v := .bool gs7[cn[u]]) (vs := [(.bool gs7[cn[u]])]) (cs := bools gs7) 3 inf4 rfl rfl rfl rfl rfl (by simp) rfl (by first | (simp; omega) | (simp_all; omega)) ?_)
        refine TO.sub (O' := ([rowI (some ⟨bx3, 0, none⟩) cnt 22 1 (vals qs), rowI (some ⟨zL, 0, none⟩) nx.length 4 1 (bools ls), rowI (some ⟨zK, 0, none⟩) nx.length 4 1 (bools co5), rowI (some ⟨bx2, 0, none⟩) cnt 4 1 (bools (gs7.set c gs7[cn[u]])), rowI (some ⟨zA, 0, none⟩) cnt 4 1 (bools cy), rowI (some ⟨zB, 0, none⟩) cnt 52 1 (uns ha), rowI cb cc 3 1 (nats cn), oI bx1 79 [(.slice nb nx.length nc), (.slice mb ms.length mc), .int .u64 ((2 ^ m - 1 : Nat) : Int)]] ++ (itms 3 qs))) (by rw [show putL (bools gs7) c [(.bool gs7[cn[u]])] = bools (gs7.set c gs7[cn[u]]) from (by simp [putL])]; exact Sub.of (List.Sublist.refl _)) ?_
        refine TO.nil (T.region ?_)
        refine TO.quiet (q_addN (a := i) (b := 1) rfl rfl (by omega)) (TO.quiet (q_move rfl) ?_)
        refine TO.nil ?_
        exact ⟨i + 1, by omega, gs7.set c gs7[cn[u]], rfl, by omega, hlv7.step hC hval hlt122 hlt159 hx hxl hxc hlt169 hu (by rw [gb (by omega), gb (by rw [hfu]; omega)]; simp only [hfu]; simp [hs178]), ⟨rfl, rfl, rfl, rfl, rfl, rfl, rfl, rfl, rfl, rfl, rfl, rfl, rfl, rfl, rfl, rfl, rfl, rfl, rfl, rfl, rfl, rfl, trivial⟩⟩
      have hge169 : ¬ i < nx[x].length := by omega
      refine T.exit ?_
      refine T.region ?_
      refine TO.quiet (q_addN (a := j) (b := 1) rfl rfl (by omega)) (TO.quiet (q_move rfl) ?_)
      refine TO.nil ?_
      exact ⟨j + 1, by omega, gs7, rfl, by omega, hlv7.next hlt159 hx hxl (by omega), ⟨rfl, rfl, rfl, rfl, rfl, rfl, rfl, rfl, rfl, rfl, rfl, rfl, rfl, rfl, rfl, rfl, rfl, rfl, trivial⟩⟩
    have hge159 : ¬ j < qs[c].xs.length := by omega
    refine T.exit ?_
    refine T.seq (T.region ?_)
    refine TO.quiet (q_move rfl) (TO.quiet (q_len Try.underlying22 rfl) (TO.quiet (q_move rfl) ?_))
    refine TO.nil (T.block ?_)
    refine T.loop (fun (j : Nat) ρ O => ∃ (ls8 : List Bool), O = ([rowI (some ⟨bx3, 0, none⟩) cnt 22 1 (vals qs), rowI (some ⟨zL, 0, none⟩) nx.length 4 1 (bools ls8), rowI (some ⟨zK, 0, none⟩) nx.length 4 1 (bools co5), rowI (some ⟨bx2, 0, none⟩) cnt 4 1 (bools gs6), rowI (some ⟨zA, 0, none⟩) cnt 4 1 (bools cy), rowI (some ⟨zB, 0, none⟩) cnt 52 1 (uns ha), rowI cb cc 3 1 (nats cn), oI bx1 79 [(.slice nb nx.length nc), (.slice mb ms.length mc), .int .u64 ((2 ^ m - 1 : Nat) : Int)]] ++ (itms 3 qs)) ∧ j ≤ qs[c].xs.length ∧ LvE nx ms m cn cnt c qs[c].xs j gs6 ls8 co5 ∧ Heads [(0, (.agg #[(.slice nb nx.length nc), (.slice mb ms.length mc), .int .u64 ((2 ^ m - 1 : Nat) : Int)])), (1, (.pointer (some ⟨bx1, 0, none⟩))), (2, (.slice (some ⟨zL, 0, none⟩) nx.length nx.length)), (3, (.slice (some ⟨zK, 0, none⟩) nx.length nx.length)), (4, (.slice cb nx.length cc)), (5, .int .i64 ((cnt : Nat) : Int)), (6, (.slice (some ⟨zA, 0, none⟩) cnt cnt)), (7, (.slice (some ⟨zB, 0, none⟩) cnt cnt)), (12, (.slice (some ⟨bx2, 0, none⟩) cnt cnt)), (13, (.slice (some ⟨bx3, 0, none⟩) cnt cnt)), (16, .int .i64 (c : Int)), (17, (.slice qs[c].b qs[c].xs.length qs[c].c)), (119, (.slice (some ⟨bx3, 0, none⟩) cnt cnt)), (120, .int .i64 (cnt : Int)), (121, .int .i64 (c : Int)), (190, (.slice qs[c].b qs[c].xs.length qs[c].c)), (191, .int .i64 (qs[c].xs.length : Int)), (192, .int .i64 (j : Int))] ρ) (fun j => qs[c].xs.length - j) 0 ?_ ?_
    · exact ⟨ls, rfl, Nat.zero_le _, hlv6.toE hC hval (by omega) (hor9.all hqc), ⟨rfl, rfl, rfl, rfl, rfl, rfl, rfl, rfl, rfl, rfl, rfl, rfl, rfl, rfl, rfl, rfl, rfl, rfl, trivial⟩⟩
    rintro j ρ O ⟨ls8, rfl, hj8, hlv8, hH⟩
    obtain ⟨ρ0, rfl⟩ := hH.elim
    clear hH
    have hll8 := hlv8.ll; have hgl8 := hlv8.lg
    refine T.seq (T.region ?_)
    refine TO.quiet (q_lss rfl rfl) ?_
    refine TO.nil (T.seq ?_)
    refine T.condP rfl (fun hc => ?_) (fun hc => ?_)
    · have hlt193 : j < qs[c].xs.length := by omega
      obtain ⟨x, hx, hxl, hxc⟩ := hor9.at hqc hlt193
      refine T.skip (T.seq (T.block (T.seq (T.region ?_))))
      refine TO.quiet (q_ix (i := j) Try.underlying22 inf3 rfl rfl (rowO (itms_at hqc))) (TO.quiet (q_ld Try.underlying3 rfl rfl (rowO (itms_at hqc)) (show (ints qs[c].xs)[j]? = _ by rw [ints_get hlt193, hx])) (TO.quiet (q_assign rfl) ?_))
      refine TO.nil (T.region ?_)
      refine TO.quiet (q_move rfl) (TO.quiet (q_move rfl) (TO.quiet (q_move rfl) (TO.quiet (q_move rfl) ?_)))
      refine TO.quiet (q_ix (i := c) Try.underlying39 inf4 rfl rfl (rowO (List.mem_of_getElem? (i := 3) rfl))) (TO.quiet (q_ld Try.underlying4 rfl rfl (rowO (List.mem_of_getElem? (i := 3) rfl)) bools_get) (TO.quiet (q_ix (i := x) Try.underlying39 inf4 rfl rfl (rowO (List.mem_of_getElem? (i := 1) rfl))) ?_))
      refine TO.loud rfl (l_st (j := x) (v := .bool gs6[c]) (vs := [(.bool gs6[c])]) (cs := bools ls8) 1 inf4 rfl rfl rfl rfl rfl (by simp) rfl (by first | (simp; omega) | (simp_all; omega)) ?_)
      refine TO.sub (O' := ([rowI (some ⟨bx3, 0, none⟩) cnt 22 1 (vals qs), rowI (some ⟨zL, 0, none⟩) nx.length 4 1 (bools (ls8.set x gs6[c])), rowI (some ⟨zK, 0, none⟩) nx.length 4 1 (bools co5), rowI (some ⟨bx2, 0, none⟩) cnt 4 1 (bools gs6), rowI (some ⟨zA, 0, none⟩) cnt 4 1 (bools cy), rowI (some ⟨zB, 0, none⟩) cnt 52 1 (uns ha), rowI cb cc 3 1 (nats cn), oI bx1 79 [(.slice nb nx.length nc), (.slice mb ms.length mc), .int .u64 ((2 ^ m - 1 : Nat) : Int)]] ++ (itms 3 qs))) (by rw [show putL (bools ls8) x [(.bool gs6[c])] = bools (ls8.set x gs6[c]) from (by simp [putL])]; exact Sub.of (List.Sublist.refl _)) ?_
      refine TO.nil (T.region ?_)
      refine TO.quiet (q_addN (a := j) (b := 1) rfl rfl (by omega)) (TO.quiet (q_move rfl) ?_)
      refine TO.nil ?_
      exact ⟨j + 1, by omega, ls8.set x gs6[c], rfl, by omega, hlv8.step hlt193 hx hxl hxc (by rw [gb (by omega)]), ⟨rfl, rfl, rfl, rfl, rfl, rfl, rfl, rfl, rfl, rfl, rfl, rfl, rfl, rfl, rfl, rfl, rfl, rfl, trivial⟩⟩
    have hge193 : ¬ j < qs[c].xs.length := by omega
    refine T.exit ?_
    refine T.region ?_
    refine TO.quiet (q_addN (a := c) (b := 1) rfl rfl (by omega)) (TO.quiet (q_move rfl) ?_)
    refine TO.nil ?_
    exact ⟨c + 1, by omega, gs6, ls8, co5, rfl, by omega, hlv8.done (by omega) (hor9.all hqc), ⟨rfl, rfl, rfl, rfl, rfl, rfl, rfl, rfl, rfl, rfl, rfl, rfl, rfl, trivial⟩⟩
  have hge122 : ¬ c < cnt := by omega
  refine T.exit ?_
  refine T.seq (T.region ?_)
  refine TO.quiet (q_move rfl) (TO.quiet (q_move rfl) (TO.quiet (q_assign rfl) (TO.quiet (q_assign rfl) ?_)))
  refine TO.nil (T.ret (Res.drop ?_))
  refine Res.two (.slice (some ⟨zL, 0, none⟩) nx.length nx.length) (.slice (some ⟨zK, 0, none⟩) nx.length nx.length) Try.results55 rfl rfl ?_
  exact ⟨[rowI (some ⟨zL, 0, none⟩) nx.length 4 1 (bools ls), rowI (some ⟨zK, 0, none⟩) nx.length 4 1 (bools co)], (Sub.pick0 [1, 1] [rowI (some ⟨bx3, 0, none⟩) cnt 22 1 (vals qs), rowI (some ⟨zL, 0, none⟩) nx.length 4 1 (bools ls), rowI (some ⟨zK, 0, none⟩) nx.length 4 1 (bools co), rowI (some ⟨bx2, 0, none⟩) cnt 4 1 (bools gs), rowI (some ⟨zA, 0, none⟩) cnt 4 1 (bools cy), rowI (some ⟨zB, 0, none⟩) cnt 52 1 (uns ha), rowI cb cc 3 1 (nats cn), oI bx1 79 [(.slice nb nx.length nc), (.slice mb ms.length mc), .int .u64 ((2 ^ m - 1 : Nat) : Int)]] (itms 3 qs) rfl rfl), _, _, _, _, ls, co, rfl, rfl, hlv.ll, hlv.lc, fun v hv => ⟨hlv.li v hv (by have := (hC.pos v hv).2; have h2 : ((fn cn v : Nat) : Int) < cnt := this; omega), hlv.co v hv (by have := (hC.pos v hv).2; have h2 : ((fn cn v : Nat) : Int) < cnt := this; omega)⟩⟩
end Go.Proofs.Ytnamoapbienooaa


namespace Go.Lx
open Go.RowKit
set_option linter.unusedVariables false
abbrev KI : Int → Value := fun a => .int .i64 a
abbrev VU : Nat → Value := fun x => .int .u64 (x : Int)
theorem sbI (a : Int) : Instr.sameBits 10000 (KI a) (KI a) = true := by simp [Instr.sameBits]
def mkN : List (List Int) → Int → Nat
  | [], _ => 0
  | S :: r, s => (if s ∈ S then 1 else 0) + 2 * mkN r s
theorem mkN_test : ∀ (A : List (List Int)) (s : Int) (i : Nat), (mkN A s).testBit i = true ↔ ∃ S, A[i]? = some S ∧ s ∈ S
  | [], s, i => by simp [mkN]
  | S :: r, s, 0 => by
    rw [Nat.testBit_zero]
    simp only [mkN, decide_eq_true_eq, List.getElem?_cons_zero, Option.some.injEq, exists_eq_left']
    split <;> rename_i h
    · simp [h]
    · simp [h]
  | S :: r, s, i + 1 => by
    have ih := mkN_test r s i
    rw [Nat.testBit_succ]
    simp only [mkN, List.getElem?_cons_succ]
    rw [← ih]
    have : ((if s ∈ S then 1 else 0) + 2 * mkN r s) / 2 = mkN r s := by split <;> omega
    rw [this]
theorem mkN_lt : ∀ (A : List (List Int)) (s : Int), mkN A s < 2 ^ A.length
  | [], _ => by simp [mkN]
  | S :: r, s => by
    have := mkN_lt r s
    simp only [mkN, List.length_cons, Nat.pow_succ]
    split <;> omega
theorem nat_ext {a b : Nat} (h : ∀ i, a.testBit i = true ↔ b.testBit i = true) : a = b := by
  apply Nat.eq_of_testBit_eq
  intro i
  cases h1 : a.testBit i <;> cases h2 : b.testBit i
  · rfl
  · exact absurd ((h i).2 h2) (by rw [h1]; decide)
  · exact absurd ((h i).1 h1) (by rw [h2]; decide)
  · rfl
theorem get_snoc {α : Type} {A : List α} {B : α} {i : Nat} : (A ++ [B])[i]? = if i < A.length then A[i]? else if i = A.length then some B else none := by
  by_cases h : i < A.length
  · rw [if_pos h, List.getElem?_append_left h]
  · rw [if_neg h, List.getElem?_append_right (by omega)]
    by_cases e : i = A.length
    · subst e; simp
    · rw [if_neg e]
      have : i - A.length ≠ 0 := by omega
      rw [List.getElem?_singleton, if_neg (by omega)]
theorem mkN_or {A : List (List Int)} {B : List Int} {a : Int} : mkN (A ++ [B]) a ||| 1 * 2 ^ A.length = mkN (A ++ [B ++ [a]]) a := by
  apply nat_ext
  intro i
  rw [Nat.testBit_or, Bool.or_eq_true, mkN_test, mkN_test, Nat.one_mul, Nat.testBit_two_pow]
  simp only [get_snoc, decide_eq_true_eq]
  by_cases h : i < A.length
  · simp [h]; intro e; omega
  · by_cases e : i = A.length
    · subst e; simp
    · simp [h, e]; omega
theorem mkN_ne {A : List (List Int)} {B : List Int} {a s : Int} (h : s ≠ a) : mkN (A ++ [B ++ [a]]) s = mkN (A ++ [B]) s := by
  apply nat_ext
  intro i
  rw [mkN_test, mkN_test]
  simp only [get_snoc]
  by_cases h1 : i < A.length
  · simp [h1]
  · by_cases e : i = A.length
    · subst e; simp [h]
    · simp [h1, e]
theorem mkN_nil {A : List (List Int)} {s : Int} : mkN (A ++ [[]]) s = mkN A s := by
  apply nat_ext
  intro i
  rw [mkN_test, mkN_test]
  simp only [get_snoc]
  by_cases h1 : i < A.length
  · simp [h1]
  · by_cases e : i = A.length
    · subst e; simp
    · rw [if_neg h1, if_neg e, List.getElem?_eq_none (by omega)]
structure MapP (l : List (Int × Nat)) (F : Int → Nat) : Prop where
  nd : (l.map Prod.fst).Nodup
  h : ∀ s, (lookL s l).getD 0 = F s
theorem look_putA {α β : Type} [DecidableEq α] {a : α} {v : β} (s : α) : ∀ (l : List (α × β)), lookL s (putA a v l) = if s = a then some v else lookL s l
  | [] => by simp only [putA, lookL]
  | q :: l => by
    have ih := look_putA (a := a) (v := v) s l
    by_cases h : a = q.1
    · subst h
      simp only [putA, if_true, lookL]
      by_cases e : s = q.1 <;> simp [e]
    · simp only [putA, if_neg h, lookL, ih]
      by_cases e : s = q.1
      · subst e; simp [Ne.symm h]
      · simp [e]
theorem keys_putA {α β : Type} [DecidableEq α] {a : α} {v : β} : ∀ (l : List (α × β)), (putA a v l).map Prod.fst = if a ∈ l.map Prod.fst then l.map Prod.fst else l.map Prod.fst ++ [a]
  | [] => by simp [putA]
  | q :: l => by
    have ih := keys_putA (a := a) (v := v) l
    by_cases h : a = q.1
    · subst h; simp [putA]
    · have e : putA a v (q :: l) = q :: putA a v l := by simp only [putA]; rw [if_neg h]
      rw [e, List.map_cons, ih, List.map_cons]
      by_cases hm : a ∈ l.map Prod.fst
      · rw [if_pos hm, if_pos (List.mem_cons_of_mem _ hm)]
      · rw [if_neg hm, if_neg (fun q9 => (List.mem_cons.1 q9).elim h hm)]; rfl
theorem MapP.put {l : List (Int × Nat)} {F : Int → Nat} (h : MapP l F) (a : Int) (v : Nat) : MapP (putA a v l) (fun s => if s = a then v else F s) := by
  refine ⟨?_, fun s => ?_⟩
  · rw [keys_putA]; split
    · exact h.nd
    · rename_i hn
      rw [List.nodup_append]
      exact ⟨h.nd, by simp, fun x hx y hy e => by simp at hy; subst hy; subst e; exact hn hx⟩
  · rw [look_putA]
    by_cases e : s = a
    · simp [e]
    · simp [e, h.h]
theorem MapP.congr {l : List (Int × Nat)} {F G : Int → Nat} (h : MapP l F) (e : ∀ s, F s = G s) : MapP l G := ⟨h.nd, fun s => (h.h s).trans (e s)⟩
theorem MapP.nil : MapP [] (fun _ => 0) := ⟨by simp, fun s => rfl⟩
theorem look_mem {α β : Type} [DecidableEq α] : ∀ {l : List (α × β)} {q : α × β}, (l.map Prod.fst).Nodup → q ∈ l → lookL q.1 l = some q.2
  | p :: l, q, hn, hq => by
    simp only [List.map_cons, List.nodup_cons] at hn
    rcases List.mem_cons.1 hq with rfl | hq
    · simp [lookL]
    · have : q.1 ≠ p.1 := fun e => hn.1 (by rw [← e]; exact List.mem_map.2 ⟨q, hq, rfl⟩)
      simp only [lookL, if_neg this]
      exact look_mem hn.2 hq
theorem look_none {α β : Type} [DecidableEq α] {a : α} : ∀ {l : List (α × β)}, a ∉ l.map Prod.fst → lookL a l = none
  | [], _ => rfl
  | p :: l, h => by
    simp only [List.map_cons, List.mem_cons, not_or] at h
    simp only [lookL, if_neg h.1]
    exact look_none h.2
theorem MapP.val {l : List (Int × Nat)} {F : Int → Nat} (h : MapP l F) {q : Int × Nat} (hq : q ∈ l) : q.2 = F q.1 := by
  rw [← h.h, look_mem h.nd hq]; rfl
theorem MapP.out {l : List (Int × Nat)} {F : Int → Nat} (h : MapP l F) {s : Int} (hs : s ∉ l.map Prod.fst) : F s = 0 := by
  rw [← h.h, look_none hs]; rfl
theorem MapP.step {l : List (Int × Nat)} {A : List (List Int)} {B : List Int} {a : Int} (h : MapP l (mkN (A ++ [B]))) : MapP (putA a (mkN (A ++ [B]) a ||| 1 * 2 ^ A.length) l) (mkN (A ++ [B ++ [a]])) :=
  (h.put a _).congr fun s => by
    split
    · rename_i e; subst e; exact mkN_or
    · rename_i e; exact (mkN_ne e).symm
structure RowsP (n : Nat) (R : Nat → Int → Prop) (b : Nat) (os : List (List Int)) : Prop where
  l : os.length = n
  h : ∀ v x, v < n → (x ∈ os.getD v [] ↔ R v x)
  b : ∀ v, (os.getD v []).length ≤ b
theorem getD_set_row {os : List (List Int)} {v : Nat} {r : List Int} (hv : v < os.length) (c : Nat) : (os.set v r).getD c [] = if c = v then r else os.getD c [] := by
  rw [List.getD_eq_getElem?_getD, List.getElem?_set]
  by_cases e : v = c
  · subst e; rw [if_pos rfl, if_pos hv, if_pos rfl]; rfl
  · rw [if_neg e, if_neg (fun h => e h.symm)]; simp
theorem RowsP.push {n b : Nat} {R R' : Nat → Int → Prop} {qs : List Rec} (h : RowsP n R b (nums qs)) {v : Nat} (hv : v < qs.length) (x : Int) (hR : ∀ u y, u < n → (R' u y ↔ R u y ∨ (u = v ∧ y = x))) (bb : Option Addr) (cc : Nat) : RowsP n R' (b + 1) (nums (qs.set v ⟨bb, cc, qs[v].xs ++ [x]⟩)) := by
  have hvl : v < (nums qs).length := by simpa using hv
  have hq : (nums qs).getD v [] = qs[v].xs := by simp [hv]
  rw [nums_set]
  refine ⟨by rw [List.length_set]; exact h.l, fun u y hu => ?_, fun u => ?_⟩
  · rw [getD_set_row hvl, hR u y hu]
    by_cases e : u = v
    · subst e; rw [if_pos rfl, List.mem_append, List.mem_singleton, ← hq, h.h u y hu]; simp
    · rw [if_neg e, h.h u y hu]; simp [e]
  · rw [getD_set_row hvl]; split
    · have := h.b v; rw [hq] at this; simp; exact this
    · have := h.b u; omega
theorem RowsP.same {n b : Nat} {R R' : Nat → Int → Prop} {os : List (List Int)} (h : RowsP n R b os) (hR : ∀ u y, u < n → (R' u y ↔ R u y)) : RowsP n R' b os := ⟨h.l, fun v x hv => by rw [h.h v x hv, hR v x hv], h.b⟩
theorem RowsP.more {n b b' : Nat} {R : Nat → Int → Prop} {os : List (List Int)} (h : RowsP n R b os) (hb : b ≤ b') : RowsP n R b' os := ⟨h.l, h.h, fun v => Nat.le_trans (h.b v) hb⟩
theorem RowsP.start {n : Nat} {R : Nat → Int → Prop} (hR : ∀ u y, u < n → ¬ R u y) (b : Nat) : RowsP n R b (nums (List.replicate n nilRec)) := by
  have h0 : ∀ c, (nums (List.replicate n nilRec)).getD c [] = [] := fun c => by
    rw [List.getD_eq_getElem?_getD]
    simp only [nums, List.getElem?_map, List.getElem?_replicate]; split <;> rfl
  refine ⟨by simp, fun v x hv => ?_, fun v => by rw [h0]; exact Nat.zero_le _⟩
  rw [h0]
  constructor
  · intro h; cases h
  · intro h; exact absurd h (hR v x hv)
theorem RowsP.ql {n b : Nat} {R : Nat → Int → Prop} {qs : List Rec} (h : RowsP n R b (nums qs)) : qs.length = n := by simpa using h.l
theorem RowsP.rl {n b : Nat} {R : Nat → Int → Prop} {qs : List Rec} (h : RowsP n R b (nums qs)) {v : Nat} (hv : v < qs.length) : qs[v].xs.length ≤ b := by
  have := h.b v
  rwa [show (nums qs).getD v [] = qs[v].xs by simp [hv]] at this
theorem RowsP.adj {n b : Nat} {R : Nat → Int → Prop} {os : List (List Int)} (h : RowsP n R b os) (hR : ∀ u y, R u y → u < n) (u v : Nat) : adjE os u v ↔ R u v := by
  constructor
  · rintro ⟨r, h1, h2⟩
    have hu : u < n := by rw [← h.l]; exact (List.getElem?_eq_some_iff.1 h1).1
    refine (h.h u v hu).1 ?_
    rw [List.getD_eq_getElem?_getD, h1]; exact h2
  · intro hr
    have hu := hR u v hr
    have := (h.h u v hu).2 hr
    refine ⟨os.getD u [], ?_, this⟩
    rw [List.getD_eq_getElem?_getD]
    rw [List.getElem?_eq_getElem (by rw [h.l]; exact hu)]; rfl
theorem List.sublist_append_left_of_sublist_cons {α : Type} (A : List α) (e : α) (B : List α) : (A ++ B).Sublist (A ++ e :: B) := (List.Sublist.refl A).append (List.sublist_cons_self e B)
theorem nodup_mid {A B : List (Int × Nat)} {e : Int × Nat} (h : ((A ++ e :: B).map Prod.fst).Nodup) : ((A ++ B).map Prod.fst).Nodup :=
  ((List.sublist_append_left_of_sublist_cons A e B).map Prod.fst).nodup h
def autR (es : List Ed) (u : Nat) (y : Int) : Prop := ∃ e ∈ es, e.fr = (u : Int) ∧ e.to = y
theorem autR_snoc {es : List Ed} {k : Nat} (hk : k < es.length) (u : Nat) (y : Int) : autR (es.take (k + 1)) u y ↔ autR (es.take k) u y ∨ (es[k].fr = (u : Int) ∧ es[k].to = y) := by
  unfold autR
  rw [List.take_succ_eq_append_getElem hk]
  constructor
  · rintro ⟨e, h, h1⟩
    rcases List.mem_append.1 h with h | h
    · exact .inl ⟨e, h, h1⟩
    · rw [List.mem_singleton] at h; subst h; exact .inr h1
  · rintro (⟨e, h, h1⟩ | h1)
    · exact ⟨e, List.mem_append_left _ h, h1⟩
    · exact ⟨es[k], List.mem_append_right _ (by simp), h1⟩
theorem marks_step {ms : List Nat} {n : Nat} {F : Int → Nat} {A B : List (Int × Nat)} {e : Int × Nat} (hl : ms.length = n) (h : ∀ s, s < n → ms.getD s 0 = if (s : Int) ∈ (A ++ e :: B).map Prod.fst then 0 else F s) (hn : ((A ++ e :: B).map Prod.fst).Nodup) (he : e.2 = F e.1) {x : Nat} (hx : e.1 = (x : Int)) (hxn : x < n) :
    ∀ s, s < n → (ms.set x e.2).getD s 0 = if (s : Int) ∈ (A ++ B).map Prod.fst then 0 else F s := fun s hs => by
  have h1 := fn_set (a := e.2) (l := ms) (v := x) (by rw [hl]; exact hxn) s
  rw [show (ms.set x e.2).getD s 0 = fn (ms.set x e.2) s from rfl, h1]
  simp only [List.map_append, List.map_cons, List.nodup_append, List.nodup_cons, List.mem_cons] at hn
  by_cases es : s = x
  · subst es
    rw [if_pos rfl, if_neg, he, hx]
    rw [List.map_append, List.mem_append, ← hx]
    rintro (h2 | h2)
    · exact hn.2.2 _ h2 _ (.inl rfl) rfl
    · exact hn.2.1.1 h2
  · rw [if_neg es, show fn ms s = ms.getD s 0 from rfl, h s hs]
    have : ¬ (s : Int) = e.1 := by rw [hx]; omega
    by_cases hm : (s : Int) ∈ (A ++ B).map Prod.fst
    · rw [if_pos hm, if_pos]
      rw [List.map_append, List.mem_append] at hm ⊢
      rcases hm with hm | hm
      · exact .inl hm
      · exact .inr (List.mem_cons_of_mem _ hm)
    · rw [if_neg hm, if_neg]
      rw [List.map_append, List.mem_append] at hm ⊢
      rintro (h2 | h2)
      · exact hm (.inl h2)
      · rw [List.map_cons, List.mem_cons] at h2
        exact h2.elim this (fun h3 => hm (.inr h3))
def autE (b : Bu) (u v : Nat) : Prop := autR b.edges u (v : Int)
def autM (b : Bu) (k v : Nat) : Prop := v < b.states.toNat ∧ ∃ S, b.sets[k]? = some S ∧ (v : Int) ∈ S
def liveB (b : Bu) (v : Nat) : Prop := LiveG (autE b) b.sets.length (autM b) v
def coreB (b : Bu) (v : Nat) : Prop := Core (autE b) b.sets.length (autM b) v
structure AutG (b : Bu) (nx : List (List Int)) (ms : List Nat) : Prop where
  r : RowsP b.states.toNat (autR b.edges) b.edges.length nx
  l : ms.length = b.states.toNat
  m : ∀ s, s < b.states.toNat → ms.getD s 0 = mkN b.sets s
theorem AutG.ok {b : Bu} {nx : List (List Int)} {ms : List Nat} (h : AutG b nx ms) (hv : ValidB b) : okRows nx := fun r hr x hx => by
  obtain ⟨i, hi, rfl⟩ := List.mem_iff_getElem.1 hr
  have hl := h.r.l
  have := (h.r.h i x (by omega)).1 (by rw [getD_at hi]; exact hx)
  obtain ⟨e, he, _, rfl⟩ := this
  have := (hv.ed e he).2
  omega
theorem AutG.adj {b : Bu} {nx : List (List Int)} {ms : List Nat} (h : AutG b nx ms) (hv : ValidB b) : adjE nx = autE b := by
  funext u v
  exact propext (h.r.adj (fun u y ⟨e, he, h1, _⟩ => by have := (hv.ed e he).1; omega) u v)
theorem AutG.mrk {b : Bu} {nx : List (List Int)} {ms : List Nat} (h : AutG b nx ms) : mkM nx ms = autM b := by
  funext k v
  apply propext
  unfold mkM autM
  rw [h.r.l]
  constructor
  · rintro ⟨h1, h2⟩
    rw [h.m v h1, mkN_test] at h2
    exact ⟨h1, h2⟩
  · rintro ⟨h1, h2⟩
    exact ⟨h1, by rw [h.m v h1, mkN_test]; exact h2⟩
theorem AutG.liv {b : Bu} {nx : List (List Int)} {ms : List Nat} (h : AutG b nx ms) (hv : ValidB b) (v : Nat) : Liv nx ms b.sets.length v ↔ liveB b v := by
  unfold Liv liveB; rw [h.adj hv, h.mrk]
theorem AutG.cor {b : Bu} {nx : List (List Int)} {ms : List Nat} (h : AutG b nx ms) (hv : ValidB b) (v : Nat) : Cor nx ms b.sets.length v ↔ coreB b v := by
  unfold Cor coreB; rw [h.adj hv, h.mrk]
theorem AutG.lt {b : Bu} {nx : List (List Int)} {ms : List Nat} (h : AutG b nx ms) : ∀ x ∈ ms, x < 2 ^ b.sets.length := fun x hx => by
  obtain ⟨i, hi, rfl⟩ := List.mem_iff_getElem.1 hx
  have := h.m i (by rw [← h.l]; exact hi)
  rw [gd hi] at this
  rw [this]; exact mkN_lt _ _
end Go.Lx


namespace Go.Proofs.Ytnamoapbienooaa
open Go.Lx Go.RowKit
set_option linter.unusedVariables false
set_option linter.unusedSimpArgs false
set_option maxHeartbeats 1000000 in
set_option maxRecDepth 20000 in
theorem marksF (w : World) (b : Bu) (sb eb tb : Option Addr) (sc ec tc : Nat) (vs : List Value) (h : BuAt w b sb eb tb vs) (hB : BuB b) (h8 : b.sets.length ≤ 8) :
    PureT Try.prog 52 [.agg (buCells b sb sc eb ec tb tc).toArray] w fun v N => ∃ m l, v = .map (some m) ∧ N = [mapI KI VU m l] ∧ MapP l (mkN b.sets) ∧ (∀ q ∈ l, ∃ S ∈ b.sets, q.1 ∈ S) := by
  refine CallT.enter Try.func52 rfl Try.ntmps52 rfl ?_
  have hse := hB.se
  refine T.seq (T.region ?_)
  refine TO.loud rfl (l_box (v := (.agg (buCells b sb sc eb ec tb tc).toArray)) (cs := (buCells b sb sc eb ec tb tc)) rfl rfl (fun bx1 => ?_))
  refine TO.quiet (q_assign rfl) ?_
  refine TO.nil (T.seq (T.region ?_))
  refine TO.loud rfl (l_makeMap KI VU (fun m2 => ?_))
  refine TO.quiet (q_assign rfl) ?_
  refine TO.nil (T.seq (T.seq (T.region ?_)))
  refine TO.quiet (q_fieldAddr Try.underlying26 rfl inf24 rfl rfl) (TO.quiet (q_load_box 1 Try.underlying24 rfl rfl rfl rfl) (TO.quiet (q_len Try.underlying24 rfl) (TO.quiet (q_move rfl) ?_)))
  refine TO.nil (T.block ?_)
  refine T.loop (fun (k : Nat) ρ O => ∃ (l : List (Int × Nat)), O = [mapI KI VU m2 l, oI bx1 26 (buCells b sb sc eb ec tb tc)] ∧ k ≤ b.sets.length ∧ MapP l (mkN (b.sets.take k)) ∧ (∀ q ∈ l, ∃ S ∈ b.sets, q.1 ∈ S) ∧ Heads [(0, (.agg (buCells b sb sc eb ec tb tc).toArray)), (1, (.pointer (some ⟨bx1, 0, none⟩))), (2, .map none), (3, (.map (some m2))), (10, (.slice tb b.sets.length tc)), (11, .int .i64 (b.sets.length : Int)), (12, .int .i64 (k : Int))] ρ) (fun k => b.sets.length - k) 0 ?_ ?_
  · exact ⟨[], rfl, Nat.zero_le _, MapP.nil, (fun q hq => (List.not_mem_nil hq).elim), ⟨rfl, rfl, rfl, rfl, rfl, rfl, rfl, trivial⟩⟩
  rintro k ρ O ⟨l, rfl, hk, hmp, hin, hH⟩
  obtain ⟨ρ0, rfl⟩ := hH.elim
  clear hH
  refine T.seq (T.region ?_)
  refine TO.quiet (q_lss rfl rfl) ?_
  refine TO.nil (T.seq ?_)
  refine T.condP rfl (fun hc => ?_) (fun hc => ?_)
  · have hlt13 : k < b.sets.length := by omega
    obtain ⟨rb, rc, g1, s1⟩ := h.rows.get hlt13
    have hrk := hB.sr _ (List.getElem_mem hlt13)
    have hkl : (b.sets.take k).length = k := by rw [List.length_take]; omega
    refine T.skip (T.seq (T.block (T.seq (T.region ?_))))
    refine TO.quiet (q_move rfl) (TO.quiet (q_ix (i := k) Try.underlying24 inf22 rfl rfl (Sl.o h.out) (by first | assumption | omega | (simp; omega) | simp_all) (by rw [h.rows.1]; exact hlt13)) (TO.quiet (q_ld Try.underlying22 rfl rfl (Sl.o h.out) g1) (TO.quiet (q_assign rfl) ?_)))
    refine TO.quiet (q_assign rfl) ?_
    refine TO.nil (T.seq (T.region ?_))
    refine TO.quiet (q_move rfl) (TO.quiet (q_len Try.underlying22 rfl) (TO.quiet (q_move rfl) ?_))
    refine TO.nil (T.block ?_)
    refine T.loop (fun (j : Nat) ρ O => ∃ (l2 : List (Int × Nat)), O = [mapI KI VU m2 l2, oI bx1 26 (buCells b sb sc eb ec tb tc)] ∧ j ≤ b.sets[k].length ∧ MapP l2 (mkN (b.sets.take k ++ [b.sets[k].take j])) ∧ (∀ q ∈ l2, ∃ S ∈ b.sets, q.1 ∈ S) ∧ Heads [(0, (.agg (buCells b sb sc eb ec tb tc).toArray)), (1, (.pointer (some ⟨bx1, 0, none⟩))), (2, .map none), (3, (.map (some m2))), (4, .int .i64 (k : Int)), (5, (.slice rb b.sets[k].length rc)), (10, (.slice tb b.sets.length tc)), (11, .int .i64 (b.sets.length : Int)), (12, .int .i64 (k : Int)), (17, (.slice rb b.sets[k].length rc)), (18, .int .i64 (b.sets[k].length : Int)), (19, .int .i64 (j : Int))] ρ) (fun j => b.sets[k].length - j) 0 ?_ ?_
    · exact ⟨l, rfl, Nat.zero_le _, hmp.congr (fun s => by rw [List.take_zero]; exact mkN_nil.symm), hin, ⟨rfl, rfl, rfl, rfl, rfl, rfl, rfl, rfl, rfl, rfl, rfl, rfl, trivial⟩⟩
    rintro j ρ O ⟨l2, rfl, hj, hmp2, hin2, hH⟩
    obtain ⟨ρ0, rfl⟩ := hH.elim
    clear hH
    refine T.seq (T.region ?_)
    refine TO.quiet (q_lss rfl rfl) ?_
    refine TO.nil (T.seq ?_)
    refine T.condP rfl (fun hc => ?_) (fun hc => ?_)
    · have hlt20 : j < b.sets[k].length := by omega
      have hmk : mkN (b.sets.take k ++ [b.sets[k].take j]) b.sets[k][j] < 2 ^ 9 := Nat.lt_of_lt_of_le (mkN_lt _ _) (Nat.pow_le_pow_right (by omega) (by simp; omega))
      refine T.skip (T.seq (T.block (T.seq (T.region ?_))))
      refine TO.quiet (q_ix (i := j) Try.underlying22 inf3 rfl rfl (Sl.o s1)) (TO.quiet (q_ld Try.underlying3 rfl rfl (Sl.o s1) ints_get) (TO.quiet (q_assign rfl) ?_))
      refine TO.nil ?_
      refine T.draws _ [(0, 0), (1, 0), (2, 0), (3, 0), (4, 0), (5, 0), (6, 2)] mixed (by kernel_rfl) (Sub.of (List.Sublist.refl _)) (fun _ _ _ h => h) ?_
      refine DO.quiet rfl (q_move rfl) (DO.quiet rfl (q_move rfl) (DO.quiet rfl (QT.cast (q_lookup (K := KI) (V := VU) (a := b.sets[k][j]) Try.underlying80 inf52 (KeyOk.int Try.underlying3) rfl rfl (List.mem_of_getElem? (i := 0) rfl)) (v' := .int .u64 ((mkN (b.sets.take k ++ [b.sets[k].take j]) b.sets[k][j] : Nat) : Int)) (by rw [← hmp2.h]; cases lookL b.sets[k][j] l2 <;> rfl)) (DO.quiet rfl (q_move rfl) ?_)))
      refine DO.quiet rfl (q_shlU (a := 1) (b := k) .u64 rfl rfl (by show _ ≤ 64; omega) (by show _ < 2 ^ 64; rw [Nat.one_mul]; exact Nat.pow_lt_pow_right (by omega) (by omega))) (DO.quiet rfl (q_or (a := (mkN (b.sets.take k ++ [b.sets[k].take j]) b.sets[k][j])) (b := (1 * 2 ^ k)) .u64 rfl rfl (by show _ < 2 ^ 64; omega) (by show _ < 2 ^ 64; rw [Nat.one_mul]; exact Nat.pow_lt_pow_right (by omega) (by omega))) ?_)
      refine DO.last rfl rfl (l_mapPutA (K := KI) (V := VU) (a := b.sets[k][j]) (v := mkN (b.sets.take k ++ [b.sets[k].take j]) b.sets[k][j] ||| 1 * 2 ^ k) 0 Try.underlying80 (KeyOk.int Try.underlying3) (sbI _) rfl rfl rfl rfl ?_)
      refine DO.done ?_
      refine T.region ?_
      refine TO.quiet (q_addN (a := j) (b := 1) rfl rfl (by omega)) (TO.quiet (q_move rfl) ?_)
      refine TO.nil ?_
      refine ⟨j + 1, by omega, putA b.sets[k][j] (mkN (b.sets.take k ++ [b.sets[k].take j]) b.sets[k][j] ||| 1 * 2 ^ k) l2, rfl, by omega, ?_, fun q hq => ?_, ⟨rfl, rfl, rfl, rfl, rfl, rfl, rfl, rfl, rfl, rfl, rfl, rfl, trivial⟩⟩
      · have h9 := hmp2.step (a := b.sets[k][j])
        rw [hkl] at h9
        rw [List.take_succ_eq_append_getElem hlt20]; exact h9
      · by_cases e : q.1 = b.sets[k][j]
        · exact ⟨_, List.getElem_mem hlt13, by rw [e]; exact List.getElem_mem hlt20⟩
        · have hm9 : q.1 ∈ (putA b.sets[k][j] (mkN (b.sets.take k ++ [b.sets[k].take j]) b.sets[k][j] ||| 1 * 2 ^ k) l2).map Prod.fst := List.mem_map.2 ⟨q, hq, rfl⟩
          rw [keys_putA] at hm9
          have hm8 : q.1 ∈ l2.map Prod.fst := by
            split at hm9
            · exact hm9
            · rcases List.mem_append.1 hm9 with h | h
              · exact h
              · simp at h; exact absurd h e
          obtain ⟨q2, hq2, e2⟩ := List.mem_map.1 hm8
          obtain ⟨S, hS, hS2⟩ := hin2 q2 hq2
          exact ⟨S, hS, by rw [← e2]; exact hS2⟩
    have hge20 : ¬ j < b.sets[k].length := by omega
    refine T.exit ?_
    refine T.region ?_
    refine TO.quiet (q_addN (a := k) (b := 1) rfl rfl (by omega)) (TO.quiet (q_move rfl) ?_)
    refine TO.nil ?_
    refine ⟨k + 1, by omega, l2, rfl, by omega, ?_, hin2, ⟨rfl, rfl, rfl, rfl, rfl, rfl, rfl, trivial⟩⟩
    rw [List.take_succ_eq_append_getElem hlt13]
    rwa [List.take_of_length_le (show b.sets[k].length ≤ j by omega)] at hmp2
  have hge13 : ¬ k < b.sets.length := by omega
  refine T.exit ?_
  refine T.seq (T.region ?_)
  refine TO.quiet (q_move rfl) (TO.quiet (q_assign rfl) ?_)
  refine TO.nil (T.ret (Res.drop ?_))
  refine Res.one (.map (some m2)) Try.results52 rfl ?_
  have hke : k = b.sets.length := by omega
  exact ⟨[mapI KI VU m2 l], (Sub.pick [0] rfl), m2, l, rfl, rfl, by rwa [hke, List.take_length] at hmp, hin⟩
end Go.Proofs.Ytnamoapbienooaa


namespace Go.Proofs.Ytnamoapbienooaa
open Go.Lx Go.RowKit
set_option linter.unusedVariables false
set_option linter.unusedSimpArgs false
set_option maxHeartbeats 1000000 in
set_option maxRecDepth 20000 in
theorem automatonF (w : World) (b : Bu) (sb eb tb : Option Addr) (sc ec tc : Nat) (vs : List Value) (h : BuAt w b sb eb tb vs) (hB : BuB b) (hv : ValidB b) :
    PureT Try.prog 62 [.agg (buCells b sb sc eb ec tb tc).toArray] w fun v N => ∃ nb nc mb mc qs ms, v = .agg #[.slice nb b.states.toNat nc, .slice mb b.states.toNat mc, .int .u64 ((2 ^ b.sets.length - 1 : Nat) : Int)] ∧ N = [rowI nb b.states.toNat 22 1 (vals qs), rowI mb b.states.toNat 52 1 (uns ms)] ++ itms 3 qs ∧ AutG b (nums qs) ms := by
  refine CallT.enter Try.func62 rfl Try.ntmps62 rfl ?_
  have hv0 := hv.n0; have hv4 := hv.n4; have hm8 := hv.m8; have hed := hB.ed
  obtain ⟨n, hn⟩ : ∃ n : Nat, b.states = (n : Int) := ⟨b.states.toNat, by omega⟩
  have hnn : b.states.toNat = n := by omega
  refine T.seq (T.region ?_)
  refine TO.loud rfl (l_box (v := (.agg (buCells b sb sc eb ec tb tc).toArray)) (cs := (buCells b sb sc eb ec tb tc)) rfl rfl (fun bx1 => ?_))
  refine TO.loud rfl (l_alloc inf79 rfl (fun bx2 => ?_))
  refine TO.nil ?_
  refine T.cut (fun ρ O => ∃ (zN zM zG : Nat), O = [oI zG 79 [(.slice (some ⟨zN, 0, none⟩) n n), (.slice (some ⟨zM, 0, none⟩) n n), .int .u64 ((2 ^ b.sets.length - 1 : Nat) : Int)], rowI (some ⟨zN, 0, none⟩) n 22 1 (List.replicate n (.slice none 0 0)), rowI (some ⟨zM, 0, none⟩) n 52 1 (List.replicate n (.int .u64 0)), oI bx2 79 [(.slice none 0 0), (.slice none 0 0), (.int .u64 0)], oI bx1 26 (buCells b sb sc eb ec tb tc)] ∧ Heads [(0, (.agg (buCells b sb sc eb ec tb tc).toArray)), (1, (.pointer (some ⟨bx1, 0, none⟩))), (2, (.pointer (some ⟨bx2, 0, none⟩))), (3, (.pointer (some ⟨zG, 0, none⟩)))] ρ) ?_ ?_
  · refine T.tree [oI bx1 26 (buCells b sb sc eb ec tb tc)] 14 mixed rfl (Sub.pick [1] rfl) (fun _ _ _ h => h) ?_
    refine RO.quietT 0 rfl (by kernel_rfl) (q_fieldAddr Try.underlying26 rfl inf3 rfl rfl) ?_
    refine RO.quietT 1 rfl (by kernel_rfl) (QT.cast (q_load_box 0 Try.underlying3 rfl rfl rfl rfl) (v' := .int .i64 ((n : Nat) : Int)) (by show Value.int _ b.states = _; rw [hn])) ?_
    refine RO.quietT 3 rfl (by kernel_rfl) (q_fieldAddr Try.underlying26 rfl inf3 rfl rfl) ?_
    refine RO.quietT 4 rfl (by kernel_rfl) (QT.cast (q_load_box 0 Try.underlying3 rfl rfl rfl rfl) (v' := .int .i64 ((n : Nat) : Int)) (by show Value.int _ b.states = _; rw [hn])) ?_
    refine RO.quietT 6 rfl (by kernel_rfl) (q_fieldAddr Try.underlying26 rfl inf24 rfl rfl) ?_
    refine RO.quietT 7 rfl (by kernel_rfl) (q_load_box 0 Try.underlying24 rfl rfl rfl rfl) ?_
    refine RO.quietT 8 rfl (by kernel_rfl) (q_len Try.underlying24 rfl) ?_
    refine RO.quietT 9 rfl (by kernel_rfl) (QT.cast (q_shlU (a := 1) (b := b.sets.length) .u64 rfl rfl (by show _ ≤ 64; omega) (by show _ < 2 ^ 64; rw [Nat.one_mul]; exact Nat.pow_lt_pow_right (by omega) (by omega))) (v' := .int .u64 ((2 ^ b.sets.length : Nat) : Int)) (by rw [Nat.one_mul])) ?_
    refine RO.quietT 10 rfl (by kernel_rfl) (q_subU (a := (2 ^ b.sets.length)) (b := 1) .u64 rfl rfl (by show _ < 2 ^ 64; exact Nat.pow_lt_pow_right (by omega) (by omega)) Nat.one_le_two_pow) ?_
    refine RO.fork [2, 5, 12] (by kernel_rfl) rfl ⟨⟨_, rfl, rfl, l_makeSlice (m := n) Try.underlying24 inf22 rfl rfl (by omega) (by omega) (fun zN => ⟨Sub.pick [2] rfl, ?_⟩)⟩, ⟨_, rfl, rfl, l_makeSlice (m := n) Try.underlying77 inf52 rfl rfl (by omega) (by omega) (fun zM => ⟨Sub.pick [2] rfl, ?_⟩)⟩, ⟨_, rfl, rfl, l_alloc inf79 rfl (fun zG => ⟨Sub.pick [2] rfl, ?_⟩)⟩, trivial⟩
    · refine RO.fork [5, 12] (by kernel_rfl) rfl ⟨⟨_, rfl, rfl, l_makeSlice (m := n) Try.underlying77 inf52 rfl rfl (by omega) (by omega) (fun zM => ⟨Sub.pick [3] rfl, ?_⟩)⟩, ⟨_, rfl, rfl, l_alloc inf79 rfl (fun zG => ⟨Sub.pick [3] rfl, ?_⟩)⟩, trivial⟩
      · refine RO.quietT 11 rfl (by kernel_rfl) (q_build (cs := [(.slice (some ⟨zN, 0, none⟩) n n), (.slice (some ⟨zM, 0, none⟩) n n), .int .u64 ((2 ^ b.sets.length - 1 : Nat) : Int)]) plan79 inf79 (by kernel_rfl)) ?_
        refine RO.fork [12] (by kernel_rfl) rfl ⟨⟨_, rfl, rfl, l_alloc inf79 rfl (fun zG => ⟨Sub.pick [4] rfl, ?_⟩)⟩, trivial⟩
        refine RO.fork [13] (by kernel_rfl) rfl ⟨⟨_, rfl, rfl, l_store_box (v := (.agg #[(.slice (some ⟨zN, 0, none⟩) n n), (.slice (some ⟨zM, 0, none⟩) n n), .int .u64 ((2 ^ b.sets.length - 1 : Nat) : Int)])) (vs := [(.slice (some ⟨zN, 0, none⟩) n n), (.slice (some ⟨zM, 0, none⟩) n n), .int .u64 ((2 ^ b.sets.length - 1 : Nat) : Int)]) 0 inf79 rfl rfl rfl rfl rfl rfl (by simp [putL]) ⟨Sub.pick [4] rfl, ?_⟩⟩, trivial⟩
        exact RO.fin (by kernel_rfl) ⟨zN, zM, zG, rfl, ⟨rfl, rfl, rfl, rfl, trivial⟩⟩ (Sub.pick [0, 1, 0, 0, 0] rfl)
      refine RO.fork [5] (by kernel_rfl) rfl ⟨⟨_, rfl, rfl, l_makeSlice (m := n) Try.underlying77 inf52 rfl rfl (by omega) (by omega) (fun zM => ⟨Sub.pick [4] rfl, ?_⟩)⟩, trivial⟩
      refine RO.quietT 11 rfl (by kernel_rfl) (q_build (cs := [(.slice (some ⟨zN, 0, none⟩) n n), (.slice (some ⟨zM, 0, none⟩) n n), .int .u64 ((2 ^ b.sets.length - 1 : Nat) : Int)]) plan79 inf79 (by kernel_rfl)) ?_
      refine RO.fork [13] (by kernel_rfl) rfl ⟨⟨_, rfl, rfl, l_store_box (v := (.agg #[(.slice (some ⟨zN, 0, none⟩) n n), (.slice (some ⟨zM, 0, none⟩) n n), .int .u64 ((2 ^ b.sets.length - 1 : Nat) : Int)])) (vs := [(.slice (some ⟨zN, 0, none⟩) n n), (.slice (some ⟨zM, 0, none⟩) n n), .int .u64 ((2 ^ b.sets.length - 1 : Nat) : Int)]) 1 inf79 rfl rfl rfl rfl rfl rfl (by simp [putL]) ⟨Sub.pick [4] rfl, ?_⟩⟩, trivial⟩
      exact RO.fin (by kernel_rfl) ⟨zN, zM, zG, rfl, ⟨rfl, rfl, rfl, rfl, trivial⟩⟩ (Sub.pick [1, 1, 0, 0, 0] rfl)
    · refine RO.fork [2, 12] (by kernel_rfl) rfl ⟨⟨_, rfl, rfl, l_makeSlice (m := n) Try.underlying24 inf22 rfl rfl (by omega) (by omega) (fun zN => ⟨Sub.pick [3] rfl, ?_⟩)⟩, ⟨_, rfl, rfl, l_alloc inf79 rfl (fun zG => ⟨Sub.pick [3] rfl, ?_⟩)⟩, trivial⟩
      · refine RO.quietT 11 rfl (by kernel_rfl) (q_build (cs := [(.slice (some ⟨zN, 0, none⟩) n n), (.slice (some ⟨zM, 0, none⟩) n n), .int .u64 ((2 ^ b.sets.length - 1 : Nat) : Int)]) plan79 inf79 (by kernel_rfl)) ?_
        refine RO.fork [12] (by kernel_rfl) rfl ⟨⟨_, rfl, rfl, l_alloc inf79 rfl (fun zG => ⟨Sub.pick [4] rfl, ?_⟩)⟩, trivial⟩
        refine RO.fork [13] (by kernel_rfl) rfl ⟨⟨_, rfl, rfl, l_store_box (v := (.agg #[(.slice (some ⟨zN, 0, none⟩) n n), (.slice (some ⟨zM, 0, none⟩) n n), .int .u64 ((2 ^ b.sets.length - 1 : Nat) : Int)])) (vs := [(.slice (some ⟨zN, 0, none⟩) n n), (.slice (some ⟨zM, 0, none⟩) n n), .int .u64 ((2 ^ b.sets.length - 1 : Nat) : Int)]) 0 inf79 rfl rfl rfl rfl rfl rfl (by simp [putL]) ⟨Sub.pick [4] rfl, ?_⟩⟩, trivial⟩
        exact RO.fin (by kernel_rfl) ⟨zN, zM, zG, rfl, ⟨rfl, rfl, rfl, rfl, trivial⟩⟩ (Sub.pick [0, 0, 0, 0, 0] rfl)
      refine RO.fork [2] (by kernel_rfl) rfl ⟨⟨_, rfl, rfl, l_makeSlice (m := n) Try.underlying24 inf22 rfl rfl (by omega) (by omega) (fun zN => ⟨Sub.pick [4] rfl, ?_⟩)⟩, trivial⟩
      refine RO.quietT 11 rfl (by kernel_rfl) (q_build (cs := [(.slice (some ⟨zN, 0, none⟩) n n), (.slice (some ⟨zM, 0, none⟩) n n), .int .u64 ((2 ^ b.sets.length - 1 : Nat) : Int)]) plan79 inf79 (by kernel_rfl)) ?_
      refine RO.fork [13] (by kernel_rfl) rfl ⟨⟨_, rfl, rfl, l_store_box (v := (.agg #[(.slice (some ⟨zN, 0, none⟩) n n), (.slice (some ⟨zM, 0, none⟩) n n), .int .u64 ((2 ^ b.sets.length - 1 : Nat) : Int)])) (vs := [(.slice (some ⟨zN, 0, none⟩) n n), (.slice (some ⟨zM, 0, none⟩) n n), .int .u64 ((2 ^ b.sets.length - 1 : Nat) : Int)]) 1 inf79 rfl rfl rfl rfl rfl rfl (by simp [putL]) ⟨Sub.pick [4] rfl, ?_⟩⟩, trivial⟩
      exact RO.fin (by kernel_rfl) ⟨zN, zM, zG, rfl, ⟨rfl, rfl, rfl, rfl, trivial⟩⟩ (Sub.pick [1, 0, 0, 0, 0] rfl)
    refine RO.fork [2, 5] (by kernel_rfl) rfl ⟨⟨_, rfl, rfl, l_makeSlice (m := n) Try.underlying24 inf22 rfl rfl (by omega) (by omega) (fun zN => ⟨Sub.pick [3] rfl, ?_⟩)⟩, ⟨_, rfl, rfl, l_makeSlice (m := n) Try.underlying77 inf52 rfl rfl (by omega) (by omega) (fun zM => ⟨Sub.pick [3] rfl, ?_⟩)⟩, trivial⟩
    · refine RO.fork [5] (by kernel_rfl) rfl ⟨⟨_, rfl, rfl, l_makeSlice (m := n) Try.underlying77 inf52 rfl rfl (by omega) (by omega) (fun zM => ⟨Sub.pick [4] rfl, ?_⟩)⟩, trivial⟩
      refine RO.quietT 11 rfl (by kernel_rfl) (q_build (cs := [(.slice (some ⟨zN, 0, none⟩) n n), (.slice (some ⟨zM, 0, none⟩) n n), .int .u64 ((2 ^ b.sets.length - 1 : Nat) : Int)]) plan79 inf79 (by kernel_rfl)) ?_
      refine RO.fork [13] (by kernel_rfl) rfl ⟨⟨_, rfl, rfl, l_store_box (v := (.agg #[(.slice (some ⟨zN, 0, none⟩) n n), (.slice (some ⟨zM, 0, none⟩) n n), .int .u64 ((2 ^ b.sets.length - 1 : Nat) : Int)])) (vs := [(.slice (some ⟨zN, 0, none⟩) n n), (.slice (some ⟨zM, 0, none⟩) n n), .int .u64 ((2 ^ b.sets.length - 1 : Nat) : Int)]) 2 inf79 rfl rfl rfl rfl rfl rfl (by simp [putL]) ⟨Sub.pick [4] rfl, ?_⟩⟩, trivial⟩
      exact RO.fin (by kernel_rfl) ⟨zN, zM, zG, rfl, ⟨rfl, rfl, rfl, rfl, trivial⟩⟩ (Sub.pick [2, 1, 0, 0, 0] rfl)
    refine RO.fork [2] (by kernel_rfl) rfl ⟨⟨_, rfl, rfl, l_makeSlice (m := n) Try.underlying24 inf22 rfl rfl (by omega) (by omega) (fun zN => ⟨Sub.pick [4] rfl, ?_⟩)⟩, trivial⟩
    refine RO.quietT 11 rfl (by kernel_rfl) (q_build (cs := [(.slice (some ⟨zN, 0, none⟩) n n), (.slice (some ⟨zM, 0, none⟩) n n), .int .u64 ((2 ^ b.sets.length - 1 : Nat) : Int)]) plan79 inf79 (by kernel_rfl)) ?_
    refine RO.fork [13] (by kernel_rfl) rfl ⟨⟨_, rfl, rfl, l_store_box (v := (.agg #[(.slice (some ⟨zN, 0, none⟩) n n), (.slice (some ⟨zM, 0, none⟩) n n), .int .u64 ((2 ^ b.sets.length - 1 : Nat) : Int)])) (vs := [(.slice (some ⟨zN, 0, none⟩) n n), (.slice (some ⟨zM, 0, none⟩) n n), .int .u64 ((2 ^ b.sets.length - 1 : Nat) : Int)]) 2 inf79 rfl rfl rfl rfl rfl rfl (by simp [putL]) ⟨Sub.pick [4] rfl, ?_⟩⟩, trivial⟩
    exact RO.fin (by kernel_rfl) ⟨zN, zM, zG, rfl, ⟨rfl, rfl, rfl, rfl, trivial⟩⟩ (Sub.pick [2, 0, 0, 0, 0] rfl)
  rintro ρ O ⟨zN, zM, zG, rfl, hH⟩
  obtain ⟨ρ0, rfl⟩ := hH.elim
  clear hH
  refine T.seq (T.seq (T.region ?_))
  refine TO.quiet (q_load_boxAgg 4 Try.underlying26 rfl inf26 rfl rfl rfl) ?_
  have hk21 := fun (w1 : World) (hI : Inv w [oI zG 79 [(.slice (some ⟨zN, 0, none⟩) n n), (.slice (some ⟨zM, 0, none⟩) n n), .int .u64 ((2 ^ b.sets.length - 1 : Nat) : Int)], rowI (some ⟨zN, 0, none⟩) n 22 1 (List.replicate n (.slice none 0 0)), rowI (some ⟨zM, 0, none⟩) n 52 1 (List.replicate n (.int .u64 0)), oI bx2 79 [(.slice none 0 0), (.slice none 0 0), (.int .u64 0)], oI bx1 26 (buCells b sb sc eb ec tb tc)] w1) => marksF w1 b sb eb tb sc ec tc vs (hI.bu h) hB hm8
  refine TO.loud rfl (l_call ent52 (CallT.of_pure hk21) rfl ?_)
  clear hk21
  rintro vr O' ⟨N, rfl, m, l, rfl, rfl, hmp, hin⟩
  refine TO.loud rfl (l_rangeMap 0 Try.underlying80 rfl rfl (fun it3 => ?_))
  refine TO.nil (T.block ?_)
  refine T.loop (fun (left : List (Int × Nat)) ρ O => ∃ (cur : Option (Int × Nat)) (ms : List Nat), O = [iterI KI VU m it3 l left cur, oI zG 79 [(.slice (some ⟨zN, 0, none⟩) n n), (.slice (some ⟨zM, 0, none⟩) n n), .int .u64 ((2 ^ b.sets.length - 1 : Nat) : Int)], rowI (some ⟨zN, 0, none⟩) n 22 1 (List.replicate n (.slice none 0 0)), rowI (some ⟨zM, 0, none⟩) n 52 1 (uns ms), oI bx2 79 [(.slice none 0 0), (.slice none 0 0), (.int .u64 0)], oI bx1 26 (buCells b sb sc eb ec tb tc)] ∧ (∀ q ∈ left, q ∈ l) ∧ (left.map Prod.fst).Nodup ∧ ms.length = n ∧ (∀ s, s < n → ms.getD s 0 = if (s : Int) ∈ left.map Prod.fst then 0 else mkN b.sets s) ∧ Heads [(0, (.agg (buCells b sb sc eb ec tb tc).toArray)), (1, (.pointer (some ⟨bx1, 0, none⟩))), (2, (.pointer (some ⟨bx2, 0, none⟩))), (3, (.pointer (some ⟨zG, 0, none⟩))), (22, (.pointer (some ⟨it3, 0, none⟩)))] ρ) (fun left => left.length) l ?_ ?_
  · refine ⟨none, List.replicate n 0, (by first | (simp only [List.map_replicate]; done) | (simp only [List.map_replicate]; rfl)), fun q hq => hq, hmp.nd, by simp, fun s hs => ?_, ⟨rfl, rfl, rfl, rfl, rfl, trivial⟩⟩
    rw [show (List.replicate n 0).getD s 0 = 0 by simp [hs]]
    split
    · rfl
    · rename_i hs2; exact (hmp.out hs2).symm
  rintro left ρ O ⟨cur, ms, rfl, hsub, hnd, hml, hms, hH⟩
  obtain ⟨ρ0, rfl⟩ := hH.elim
  clear hH
  refine T.seq (T.region ?_)
  refine TO.loud rfl (l_nextMap (K := KI) (V := VU) 0 rfl rfl (fun hleft => ?_) (fun lA le lB hleft => ?_))
  · refine TO.quiet (q_extract (vs := _) rfl rfl) ?_
    refine TO.nil (T.seq ?_)
    refine T.cond0 rfl ?_
    refine T.exit ?_
    refine T.seq (T.seq (T.region ?_))
    refine TO.quiet (q_fieldAddr Try.underlying26 rfl inf23 rfl rfl) (TO.quiet (q_load_box 5 Try.underlying23 rfl rfl rfl rfl) (TO.quiet (q_len Try.underlying23 rfl) (TO.quiet (q_move rfl) ?_)))
    refine TO.nil (T.block ?_)
    subst hleft
    refine T.sub (O' := [oI zG 79 [(.slice (some ⟨zN, 0, none⟩) n n), (.slice (some ⟨zM, 0, none⟩) n n), .int .u64 ((2 ^ b.sets.length - 1 : Nat) : Int)], rowI (some ⟨zN, 0, none⟩) n 22 1 (List.replicate n (.slice none 0 0)), rowI (some ⟨zM, 0, none⟩) n 52 1 (uns ms), oI bx2 79 [(.slice none 0 0), (.slice none 0 0), (.int .u64 0)], oI bx1 26 (buCells b sb sc eb ec tb tc)]) (Sub.pick [1, 1, 1, 1, 1] rfl) ?_
    refine T.nilRows 3 n ?_
    refine T.loopS (fun (k : Nat) ρ O => ∃ (qs : List Rec), O = ([oI zG 79 [(.slice (some ⟨zN, 0, none⟩) n n), (.slice (some ⟨zM, 0, none⟩) n n), .int .u64 ((2 ^ b.sets.length - 1 : Nat) : Int)], rowI (some ⟨zN, 0, none⟩) n 22 1 (vals qs), rowI (some ⟨zM, 0, none⟩) n 52 1 (uns ms), oI bx2 79 [(.slice none 0 0), (.slice none 0 0), (.int .u64 0)], oI bx1 26 (buCells b sb sc eb ec tb tc)] ++ (itms 3 qs)) ∧ k ≤ b.edges.length ∧ RowsP n (autR (b.edges.take k)) k (nums qs) ∧ Heads [(0, (.agg (buCells b sb sc eb ec tb tc).toArray)), (1, (.pointer (some ⟨bx1, 0, none⟩))), (2, (.pointer (some ⟨bx2, 0, none⟩))), (3, (.pointer (some ⟨zG, 0, none⟩))), (34, (.slice eb b.edges.length ec)), (35, .int .i64 (b.edges.length : Int)), (36, .int .i64 (k : Int))] ρ) (fun k => b.edges.length - k) 0 ?_ ?_
    · exact ⟨List.replicate n nilRec, (by simp only [List.map_replicate]; rfl), Nat.zero_le _, RowsP.start (fun u y _ ⟨e, he, _⟩ => by simp at he) _, ⟨rfl, rfl, rfl, rfl, rfl, rfl, rfl, trivial⟩⟩
    rintro k ρ O ⟨qs, rfl, hk, hrw, hH⟩
    obtain ⟨ρ0, rfl⟩ := hH.elim
    clear hH
    have hql := hrw.ql
    refine T.seq (T.region ?_)
    refine TO.quiet (q_lss rfl rfl) ?_
    refine TO.nil (T.seq ?_)
    refine T.condP rfl (fun hc => ?_) (fun hc => ?_)
    · have hlt37 : k < b.edges.length := by omega
      obtain ⟨u, hu, hun⟩ : ∃ u : Nat, b.edges[k].fr = (u : Int) ∧ u < n := by
        have := (hv.ed _ (List.getElem_mem hlt37)).1
        exact ⟨b.edges[k].fr.toNat, by omega, by omega⟩
      have hqu : u < qs.length := by omega
      have hrq := hrw.rl hqu
      refine T.skip (T.seq (T.block (T.seq (T.region ?_))))
      refine TO.quiet (q_ixK (i := k) Try.underlying23 inf54 rfl rfl (Sl.o h.ed) (by first | assumption | omega | (simp; omega) | simp_all) (by first | (rw [eds_len]; omega) | (simp [eds_len]; omega) | (simp_all [eds_len]; omega))) (TO.quiet (q_ldK (vs := [.int .i64 b.edges[k].fr, .int .i64 b.edges[k].to, .int .u8 ((b.edges[k].pos : Nat) : Int), .int .u8 ((b.edges[k].neg : Nat) : Int)]) Try.underlying54 rfl inf54 rfl rfl (Nat.succ_pos _) (Sl.o h.ed) (eds_get (by first | assumption | omega | (simp; omega) | simp_all))) ?_)
      refine TO.loud rfl (l_alloc inf54 rfl (fun bx4 => ?_))
      refine TO.loud rfl (l_store_box (v := (.agg #[.int .i64 b.edges[k].fr, .int .i64 b.edges[k].to, .int .u8 ((b.edges[k].pos : Nat) : Int), .int .u8 ((b.edges[k].neg : Nat) : Int)])) (vs := [.int .i64 b.edges[k].fr, .int .i64 b.edges[k].to, .int .u8 ((b.edges[k].pos : Nat) : Int), .int .u8 ((b.edges[k].neg : Nat) : Int)]) 0 inf54 rfl rfl rfl rfl rfl rfl (by simp [putL]) ?_)
      refine TO.nil ?_
      refine T.sub (sub_out hqu [oI bx4 54 [.int .i64 b.edges[k].fr, .int .i64 b.edges[k].to, .int .u8 ((b.edges[k].pos : Nat) : Int), .int .u8 ((b.edges[k].neg : Nat) : Int)], oI zG 79 [(.slice (some ⟨zN, 0, none⟩) n n), (.slice (some ⟨zM, 0, none⟩) n n), .int .u64 ((2 ^ b.sets.length - 1 : Nat) : Int)], rowI (some ⟨zN, 0, none⟩) n 22 1 (vals qs), rowI (some ⟨zM, 0, none⟩) n 52 1 (uns ms), oI bx2 79 [(.slice none 0 0), (.slice none 0 0), (.int .u64 0)], oI bx1 26 (buCells b sb sc eb ec tb tc)]) ?_
      refine T.draws [oI bx4 54 [.int .i64 b.edges[k].fr, .int .i64 b.edges[k].to, .int .u8 ((b.edges[k].pos : Nat) : Int), .int .u8 ((b.edges[k].neg : Nat) : Int)], oI zG 79 [(.slice (some ⟨zN, 0, none⟩) n n), (.slice (some ⟨zM, 0, none⟩) n n), .int .u64 ((2 ^ b.sets.length - 1 : Nat) : Int)], rowI (some ⟨zN, 0, none⟩) n 22 1 (vals qs), rowI (some ⟨zM, 0, none⟩) n 52 1 (uns ms), oI bx2 79 [(.slice none 0 0), (.slice none 0 0), (.int .u64 0)], oI bx1 26 (buCells b sb sc eb ec tb tc)] [(0, 0), (1, 0), (2, 0), (3, 0), (4, 0), (5, 0), (6, 0), (7, 0), (8, 0), (9, 0), (10, 0), (11, 0), (12, 1), (13, 1), (14, 0), (15, 2)] mixed (by kernel_rfl) (Sub.pick0 [1, 1, 1, 1, 1, 1] [rowI qs[u].b qs[u].c 3 1 (ints qs[u].xs), oI bx4 54 [.int .i64 b.edges[k].fr, .int .i64 b.edges[k].to, .int .u8 ((b.edges[k].pos : Nat) : Int), .int .u8 ((b.edges[k].neg : Nat) : Int)], oI zG 79 [(.slice (some ⟨zN, 0, none⟩) n n), (.slice (some ⟨zM, 0, none⟩) n n), .int .u64 ((2 ^ b.sets.length - 1 : Nat) : Int)], rowI (some ⟨zN, 0, none⟩) n 22 1 (vals qs), rowI (some ⟨zM, 0, none⟩) n 52 1 (uns ms), oI bx2 79 [(.slice none 0 0), (.slice none 0 0), (.int .u64 0)], oI bx1 26 (buCells b sb sc eb ec tb tc)] (itms 3 (qs.eraseIdx u)) rfl rfl) (fun _ _ _ h => h) ?_
      refine DO.quiet rfl (q_fieldAddr Try.underlying79 rfl inf24 rfl rfl) (DO.quiet rfl (q_load_box 1 Try.underlying24 rfl rfl rfl rfl) (DO.quiet rfl (q_fieldAddr Try.underlying54 rfl inf3 rfl rfl) (DO.quiet rfl (QT.cast (q_load_box 0 Try.underlying3 rfl rfl rfl rfl) (v' := .int .i64 ((u : Nat) : Int)) (by show Value.int _ _ = _; rw [hu])) ?_)))
      refine DO.quiet rfl (q_fieldAddr Try.underlying79 rfl inf24 rfl rfl) (DO.quiet rfl (q_load_box 1 Try.underlying24 rfl rfl rfl rfl) (DO.quiet rfl (q_fieldAddr Try.underlying54 rfl inf3 rfl rfl) (DO.quiet rfl (QT.cast (q_load_box 0 Try.underlying3 rfl rfl rfl rfl) (v' := .int .i64 ((u : Nat) : Int)) (by show Value.int _ _ = _; rw [hu])) ?_)))
      refine DO.quiet rfl (q_ix (i := u) Try.underlying24 inf22 rfl rfl (rowO (List.mem_of_getElem? (i := 2) rfl))) (DO.quiet rfl (q_ld Try.underlying22 rfl rfl (rowO (List.mem_of_getElem? (i := 2) rfl)) (vals_at hqu)) (DO.quiet rfl (q_fieldAddr Try.underlying54 rfl inf3 rfl rfl) (DO.quiet rfl (q_load_box 0 Try.underlying3 rfl rfl rfl rfl) ?_)))
      refine DO.loud rfl rfl (l_build1 (v := .int .i64 b.edges[k].to) Try.underlying22 inf3 rfl rfl rfl (fun bx5 => ⟨Sub.pick0 [2, 2, 2, 2, 2, 2] [rowI (some ⟨bx5, 0, none⟩) 1 3 1 [.int .i64 b.edges[k].to], rowI qs[u].b qs[u].c 3 1 (ints qs[u].xs), oI bx4 54 [.int .i64 b.edges[k].fr, .int .i64 b.edges[k].to, .int .u8 ((b.edges[k].pos : Nat) : Int), .int .u8 ((b.edges[k].neg : Nat) : Int)], oI zG 79 [(.slice (some ⟨zN, 0, none⟩) n n), (.slice (some ⟨zM, 0, none⟩) n n), .int .u64 ((2 ^ b.sets.length - 1 : Nat) : Int)], rowI (some ⟨zN, 0, none⟩) n 22 1 (vals qs), rowI (some ⟨zM, 0, none⟩) n 52 1 (uns ms), oI bx2 79 [(.slice none 0 0), (.slice none 0 0), (.int .u64 0)], oI bx1 26 (buCells b sb sc eb ec tb tc)] (itms 3 (qs.eraseIdx u)) rfl rfl, ?_⟩))
      refine DO.loud rfl rfl (l_append 1 Try.underlying22 Try.underlying22 inf3 rfl rfl rfl rfl (by simp) (by decide) (Src.row (j := 0) rfl (by simp)) (by simp [oneB]) (by omega) (by decide) (by decide) (fun bx6 c7 => ⟨Sub.pick0 [2, 2, 2, 2, 2, 2] [rowI (some ⟨bx5, 0, none⟩) 1 3 1 [.int .i64 b.edges[k].to], rowI bx6 c7 3 1 ((ints qs[u].xs) ++ [.int .i64 b.edges[k].to]), oI bx4 54 [.int .i64 b.edges[k].fr, .int .i64 b.edges[k].to, .int .u8 ((b.edges[k].pos : Nat) : Int), .int .u8 ((b.edges[k].neg : Nat) : Int)], oI zG 79 [(.slice (some ⟨zN, 0, none⟩) n n), (.slice (some ⟨zM, 0, none⟩) n n), .int .u64 ((2 ^ b.sets.length - 1 : Nat) : Int)], rowI (some ⟨zN, 0, none⟩) n 22 1 (vals qs), rowI (some ⟨zM, 0, none⟩) n 52 1 (uns ms), oI bx2 79 [(.slice none 0 0), (.slice none 0 0), (.int .u64 0)], oI bx1 26 (buCells b sb sc eb ec tb tc)] (itms 3 (qs.eraseIdx u)) rfl rfl, ?_⟩))
      refine DO.quiet rfl (q_ix (i := u) Try.underlying24 inf22 rfl rfl (rowO (List.mem_of_getElem? (i := 2) rfl))) ?_
      refine DO.last rfl rfl (l_st (j := u) (v := (.slice bx6 (qs[u].xs.length + 1) c7)) (vs := [(.slice bx6 (qs[u].xs.length + 1) c7)]) (cs := vals qs) 4 inf22 rfl rfl rfl rfl rfl (by simp) rfl (by first | (simp; omega) | (simp_all; omega)) ?_)
      refine DO.sub (O' := ([rowI (some ⟨bx5, 0, none⟩) 1 3 1 [.int .i64 b.edges[k].to], rowI bx6 c7 3 1 ((ints qs[u].xs) ++ [.int .i64 b.edges[k].to]), oI bx4 54 [.int .i64 b.edges[k].fr, .int .i64 b.edges[k].to, .int .u8 ((b.edges[k].pos : Nat) : Int), .int .u8 ((b.edges[k].neg : Nat) : Int)], oI zG 79 [(.slice (some ⟨zN, 0, none⟩) n n), (.slice (some ⟨zM, 0, none⟩) n n), .int .u64 ((2 ^ b.sets.length - 1 : Nat) : Int)], rowI (some ⟨zN, 0, none⟩) n 22 1 (vals (qs.set u ⟨bx6, c7, qs[u].xs ++ [b.edges[k].to]⟩)), rowI (some ⟨zM, 0, none⟩) n 52 1 (uns ms), oI bx2 79 [(.slice none 0 0), (.slice none 0 0), (.int .u64 0)], oI bx1 26 (buCells b sb sc eb ec tb tc)] ++ (itms 3 (qs.eraseIdx u)))) (by rw [show putL (vals qs) u [(.slice bx6 (qs[u].xs.length + 1) c7)] = vals (qs.set u ⟨bx6, c7, qs[u].xs ++ [b.edges[k].to]⟩) from (by simp [putL, Rec.val])]; exact Sub.of (List.Sublist.refl _)) ?_
      refine DO.sub (O' := [rowI bx6 c7 3 1 ((ints qs[u].xs) ++ [.int .i64 b.edges[k].to]), oI bx4 54 [.int .i64 b.edges[k].fr, .int .i64 b.edges[k].to, .int .u8 ((b.edges[k].pos : Nat) : Int), .int .u8 ((b.edges[k].neg : Nat) : Int)], oI zG 79 [(.slice (some ⟨zN, 0, none⟩) n n), (.slice (some ⟨zM, 0, none⟩) n n), .int .u64 ((2 ^ b.sets.length - 1 : Nat) : Int)], rowI (some ⟨zN, 0, none⟩) n 22 1 (vals (qs.set u ⟨bx6, c7, qs[u].xs ++ [b.edges[k].to]⟩)), rowI (some ⟨zM, 0, none⟩) n 52 1 (uns ms), oI bx2 79 [(.slice none 0 0), (.slice none 0 0), (.int .u64 0)], oI bx1 26 (buCells b sb sc eb ec tb tc)] ++ (itms 3 (qs.eraseIdx u))) (Sub.pickR [1, 1, 1, 1, 1, 1, 1] [rowI (some ⟨bx5, 0, none⟩) 1 3 1 [.int .i64 b.edges[k].to], rowI bx6 c7 3 1 ((ints qs[u].xs) ++ [.int .i64 b.edges[k].to]), oI bx4 54 [.int .i64 b.edges[k].fr, .int .i64 b.edges[k].to, .int .u8 ((b.edges[k].pos : Nat) : Int), .int .u8 ((b.edges[k].neg : Nat) : Int)], oI zG 79 [(.slice (some ⟨zN, 0, none⟩) n n), (.slice (some ⟨zM, 0, none⟩) n n), .int .u64 ((2 ^ b.sets.length - 1 : Nat) : Int)], rowI (some ⟨zN, 0, none⟩) n 22 1 (vals (qs.set u ⟨bx6, c7, qs[u].xs ++ [b.edges[k].to]⟩)), rowI (some ⟨zM, 0, none⟩) n 52 1 (uns ms), oI bx2 79 [(.slice none 0 0), (.slice none 0 0), (.int .u64 0)], oI bx1 26 (buCells b sb sc eb ec tb tc)] (itms 3 (qs.eraseIdx u)) rfl rfl) ?_
      refine DO.sub (O' := [oI bx4 54 [.int .i64 b.edges[k].fr, .int .i64 b.edges[k].to, .int .u8 ((b.edges[k].pos : Nat) : Int), .int .u8 ((b.edges[k].neg : Nat) : Int)], oI zG 79 [(.slice (some ⟨zN, 0, none⟩) n n), (.slice (some ⟨zM, 0, none⟩) n n), .int .u64 ((2 ^ b.sets.length - 1 : Nat) : Int)], rowI (some ⟨zN, 0, none⟩) n 22 1 (vals (qs.set u ⟨bx6, c7, qs[u].xs ++ [b.edges[k].to]⟩)), rowI (some ⟨zM, 0, none⟩) n 52 1 (uns ms), oI bx2 79 [(.slice none 0 0), (.slice none 0 0), (.int .u64 0)], oI bx1 26 (buCells b sb sc eb ec tb tc)] ++ (itms 3 (qs.set u ⟨bx6, c7, qs[u].xs ++ [b.edges[k].to]⟩))) (sub_in hqu [oI bx4 54 [.int .i64 b.edges[k].fr, .int .i64 b.edges[k].to, .int .u8 ((b.edges[k].pos : Nat) : Int), .int .u8 ((b.edges[k].neg : Nat) : Int)], oI zG 79 [(.slice (some ⟨zN, 0, none⟩) n n), (.slice (some ⟨zM, 0, none⟩) n n), .int .u64 ((2 ^ b.sets.length - 1 : Nat) : Int)], rowI (some ⟨zN, 0, none⟩) n 22 1 (vals (qs.set u ⟨bx6, c7, qs[u].xs ++ [b.edges[k].to]⟩)), rowI (some ⟨zM, 0, none⟩) n 52 1 (uns ms), oI bx2 79 [(.slice none 0 0), (.slice none 0 0), (.int .u64 0)], oI bx1 26 (buCells b sb sc eb ec tb tc)] ⟨bx6, c7, qs[u].xs ++ [b.edges[k].to]⟩ (by simp)) ?_
      refine DO.done ?_
      refine T.region ?_
      refine TO.quiet (q_addN (a := k) (b := 1) rfl rfl (by omega)) (TO.quiet (q_move rfl) ?_)
      refine TO.nil ?_
      exact ⟨k + 1, by omega, ([oI zG 79 [(.slice (some ⟨zN, 0, none⟩) n n), (.slice (some ⟨zM, 0, none⟩) n n), .int .u64 ((2 ^ b.sets.length - 1 : Nat) : Int)], rowI (some ⟨zN, 0, none⟩) n 22 1 (vals (qs.set u ⟨bx6, c7, qs[u].xs ++ [b.edges[k].to]⟩)), rowI (some ⟨zM, 0, none⟩) n 52 1 (uns ms), oI bx2 79 [(.slice none 0 0), (.slice none 0 0), (.int .u64 0)], oI bx1 26 (buCells b sb sc eb ec tb tc)] ++ (itms 3 (qs.set u ⟨bx6, c7, qs[u].xs ++ [b.edges[k].to]⟩))), (Sub.pickR [1, 1, 1, 1, 1] [oI bx4 54 [.int .i64 b.edges[k].fr, .int .i64 b.edges[k].to, .int .u8 ((b.edges[k].pos : Nat) : Int), .int .u8 ((b.edges[k].neg : Nat) : Int)], oI zG 79 [(.slice (some ⟨zN, 0, none⟩) n n), (.slice (some ⟨zM, 0, none⟩) n n), .int .u64 ((2 ^ b.sets.length - 1 : Nat) : Int)], rowI (some ⟨zN, 0, none⟩) n 22 1 (vals (qs.set u ⟨bx6, c7, qs[u].xs ++ [b.edges[k].to]⟩)), rowI (some ⟨zM, 0, none⟩) n 52 1 (uns ms), oI bx2 79 [(.slice none 0 0), (.slice none 0 0), (.int .u64 0)], oI bx1 26 (buCells b sb sc eb ec tb tc)] (itms 3 (qs.set u ⟨bx6, c7, qs[u].xs ++ [b.edges[k].to]⟩)) rfl rfl), qs.set u ⟨bx6, c7, qs[u].xs ++ [b.edges[k].to]⟩, rfl, by omega, hrw.push hqu b.edges[k].to (fun w y hw => by rw [autR_snoc hlt37]; constructor <;> (rintro (h | h) <;> first | exact .inl h | exact .inr ⟨by omega, by omega⟩)) _ _, ⟨rfl, rfl, rfl, rfl, rfl, rfl, rfl, trivial⟩⟩
    have hge37 : ¬ k < b.edges.length := by omega
    refine T.exit ?_
    refine T.seq (T.region ?_)
    refine TO.quiet (q_load_boxAgg 0 Try.underlying79 rfl inf79 rfl rfl rfl) ?_
    refine TO.loud rfl (l_store_box (v := (.agg #[(.slice (some ⟨zN, 0, none⟩) n n), (.slice (some ⟨zM, 0, none⟩) n n), .int .u64 ((2 ^ b.sets.length - 1 : Nat) : Int)])) (vs := [(.slice (some ⟨zN, 0, none⟩) n n), (.slice (some ⟨zM, 0, none⟩) n n), .int .u64 ((2 ^ b.sets.length - 1 : Nat) : Int)]) 3 inf79 rfl rfl rfl rfl rfl rfl (by simp [putL]) ?_)
    refine TO.nil (T.ret (Res.drop ?_))
    refine Res.cell1 (i := 3) Try.results62 Try.underlying79 rfl inf79 rfl rfl rfl ?_
    have hke : k = b.edges.length := by omega
    subst hke
    rw [List.take_length] at hrw
    exact ⟨[rowI (some ⟨zN, 0, none⟩) n 22 1 (vals qs), rowI (some ⟨zM, 0, none⟩) n 52 1 (uns ms)] ++ itms 3 qs, (Sub.pickR [1, 1] [oI zG 79 [(.slice (some ⟨zN, 0, none⟩) n n), (.slice (some ⟨zM, 0, none⟩) n n), .int .u64 ((2 ^ b.sets.length - 1 : Nat) : Int)], rowI (some ⟨zN, 0, none⟩) n 22 1 (vals qs), rowI (some ⟨zM, 0, none⟩) n 52 1 (uns ms), oI bx2 79 [(.slice (some ⟨zN, 0, none⟩) n n), (.slice (some ⟨zM, 0, none⟩) n n), .int .u64 ((2 ^ b.sets.length - 1 : Nat) : Int)], oI bx1 26 (buCells b sb sc eb ec tb tc)] (itms 3 qs) rfl rfl), _, _, _, _, qs, ms, by rw [hnn]; rfl, by rw [hnn], ⟨by rw [hnn]; exact hrw, by rw [hnn]; exact hml, fun s hs => by rw [hms s (by omega)]; simp⟩⟩
  refine TO.quiet (q_extract (vs := _) rfl rfl) ?_
  refine TO.nil (T.seq ?_)
  refine T.cond1 rfl ?_
  refine T.skip (T.block (T.seq (T.region ?_)))
  refine TO.quiet (q_entryMap (K := KI) (V := VU) rfl (List.mem_of_getElem? (i := 0) rfl)) (TO.quiet (q_extract (vs := _) rfl rfl) (TO.quiet (q_extract (vs := _) rfl rfl) (TO.quiet (q_assign rfl) ?_)))
  refine TO.quiet (q_assign rfl) ?_
  refine TO.nil ?_
  have hml0 := hml
  obtain ⟨x, hx, hxn⟩ : ∃ x : Nat, le.1 = (x : Int) ∧ x < n := by
    obtain ⟨S, hS, hS2⟩ := hin le (hsub le (by rw [hleft]; simp))
    have := hv.se S hS _ hS2
    exact ⟨le.1.toNat, by omega, by omega⟩
  refine T.region ?_
  refine TO.quiet (q_fieldAddr Try.underlying79 rfl inf77 rfl rfl) (TO.quiet (q_load_box 1 Try.underlying77 rfl rfl rfl rfl) (TO.quiet (QT.cast (q_move rfl) (v' := .int .i64 ((x : Nat) : Int)) (by show Value.int _ _ = _; rw [hx])) (TO.quiet (q_move rfl) ?_)))
  refine TO.quiet (q_ix (i := x) Try.underlying77 inf52 rfl rfl (rowO (List.mem_of_getElem? (i := 3) rfl))) ?_
  refine TO.loud rfl (l_st (j := x) (v := .int .u64 ((le.2 : Nat) : Int)) (vs := [(.int .u64 ((le.2 : Nat) : Int))]) (cs := uns ms) 3 inf52 rfl rfl rfl rfl rfl (by simp) rfl (by first | (simp; omega) | (simp_all; omega)) ?_)
  refine TO.sub (O' := [iterI KI VU m it3 l (lA ++ lB) (some le), oI zG 79 [(.slice (some ⟨zN, 0, none⟩) n n), (.slice (some ⟨zM, 0, none⟩) n n), .int .u64 ((2 ^ b.sets.length - 1 : Nat) : Int)], rowI (some ⟨zN, 0, none⟩) n 22 1 (List.replicate n (.slice none 0 0)), rowI (some ⟨zM, 0, none⟩) n 52 1 (uns (ms.set x le.2)), oI bx2 79 [(.slice none 0 0), (.slice none 0 0), (.int .u64 0)], oI bx1 26 (buCells b sb sc eb ec tb tc)]) (by rw [show putL (uns ms) x [(.int .u64 ((le.2 : Nat) : Int))] = uns (ms.set x le.2) from (by simp [putL])]; exact Sub.of (List.Sublist.refl _)) ?_
  refine TO.nil ?_
  subst hleft
  exact ⟨lA ++ lB, by simp, some le, ms.set x le.2, rfl, fun q hq => hsub q (by rcases List.mem_append.1 hq with h | h <;> simp [h]), nodup_mid hnd, by simp [hml], marks_step hml hms hnd (hmp.val (hsub le (by simp))) hx hxn, ⟨rfl, rfl, rfl, rfl, rfl, trivial⟩⟩
end Go.Proofs.Ytnamoapbienooaa


namespace Go.Lx
open Go.RowKit
set_option linter.unusedVariables false
def prodP (l : La) (e : Ed) (j u : Nat) (y : Int) : Prop := mtch e (l.at j) ∧ (u : Int) = e.fr * (l.n : Int) + (j : Int) ∧ y = e.to * (l.n : Int) + (l.ix (j + 1) : Int)
def prodR (es : List Ed) (l : La) (i k : Nat) (u : Nat) (y : Int) : Prop := (∃ j, j < i ∧ ∃ e ∈ es, prodP l e j u y) ∨ ∃ e ∈ es.take k, prodP l e i u y
theorem prodR_hit {es : List Ed} {l : La} {i k : Nat} (hk : k < es.length) {u : Nat} {y : Int} : prodR es l i (k + 1) u y ↔ prodR es l i k u y ∨ prodP l es[k] i u y := by
  unfold prodR
  rw [List.take_succ_eq_append_getElem hk]
  constructor
  · rintro (h | ⟨e, h1, h2⟩)
    · exact .inl (.inl h)
    · rcases List.mem_append.1 h1 with h1 | h1
      · exact .inl (.inr ⟨e, h1, h2⟩)
      · rw [List.mem_singleton] at h1; subst h1; exact .inr h2
  · rintro ((h | ⟨e, h1, h2⟩) | h)
    · exact .inl h
    · exact .inr ⟨e, List.mem_append_left _ h1, h2⟩
    · exact .inr ⟨es[k], List.mem_append_right _ (by simp), h⟩
theorem prodR_row {es : List Ed} {l : La} {i : Nat} {u : Nat} {y : Int} : prodR es l (i + 1) 0 u y ↔ prodR es l i es.length u y := by
  unfold prodR
  rw [List.take_length, List.take_zero]
  constructor
  · rintro (⟨j, h1, h2⟩ | ⟨e, h1, _⟩)
    · by_cases e : j = i
      · subst e; exact .inr h2
      · exact .inl ⟨j, by omega, h2⟩
    · cases h1
  · rintro (⟨j, h1, h2⟩ | h)
    · exact .inl ⟨j, by omega, h2⟩
    · exact .inl ⟨i, by omega, h⟩
structure ProdG (b : Bu) (l : La) (nx : List (List Int)) (ms : List Nat) : Prop where
  r : ∃ B, B ≤ 1000000 ∧ RowsP (b.states.toNat * l.n) (prodR b.edges l l.n 0) B nx
  ll : ms.length = b.states.toNat * l.n
  m : ∀ v, v < b.states.toNat * l.n → ms.getD v 0 = mkN b.sets ((v / l.n : Nat) : Int)
theorem prod_pe {b : Bu} {l : La} (hv : ValidB b) {u v : Nat} : prodR b.edges l l.n 0 u (v : Int) ↔ PE b l u v := by
  have key : ∀ e ∈ b.edges, ∀ j : Nat, ((u : Int) = e.fr * (l.n : Int) + (j : Int) ↔ u = e.fr.toNat * l.n + j) ∧ ((v : Int) = e.to * (l.n : Int) + (l.ix (j + 1) : Int) ↔ v = e.to.toNat * l.n + l.ix (j + 1)) := fun e he j => by
    have h := hv.ed e he
    have e1 : e.fr * (l.n : Int) = ((e.fr.toNat * l.n : Nat) : Int) := by rw [Int.natCast_mul, Int.toNat_of_nonneg h.1.1]
    have e2 : e.to * (l.n : Int) = ((e.to.toNat * l.n : Nat) : Int) := by rw [Int.natCast_mul, Int.toNat_of_nonneg h.2.1]
    rw [e1, e2]; omega
  unfold prodR PE prodP
  constructor
  · rintro (⟨j, h1, e, he, h2, h3, h4⟩ | ⟨e, he, _⟩)
    · exact ⟨e, he, j, h1, h2, ((key e he j).1).1 h3, ((key e he j).2).1 h4⟩
    · simp at he
  · rintro ⟨e, he, j, h1, h2, h3, h4⟩
    exact .inl ⟨j, h1, e, he, h2, ((key e he j).1).2 h3, ((key e he j).2).2 h4⟩
theorem ProdG.ok {b : Bu} {l : La} {nx : List (List Int)} {ms : List Nat} (h : ProdG b l nx ms) (hv : ValidB b) (hl : 0 < l.loop.length) : okRows nx := fun r hr x hx => by
  obtain ⟨i, hi, rfl⟩ := List.mem_iff_getElem.1 hr
  obtain ⟨B, _, hb⟩ := h.r
  have hln := hb.l
  have h1 := (hb.h i x (by omega)).1 (by rw [getD_at hi]; exact hx)
  have h0 : 0 ≤ x := by
    rcases h1 with ⟨j, _, e, he, _, _, rfl⟩ | ⟨e, he, _⟩
    · have := Int.mul_nonneg ((hv.ed e he).2.1) (show (0 : Int) ≤ (l.n : Int) by omega); omega
    · simp at he
  have h2 : PE b l i x.toNat := (prod_pe hv).1 (by rw [Int.toNat_of_nonneg h0]; exact h1)
  have := (h2.lt hv hl).2
  omega
theorem ProdG.adj {b : Bu} {l : La} {nx : List (List Int)} {ms : List Nat} (h : ProdG b l nx ms) (hv : ValidB b) (hl : 0 < l.loop.length) : adjE nx = PE b l := by
  obtain ⟨B, _, hb⟩ := h.r
  funext u v
  apply propext
  constructor
  · rintro ⟨r, h1, h2⟩
    have hu : u < b.states.toNat * l.n := by rw [← hb.l]; exact (List.getElem?_eq_some_iff.1 h1).1
    exact (prod_pe hv).1 ((hb.h u v hu).1 (by rw [List.getD_eq_getElem?_getD, h1]; exact h2))
  · intro hr
    have hu := (hr.lt hv hl).1
    have h1 := (hb.h u v hu).2 ((prod_pe hv).2 hr)
    refine ⟨nx.getD u [], ?_, h1⟩
    rw [List.getD_eq_getElem?_getD, List.getElem?_eq_getElem (by rw [hb.l]; exact hu)]; rfl
theorem ProdG.mrk {b : Bu} {l : La} {nx : List (List Int)} {ms : List Nat} (h : ProdG b l nx ms) : mkM nx ms = PM b l := by
  obtain ⟨B, _, hb⟩ := h.r
  funext k v
  apply propext
  unfold mkM PM
  rw [hb.l]
  constructor
  · rintro ⟨h1, h2⟩
    rw [h.m v h1, mkN_test] at h2
    exact ⟨h1, h2⟩
  · rintro ⟨h1, h2⟩
    exact ⟨h1, by rw [h.m v h1, mkN_test]; exact h2⟩
theorem ProdG.lt {b : Bu} {l : La} {nx : List (List Int)} {ms : List Nat} (h : ProdG b l nx ms) : ∀ x ∈ ms, x < 2 ^ b.sets.length := fun x hx => by
  obtain ⟨i, hi, rfl⟩ := List.mem_iff_getElem.1 hx
  have := h.m i (by rw [← h.ll]; exact hi)
  rw [gd hi] at this
  rw [this]; exact mkN_lt _ _
theorem ProdG.liv {b : Bu} {l : La} {nx : List (List Int)} {ms : List Nat} (h : ProdG b l nx ms) (hv : ValidB b) (hl : 0 < l.loop.length) (v : Nat) : Liv nx ms b.sets.length v ↔ LiveG (PE b l) b.sets.length (PM b l) v := by
  unfold Liv; rw [h.adj hv hl, h.mrk]
open Classical in
noncomputable def accV (b : Bu) (l : La) : Bool := if checkB b = 0 ∧ checkLV b.vars l = 0 then decide (accL b l) else false
def accE (b : Bu) (l : La) : Nat := if checkB b = 0 then checkLV b.vars l else checkB b
open Classical in
noncomputable def livesB (b : Bu) : List Bool := if checkB b = 0 then (List.range b.states.toNat).map (fun v => decide (liveB b v)) else []
theorem livesB_of {b : Bu} (he : checkB b = 0) {ls : List Bool} (hl : ls.length = b.states.toNat) (h : ∀ v, v < b.states.toNat → (ls.getD v false = true ↔ liveB b v)) : ls = livesB b := by
  unfold livesB
  rw [if_pos he]
  apply List.ext_getElem
  · simp [hl]
  · intro i h1 h2
    have := h i (by omega)
    rw [gb h1] at this
    simp only [List.getElem_map, List.getElem_range]
    by_cases hL : liveB b i
    · rw [this.2 hL]; simp [hL]
    · have : ls[i] ≠ true := fun q => hL (this.1 q)
      simp only [Bool.not_eq_true] at this
      rw [this]; simp [hL]
theorem livesB_len {b : Bu} (he : checkB b = 0) : (livesB b).length = b.states.toNat := by unfold livesB; rw [if_pos he]; simp
theorem livesB_get {b : Bu} (he : checkB b = 0) {v : Nat} (hv : v < b.states.toNat) : (livesB b).getD v false = true ↔ liveB b v := by
  unfold livesB; rw [if_pos he]; simp [hv]
open Classical in
theorem acc_any {b : Bu} {l : La} (he : checkB b = 0) (hel : checkLV b.vars l = 0) {ls : List Bool} (h : ∀ s ∈ b.start, (ls.getD (s.toNat * l.n) false = true ↔ LiveG (PE b l) b.sets.length (PM b l) (s.toNat * l.n))) :
    (b.start.any fun s => ls.getD (s.toNat * l.n) false) = accV b l := by
  unfold accV
  rw [if_pos ⟨he, hel⟩]
  by_cases hA : accL b l
  · obtain ⟨s, h1, h2⟩ := hA
    rw [List.any_eq_true.2 ⟨s, h1, (h s h1).2 h2⟩, decide_eq_true ⟨s, h1, h2⟩]
  · rw [decide_eq_false hA, List.any_eq_false]
    intro s hs hh
    exact hA ⟨s, hs, (h s hs).1 hh⟩
theorem checkL_loop {v : Int} {l : La} (h : checkLV v l = 0) : 0 < l.loop.length ∧ l.pre.length ≤ 64 ∧ l.loop.length ≤ 64 ∧ 0 ≤ v ∧ v ≤ 6 ∧ (∀ x ∈ l.pre, x < 2 ^ v.toNat) ∧ ∀ x ∈ l.loop, x < 2 ^ v.toNat := by
  unfold checkLV checkL at h
  split at h; · cases h
  split at h; · cases h
  split at h; · cases h
  split at h
  · rename_i h1 h2 h3 h4
    simp only [Classical.not_not] at h1
    simp only [List.all_eq_true, decide_eq_true_eq] at h4
    exact ⟨by omega, by omega, by omega, h1.1, h1.2, h4.1, h4.2⟩
  · cases h
theorem prod_marks {ms : List Nat} {n L x i e : Nat} {F : Nat → Nat} (hl : ms.length = n * L) (hi : i < L) (hx : x < n) (h : ∀ v, v < n * L → ms.getD v 0 = if v / L = x ∧ v % L < i then e else F v) :
    x * L + i < n * L ∧ ∀ v, v < n * L → (ms.set (x * L + i) e).getD v 0 = if v / L = x ∧ v % L < i + 1 then e else F v := by
  have hlt : x * L + i < n * L := by
    have := Nat.mul_le_mul_right L (show x + 1 ≤ n by omega)
    rw [Nat.succ_mul] at this; omega
  refine ⟨hlt, fun v hv => ?_⟩
  have h1 := fn_set (a := e) (l := ms) (v := x * L + i) (by rw [hl]; exact hlt) v
  rw [show (ms.set (x * L + i) e).getD v 0 = fn (ms.set (x * L + i) e) v from rfl, h1]
  have hd := Nat.div_add_mod v L
  by_cases hv1 : v = x * L + i
  · rw [if_pos hv1, if_pos]
    have h2 : (x * L + i) / L = x := by rw [Nat.mul_comm, Nat.mul_add_div (by omega), Nat.div_eq_of_lt hi, Nat.add_zero]
    have h3 : (x * L + i) % L = i := by rw [Nat.mul_add_mod_self_right, Nat.mod_eq_of_lt hi]
    rw [hv1, h2, h3]; omega
  · rw [if_neg hv1, show fn ms v = ms.getD v 0 from rfl, h v hv]
    by_cases hc : v / L = x ∧ v % L < i
    · rw [if_pos hc, if_pos (by omega)]
    · rw [if_neg hc, if_neg]
      rintro ⟨h2, h3⟩
      by_cases h4 : v % L < i
      · exact hc ⟨h2, h4⟩
      · have : v % L = i := by omega
        rw [h2, this, Nat.mul_comm] at hd
        exact hv1 hd.symm
theorem marks_stepG {F : Int → Nat} {A B : List (Int × Nat)} {e : Int × Nat} (hn : ((A ++ e :: B).map Prod.fst).Nodup) (he : e.2 = F e.1) {x : Nat} (hx : e.1 = (x : Int)) {p g : Nat} (h : g = if (p : Int) ∈ (A ++ e :: B).map Prod.fst then 0 else F p) :
    (if p = x then e.2 else g) = if (p : Int) ∈ (A ++ B).map Prod.fst then 0 else F p := by
  simp only [List.map_append, List.map_cons, List.nodup_append, List.nodup_cons, List.mem_cons] at hn
  by_cases es : p = x
  · subst es
    rw [if_pos rfl, if_neg, he, hx]
    rw [List.map_append, List.mem_append, ← hx]
    rintro (h2 | h2)
    · exact hn.2.2 _ h2 _ (.inl rfl) rfl
    · exact hn.2.1.1 h2
  · rw [if_neg es, h]
    have : ¬ (p : Int) = e.1 := by rw [hx]; omega
    by_cases hm : (p : Int) ∈ (A ++ B).map Prod.fst
    · rw [if_pos hm, if_pos]
      rw [List.map_append, List.mem_append] at hm ⊢
      rcases hm with hm | hm
      · exact .inl hm
      · exact .inr (List.mem_cons_of_mem _ hm)
    · rw [if_neg hm, if_neg]
      rw [List.map_append, List.mem_append] at hm ⊢
      rintro (h2 | h2)
      · exact hm (.inl h2)
      · rw [List.map_cons, List.mem_cons] at h2
        exact h2.elim this (fun h3 => hm (.inr h3))
end Go.Lx


namespace Go.Proofs.Ytnamoapbienooaa
open Go.Lx Go.RowKit
set_option linter.unusedVariables false
set_option linter.unusedSimpArgs false
set_option maxHeartbeats 1000000 in
set_option maxRecDepth 20000 in
theorem livesF (w : World) (b : Bu) (sb eb tb : Option Addr) (sc ec tc : Nat) (vs : List Value) (h : BuAt w b sb eb tb vs) (hB : BuB b) :
    PureT Try.prog 19 [.agg (buCells b sb sc eb ec tb tc).toArray] w fun v N => ∃ lb lc, v = .tuple #[.slice lb (livesB b).length lc, .int .i64 (checkB b : Int)] ∧ N = [rowI lb lc 4 1 (bools (livesB b))] := by
  refine CallT.enter Try.func19 rfl Try.ntmps19 rfl ?_
  refine T.seq (T.region ?_)
  refine TO.loud rfl (l_box (v := (.agg (buCells b sb sc eb ec tb tc).toArray)) (cs := (buCells b sb sc eb ec tb tc)) rfl rfl (fun bx1 => ?_))
  refine TO.quiet (q_assign rfl) (TO.quiet (q_assign rfl) ?_)
  refine TO.nil (T.seq (T.seq (T.region ?_)))
  refine TO.quiet (q_load_boxAgg 0 Try.underlying26 rfl inf26 rfl rfl rfl) ?_
  have hk8 := fun (w1 : World) (hI : Inv w [oI bx1 26 (buCells b sb sc eb ec tb tc)] w1) => checkF w1 b sb eb tb sc ec tc vs (hI.bu h) hB
  refine TO.loud rfl (l_call ent21 (CallT.of_pure hk8) rfl ?_)
  clear hk8
  rintro vr O' ⟨N, rfl, rfl, rfl⟩
  refine TO.quiet (q_assign rfl) ?_
  refine TO.nil (T.seq (T.region ?_))
  refine TO.quiet (q_move rfl) (TO.quiet (q_neq rfl rfl) ?_)
  refine TO.nil ?_
  refine T.condP rfl (fun hc => ?_) (fun hc => ?_)
  · have hlt10 : checkB b ≠ 0 := by omega
    refine T.seq ?_
    refine T.nilRow 4 1 ?_
    refine T.region ?_
    refine TO.quiet (q_move rfl) (TO.quiet (q_assign rfl) (TO.quiet (q_assign rfl) ?_))
    refine TO.nil (T.ret (Res.drop ?_))
    refine Res.two (.slice none 0 0) (.int .i64 (checkB b : Int)) Try.results19 rfl rfl ?_
    exact ⟨[rowI none 0 4 1 []], (Sub.pick [0] rfl), none, 0, by unfold livesB; rw [if_neg hlt10]; rfl, by unfold livesB; rw [if_neg hlt10]; rfl⟩
  have hge10 : ¬ checkB b ≠ 0 := by omega
  refine T.skip (T.seq ?_)
  have hv : ValidB b := checkB_zero.1 (by omega)
  have hn4 := hv.n4
  have hed := hB.ed
  refine T.region ?_
  refine TO.quiet (q_load_boxAgg 0 Try.underlying26 rfl inf26 rfl rfl rfl) ?_
  have hk14 := fun (w1 : World) (hI : Inv w [oI bx1 26 (buCells b sb sc eb ec tb tc)] w1) => automatonF w1 b sb eb tb sc ec tc vs (hI.bu h) hB hv
  refine TO.loud rfl (l_call ent62 (CallT.of_pure hk14) rfl ?_)
  clear hk14
  rintro vr O' ⟨N, rfl, nb2, nc2, mb2, mc2, qs, ms, rfl, rfl, hg⟩
  refine TO.sub (O' := ([rowI nb2 b.states.toNat 22 1 (vals qs), rowI mb2 b.states.toNat 52 1 (uns ms), oI bx1 26 (buCells b sb sc eb ec tb tc)] ++ (itms 3 qs))) (Sub.cnt [] (by intro a; simp only [itms, oI, List.set_cons_zero, List.set_cons_succ, putL, List.cons_append, List.nil_append, List.append_nil, List.append_assoc, List.map_append, List.map_cons, List.map_nil, cnt_append, cnt_cons, cnt_nil, buCells, laCells] <;> omega)) ?_
  have hk15 := fun (w1 : World) (hI : Inv w ([rowI nb2 b.states.toNat 22 1 (vals qs), rowI mb2 b.states.toNat 52 1 (uns ms), oI bx1 26 (buCells b sb sc eb ec tb tc)] ++ (itms 3 qs)) w1) => (by
    have hL := liveF w1 nb2 mb2 nc2 mc2 (vals qs) (nums qs) ms b.sets.length (hI.slOf (List.mem_of_getElem? (i := 0) rfl)) (Inv.recs (E := 3) hI (fun q hq => List.mem_append_right _ (List.mem_map.2 ⟨q, hq, rfl⟩))) (by rw [hg.r.l]; omega) (fun r hr => by obtain ⟨i, hi, rfl⟩ := List.mem_iff_getElem.1 hr; have h9 := hg.r.b i; rw [getD_at hi] at h9; omega) (hg.ok hv) (hI.slOf (List.mem_of_getElem? (i := 1) rfl)) (by rw [hg.l, hg.r.l]) hg.lt hv.m8
    rw [hg.r.l, hg.l] at hL; exact hL)
  refine TO.loud rfl (l_call ent55 (CallT.of_pure hk15) rfl ?_)
  clear hk15
  rintro vr O' ⟨N, rfl, lb, lc, kb, kc, ls, co, rfl, rfl, hll, hlc, hlv⟩
  refine TO.quiet (q_move rfl) (TO.quiet (q_extract (vs := _) rfl rfl) (TO.quiet (q_extract (vs := _) rfl rfl) (TO.quiet (q_assign rfl) ?_)))
  refine TO.quiet (q_assign rfl) ?_
  refine TO.nil (T.seq (T.region ?_))
  refine TO.quiet (q_move rfl) (TO.quiet (q_assign rfl) (TO.quiet (q_assign rfl) ?_))
  refine TO.nil (T.ret (Res.drop ?_))
  refine Res.two (.slice lb b.states.toNat lc) (.int .i64 0) Try.results19 rfl rfl ?_
  have he : checkB b = 0 := by omega
  have hls := livesB_of he hll (fun v hv9 => (hlv v hv9).1.trans (hg.liv hv v))
  exact ⟨[rowI lb lc 4 1 (bools ls)], (Sub.pick0 [0] [rowI lb lc 4 1 (bools ls), rowI kb kc 4 1 (bools co), rowI nb2 b.states.toNat 22 1 (vals qs), rowI mb2 b.states.toNat 52 1 (uns ms), oI bx1 26 (buCells b sb sc eb ec tb tc)] (itms 3 qs) rfl rfl), lb, lc, by rw [← hls, hll, he]; rfl, by rw [← hls]⟩
end Go.Proofs.Ytnamoapbienooaa


namespace Go.Proofs.Ytnamoapbienooaa
open Go.Lx Go.RowKit
set_option linter.unusedVariables false
set_option linter.unusedSimpArgs false
set_option maxHeartbeats 1000000 in
set_option maxRecDepth 20000 in
theorem fullF (w : World) (l : La) (pb lb : Option Addr) (pc lc : Nat) (h0 : 0 < l.loop.length) :
    PureT Try.prog 79 [.agg (laCells l pb pc lb lc).toArray] w fun z N => z = .agg (laCells l pb pc lb lc).toArray ∧ N = [] := by
  refine CallT.enter Try.func79 rfl Try.ntmps79 rfl ?_
  refine T.seq (T.region ?_)
  refine TO.loud rfl (l_box (v := (.agg (laCells l pb pc lb lc).toArray)) (cs := (laCells l pb pc lb lc)) rfl rfl (fun bx1 => ?_))
  refine TO.loud rfl (l_alloc inf29 rfl (fun bx2 => ?_))
  refine TO.nil (T.seq (T.seq (T.region ?_)))
  refine TO.quiet (q_fieldAddr Try.underlying29 rfl inf27 rfl rfl) (TO.quiet (q_load_box 1 Try.underlying27 rfl rfl rfl rfl) (TO.quiet (q_len Try.underlying27 rfl) (TO.quiet (QT.toB (q_eql rfl rfl) (decide_eq_false (show ¬ ((l.loop.length : Int) = 0) by omega))) ?_)))
  refine TO.nil ?_
  refine T.cond0 rfl ?_
  refine T.skip (T.seq (T.region ?_))
  refine TO.quiet (q_load_boxAgg 1 Try.underlying29 rfl inf29 rfl rfl rfl) ?_
  refine TO.loud rfl (l_store_box (v := (.agg (laCells l pb pc lb lc).toArray)) (vs := (laCells l pb pc lb lc)) 0 inf29 rfl rfl rfl rfl rfl rfl (by simp [putL]) ?_)
  refine TO.nil (T.ret (Res.drop ?_))
  refine Res.cell1 (i := 0) Try.results79 Try.underlying29 rfl inf29 rfl rfl rfl ?_
  exact ⟨[], Sub.of (List.nil_sublist _), rfl, rfl⟩
set_option maxHeartbeats 1000000 in
set_option maxRecDepth 20000 in
theorem indexF (w : World) (l : La) (pb lb : Option Addr) (pc lc : Nat) (h : LaAt w l pb lb pc lc) (hL : LaB l) (i : Nat) (hi : i ≤ 1000000000000) :
    PureT Try.prog 54 [.agg (laCells l pb pc lb lc).toArray, .int .i64 (i : Int)] w fun z N => z = .int .i64 ((l.ix i : Nat) : Int) ∧ N = [] := by
  refine CallT.enter Try.func54 rfl Try.ntmps54 rfl ?_
  have hpl := hL.pre; have hll := hL.loop
  have hml := Nat.mod_le (i - l.pre.length) (max l.loop.length 1)
  refine T.seq (T.region ?_)
  refine TO.loud rfl (l_box (v := (.agg (laCells l pb pc lb lc).toArray)) (cs := (laCells l pb pc lb lc)) rfl rfl (fun bx1 => ?_))
  refine TO.quiet (q_assign rfl) ?_
  refine TO.nil (T.seq (T.region ?_))
  refine TO.quiet (q_fieldAddr Try.underlying29 rfl inf27 rfl rfl) (TO.quiet (q_load_box 0 Try.underlying27 rfl rfl rfl rfl) (TO.quiet (q_len Try.underlying27 rfl) (TO.quiet (q_assign rfl) ?_)))
  refine TO.nil (T.seq (T.seq (T.region ?_)))
  refine TO.quiet (q_move rfl) (TO.quiet (q_move rfl) (TO.quiet (q_lss rfl rfl) ?_))
  refine TO.nil ?_
  refine T.condP rfl (fun hc => ?_) (fun hc => ?_)
  · have hlt11 : i < l.pre.length := by omega
    refine T.seq (T.region ?_)
    refine TO.quiet (q_move rfl) (TO.quiet (QT.cast (q_maxN (a := i) (b := 0) rfl rfl) (v' := .int .i64 ((l.ix i : Nat) : Int)) (by rw [La.ix_pre hlt11, Nat.max_zero])) (TO.quiet (q_assign rfl) ?_))
    refine TO.nil (T.ret (Res.drop ?_))
    refine Res.one (.int .i64 ((l.ix i : Nat) : Int)) Try.results54 rfl ?_
    exact ⟨[], Sub.of (List.nil_sublist _), rfl, rfl⟩
  have hge11 : ¬ i < l.pre.length := by omega
  refine T.skip (T.seq (T.region ?_))
  refine TO.quiet (q_move rfl) (TO.quiet (q_move rfl) (TO.quiet (q_move rfl) (TO.quiet (q_subN (a := i) (b := l.pre.length) rfl rfl (by omega) (by omega)) ?_)))
  refine TO.quiet (q_fieldAddr Try.underlying29 rfl inf27 rfl rfl) (TO.quiet (q_load_box 0 Try.underlying27 rfl rfl rfl rfl) (TO.quiet (q_len Try.underlying27 rfl) (TO.quiet (q_maxN (a := l.loop.length) (b := 1) rfl rfl) ?_)))
  refine TO.quiet (q_remN (a := (i - l.pre.length)) (b := (max l.loop.length 1)) rfl rfl (by omega)) (TO.quiet (q_addN (a := l.pre.length) (b := ((i - l.pre.length) % (max l.loop.length 1))) rfl rfl (by omega)) (TO.quiet (q_assign rfl) ?_))
  refine TO.nil (T.ret (Res.drop ?_))
  refine Res.one (.int .i64 ((l.pre.length + ((i - l.pre.length) % (max l.loop.length 1)) : Nat) : Int)) Try.results54 rfl ?_
  exact ⟨[], Sub.of (List.nil_sublist _), congrArg (fun z : Nat => Value.int .i64 (z : Int)) (by unfold La.ix; rw [if_neg hge11]), rfl⟩
set_option maxHeartbeats 1000000 in
set_option maxRecDepth 20000 in
theorem atF (w : World) (l : La) (pb lb : Option Addr) (pc lc : Nat) (h : LaAt w l pb lb pc lc) (hL : LaB l) (h0 : 0 < l.loop.length) (i : Nat) (hi : i ≤ 1000000000000) :
    PureT Try.prog 34 [.agg (laCells l pb pc lb lc).toArray, .int .i64 (i : Int)] w fun z N => z = .int .u8 ((l.at i : Nat) : Int) ∧ N = [] := by
  refine CallT.enter Try.func34 rfl Try.ntmps34 rfl ?_
  have hpl := hL.pre; have hll := hL.loop
  have hixl := La.ix_lt h0 i
  have hn : l.n = l.pre.length + l.loop.length := rfl
  have hlo : l.pre.length ≤ l.ix i → ∃ hx : l.ix i - l.pre.length < l.loop.length, l.loop[l.ix i - l.pre.length] = l.at i := fun hh => by
    by_cases e : i < l.pre.length
    · rw [La.ix_pre e] at hh; omega
    · refine ⟨by omega, ?_⟩
      rw [La.at_loop h0 (by omega)]; congr 1; rw [La.ix_loop h0 (by omega)]; omega
  have hpr : l.ix i < l.pre.length → ∃ hx : i < l.pre.length, l.ix i = i := fun hh => by
    by_cases e : i < l.pre.length
    · exact ⟨e, La.ix_pre e⟩
    · rw [La.ix_loop h0 (by omega)] at hh; omega
  refine T.seq (T.region ?_)
  refine TO.loud rfl (l_box (v := (.agg (laCells l pb pc lb lc).toArray)) (cs := (laCells l pb pc lb lc)) rfl rfl (fun bx1 => ?_))
  refine TO.quiet (q_assign rfl) ?_
  refine TO.nil (T.seq (T.seq (T.region ?_)))
  refine TO.quiet (q_move rfl) (TO.quiet (q_lss rfl rfl) ?_)
  refine TO.nil ?_
  refine T.cond0 (congrArg Value.bool (decide_eq_false (by omega))) ?_
  refine T.skip (T.seq (T.region ?_))
  refine TO.quiet (q_load_boxAgg 0 Try.underlying29 rfl inf29 rfl rfl rfl) ?_
  have hk9 := fun (w1 : World) (hI : Inv w [oI bx1 29 (laCells l pb pc lb lc)] w1) => fullF w1 l pb lb pc lc h0
  refine TO.loud rfl (l_call ent79 (CallT.of_pure hk9) rfl ?_)
  clear hk9
  rintro vr O' ⟨N, rfl, rfl, rfl⟩
  refine TO.loud rfl (l_store_box (v := (.agg (laCells l pb pc lb lc).toArray)) (vs := (laCells l pb pc lb lc)) 0 inf29 rfl rfl rfl rfl rfl rfl (by simp [putL]) ?_)
  refine TO.nil (T.seq (T.seq ?_))
  refine T.draws _ [(0, 0), (1, 0), (3, 0), (4, 0), (5, 0), (2, 1), (6, 0), (7, 0)] mixed (by kernel_rfl) (Sub.of (List.Sublist.refl _)) (fun _ _ _ h => h) ?_
  refine DO.quiet rfl (q_load_boxAgg 0 Try.underlying29 rfl inf29 rfl rfl rfl) (DO.quiet rfl (q_move rfl) (DO.quiet rfl (q_fieldAddr Try.underlying29 rfl inf27 rfl rfl) (DO.quiet rfl (q_load_box 0 Try.underlying27 rfl rfl rfl rfl) ?_)))
  refine DO.quiet rfl (q_len Try.underlying27 rfl) ?_
  have hk12 := fun (w1 : World) (hI : Inv w [oI bx1 29 (laCells l pb pc lb lc)] w1) => indexF w1 l pb lb pc lc (hI.la h) hL i hi
  refine DO.loud rfl rfl (l_call ent54 (CallT.of_pure hk12) rfl ?_)
  clear hk12
  rintro vr O' ⟨N, rfl, rfl, rfl⟩
  refine ⟨Sub.pick [0] rfl, ?_⟩
  refine DO.quiet rfl (q_sub64 rfl rfl (by omega)) (DO.quiet rfl (q_assign rfl) ?_)
  refine DO.done ?_
  refine T.seq (T.region ?_)
  refine TO.quiet (q_move rfl) (TO.quiet (q_geq rfl rfl) ?_)
  refine TO.nil ?_
  refine T.condP rfl (fun hc => ?_) (fun hc => ?_)
  · obtain ⟨hx1, hx2⟩ := hlo (by omega)
    refine T.seq (T.region ?_)
    refine TO.quiet (q_fieldAddr Try.underlying29 rfl inf27 rfl rfl) (TO.quiet (q_load_box 0 Try.underlying27 rfl rfl rfl rfl) (TO.quiet (QT.cast (q_move rfl) (v' := .int .i64 ((l.ix i - l.pre.length : Nat) : Int)) (by show Value.int _ _ = _; congr 1; omega)) (TO.quiet (q_ix (i := (l.ix i - l.pre.length)) Try.underlying27 inf5 rfl rfl (Sl.o h.loop) hx1 (by rw [List.length_map]; exact hx1)) ?_)))
    refine TO.quiet (q_ld Try.underlying5 rfl rfl (Sl.o h.loop) (show (byts l.loop)[l.ix i - l.pre.length]? = _ by rw [byts_get hx1, hx2])) (TO.quiet (q_assign rfl) ?_)
    refine TO.nil (T.ret (Res.drop ?_))
    refine Res.one (.int .u8 ((l.at i : Nat) : Int)) Try.results34 rfl ?_
    exact ⟨[], Sub.of (List.nil_sublist _), rfl, rfl⟩
  obtain ⟨hx1, hx2⟩ := hpr (by omega)
  refine T.skip (T.seq (T.region ?_))
  refine TO.quiet (q_fieldAddr Try.underlying29 rfl inf27 rfl rfl) (TO.quiet (q_load_box 0 Try.underlying27 rfl rfl rfl rfl) (TO.quiet (q_move rfl) (TO.quiet (q_ix (i := i) Try.underlying27 inf5 rfl rfl (Sl.o h.pre) hx1 (by rw [List.length_map]; exact hx1)) ?_)))
  refine TO.quiet (q_ld Try.underlying5 rfl rfl (Sl.o h.pre) (show (byts l.pre)[i]? = _ by rw [byts_get hx1, ← La.at_pre hx1])) (TO.quiet (q_assign rfl) ?_)
  refine TO.nil (T.ret (Res.drop ?_))
  refine Res.one (.int .u8 ((l.at i : Nat) : Int)) Try.results34 rfl ?_
  exact ⟨[], Sub.of (List.nil_sublist _), rfl, rfl⟩
set_option maxHeartbeats 1000000 in
set_option maxRecDepth 20000 in
theorem hasF (w : World) (e : Ed) (hp : e.pos < 256) (hn : e.neg < 256) (x : Nat) (hx : x < 256) :
    PureT Try.prog 100 [.agg #[.int .u8 (e.pos : Int), .int .u8 (e.neg : Int)], .int .u8 (x : Int)] w fun z N => z = .bool (decide (mtch e x)) ∧ N = [] := by
  refine CallT.enter Try.func100 rfl Try.ntmps100 rfl ?_
  refine T.seq (T.region ?_)
  refine TO.loud rfl (l_box (v := (.agg #[.int .u8 ((e.pos : Nat) : Int), .int .u8 ((e.neg : Nat) : Int)])) (cs := [.int .u8 ((e.pos : Nat) : Int), .int .u8 ((e.neg : Nat) : Int)]) rfl rfl (fun bx1 => ?_))
  refine TO.quiet (q_assign rfl) ?_
  refine TO.nil (T.seq (T.region ?_))
  refine TO.quiet (q_move rfl) (TO.quiet (q_fieldAddr Try.underlying116 rfl inf5 rfl rfl) (TO.quiet (q_load_box 0 Try.underlying5 rfl rfl rfl rfl) (TO.quiet (q_and (a := x) (b := e.pos) .u8 rfl rfl (by show _ < 256; omega) (by show _ < 256; omega)) ?_)))
  refine TO.quiet (q_fieldAddr Try.underlying116 rfl inf5 rfl rfl) (TO.quiet (q_load_box 0 Try.underlying5 rfl rfl rfl rfl) (TO.quiet (q_eql rfl rfl) ?_))
  by_cases hs12 : ((x &&& e.pos : Nat) : Int) = ((e.pos : Nat) : Int)
  · refine TO.quiet (QT.toB (q_move rfl) (decide_eq_true hs12)) ?_
    refine TO.guarded rfl rfl rfl (LT.of_quiet rfl rfl (q_move rfl) ?_)
    refine TO.guarded rfl rfl rfl (LT.of_quiet rfl rfl (q_fieldAddr Try.underlying116 rfl inf5 rfl rfl) ?_)
    refine TO.guarded rfl rfl rfl (LT.of_quiet rfl rfl (q_load_box 0 Try.underlying5 rfl rfl rfl rfl) ?_)
    refine TO.guarded rfl rfl rfl (LT.of_quiet rfl rfl (q_and (a := x) (b := e.neg) .u8 rfl rfl (by show _ < 256; omega) (by show _ < 256; omega)) ?_)
    refine TO.guarded rfl rfl rfl (LT.of_quiet rfl rfl (q_eql rfl rfl) ?_)
    refine TO.quiet (q_pick1 rfl rfl) (TO.quiet (q_assign rfl) ?_)
    refine TO.nil (T.ret (Res.drop ?_))
    refine Res.one (.bool (decide (((x &&& e.neg : Nat) : Int) = 0))) Try.results100 rfl ?_
    exact ⟨[], Sub.of (List.nil_sublist _), congrArg Value.bool (Eq.symm (decide_eq_decide.2 (by unfold mtch; omega))), rfl⟩
  refine TO.quiet (QT.toB (q_move rfl) (decide_eq_false hs12)) ?_
  refine TO.passed rfl rfl ?_
  refine TO.passed rfl rfl ?_
  refine TO.passed rfl rfl ?_
  refine TO.passed rfl rfl ?_
  refine TO.passed rfl rfl ?_
  refine TO.quiet (q_pick0 rfl rfl) (TO.quiet (q_assign rfl) ?_)
  refine TO.nil (T.ret (Res.drop ?_))
  refine Res.one (.bool false) Try.results100 rfl ?_
  exact ⟨[], Sub.of (List.nil_sublist _), congrArg Value.bool (Eq.symm (decide_eq_false (fun hm => by unfold mtch at hm; omega))), rfl⟩
end Go.Proofs.Ytnamoapbienooaa


namespace Go.Proofs.Ytnamoapbienooaa
open Go.Lx Go.RowKit
set_option linter.unusedVariables false
set_option linter.unusedSimpArgs false
set_option maxHeartbeats 1000000 in
set_option maxRecDepth 20000 in
theorem matchingF (w : World) (b : Bu) (sb eb tb : Option Addr) (sc ec tc : Nat) (vs : List Value) (h : BuAt w b sb eb tb vs) (hB : BuB b) (x : Nat) :
    PureT Try.prog 53 [.agg (buCells b sb sc eb ec tb tc).toArray, .int .u8 (x : Int)] w fun v N => ∃ bx cx, v = .func (.func 99) #[] #[.pointer (some ⟨bx, 0, none⟩), .pointer (some ⟨cx, 0, none⟩)] ∧ N = [oI bx 26 (buCells b sb sc eb ec tb tc), oI cx 5 [(.int .u8 (x : Int))]] := by
  refine CallT.enter Try.func53 rfl Try.ntmps53 rfl ?_
  refine T.seq (T.region ?_)
  refine TO.loud rfl (l_box (v := (.agg (buCells b sb sc eb ec tb tc).toArray)) (cs := (buCells b sb sc eb ec tb tc)) rfl rfl (fun bx1 => ?_))
  refine TO.loud rfl (l_box (v := .int .u8 (x : Int)) (cs := [(.int .u8 (x : Int))]) rfl rfl (fun bx2 => ?_))
  refine TO.quiet (q_assign rfl) ?_
  refine TO.nil (T.seq (T.region ?_))
  refine TO.quiet (q_makeFunc) (TO.quiet (q_assign rfl) ?_)
  refine TO.nil (T.ret (Res.drop ?_))
  refine Res.one (.func (.func 99) #[] #[(.pointer (some ⟨bx1, 0, none⟩)), (.pointer (some ⟨bx2, 0, none⟩))]) Try.results53 rfl ?_
  exact ⟨[oI bx1 26 (buCells b sb sc eb ec tb tc), oI bx2 5 [(.int .u8 (x : Int))]], (Sub.pick [1, 0] rfl), _, _, rfl, rfl⟩
set_option maxHeartbeats 1000000 in
set_option maxRecDepth 20000 in
theorem match1 (base : World) (b : Bu) (sb eb tb : Option Addr) (sc ec tc : Nat) (vs : List Value) (h : BuAt base b sb eb tb vs) (hB : BuB b) (bx cx x : Nat) (hx : x < 256) (yv : Value) (J : Nat → List Lx.Item → Prop) (Q : List Lx.Item → Prop)
    (hno : ∀ k (hk : k < b.edges.length), ¬ mtch b.edges[k] x → ∀ O, J k O → J (k + 1) O)
    (hy : ∀ k (hk : k < b.edges.length) (O : List Lx.Item), mtch b.edges[k] x → J k O → CallV Try.prog base yv [(.agg #[.int .i64 b.edges[k].fr, .int .i64 b.edges[k].to, .int .u8 ((b.edges[k].pos : Nat) : Int), .int .u8 ((b.edges[k].neg : Nat) : Int)])] O (fun v O' => (v = .bool true ∧ J (k + 1) O') ∨ (v = .bool false ∧ Q O')))
    (O : List Lx.Item) (h0 : J 0 O) : CallT Try.prog base 99 [yv, .pointer (some ⟨bx, 0, none⟩), .pointer (some ⟨cx, 0, none⟩)] (oI bx 26 (buCells b sb sc eb ec tb tc) :: oI cx 5 [(.int .u8 (x : Int))] :: O) (fun _ O' => J b.edges.length O' ∨ Q O') := by
  refine CallT.enter Try.func99 rfl Try.ntmps99 rfl ?_
  have hed := hB.ed
  refine T.seq (T.region ?_)
  refine TO.quiet (q_fieldAddr Try.underlying26 rfl inf23 rfl rfl) (TO.quiet (q_load_box 0 Try.underlying23 rfl rfl rfl rfl) (TO.quiet (q_len Try.underlying23 rfl) (TO.quiet (q_move rfl) ?_)))
  refine TO.nil (T.block ?_)
  refine T.loop (fun (k : Nat) ρ O => ∃ (O1 : List Lx.Item), O = ([oI bx 26 (buCells b sb sc eb ec tb tc), oI cx 5 [(.int .u8 (x : Int))]] ++ O1) ∧ k ≤ b.edges.length ∧ J k O1 ∧ Heads [(0, yv), (1, (.pointer (some ⟨bx, 0, none⟩))), (2, (.pointer (some ⟨cx, 0, none⟩))), (7, (.slice eb b.edges.length ec)), (8, .int .i64 (b.edges.length : Int)), (9, .int .i64 (k : Int))] ρ) (fun k => b.edges.length - k) 0 ?_ ?_
  · exact ⟨O, rfl, Nat.zero_le _, h0, ⟨rfl, rfl, rfl, rfl, rfl, rfl, trivial⟩⟩
  rintro k ρ O ⟨O1, rfl, hk, hJ, hH⟩
  obtain ⟨ρ0, rfl⟩ := hH.elim
  clear hH
  refine T.seq (T.region ?_)
  refine TO.quiet (q_lss rfl rfl) ?_
  refine TO.nil (T.seq ?_)
  refine T.condP rfl (fun hc => ?_) (fun hc => ?_)
  · have hlt10 : k < b.edges.length := by omega
    have hpn := hB.pn _ (List.getElem_mem hlt10)
    refine T.skip (T.seq (T.block (T.seq (T.region ?_))))
    refine TO.quiet (q_ixK (i := k) Try.underlying23 inf54 rfl rfl (Sl.o h.ed) (by first | assumption | omega | (simp; omega) | simp_all) (by first | (rw [eds_len]; omega) | (simp [eds_len]; omega) | (simp_all [eds_len]; omega))) (TO.quiet (q_ldK (vs := [.int .i64 b.edges[k].fr, .int .i64 b.edges[k].to, .int .u8 ((b.edges[k].pos : Nat) : Int), .int .u8 ((b.edges[k].neg : Nat) : Int)]) Try.underlying54 rfl inf54 rfl rfl (Nat.succ_pos _) (Sl.o h.ed) (eds_get (by first | assumption | omega | (simp; omega) | simp_all))) ?_)
    refine TO.loud rfl (l_alloc inf54 rfl (fun bx1 => ?_))
    refine TO.loud rfl (l_store_box (v := (.agg #[.int .i64 b.edges[k].fr, .int .i64 b.edges[k].to, .int .u8 ((b.edges[k].pos : Nat) : Int), .int .u8 ((b.edges[k].neg : Nat) : Int)])) (vs := [.int .i64 b.edges[k].fr, .int .i64 b.edges[k].to, .int .u8 ((b.edges[k].pos : Nat) : Int), .int .u8 ((b.edges[k].neg : Nat) : Int)]) 0 inf54 rfl rfl rfl rfl rfl rfl (by simp [putL]) ?_)
    refine TO.nil (T.seq (T.region ?_))
    refine TO.quiet (q_fieldAddr Try.underlying54 rfl inf5 rfl rfl) (TO.quiet (q_load_box 0 Try.underlying5 rfl rfl rfl rfl) (TO.quiet (q_fieldAddr Try.underlying54 rfl inf5 rfl rfl) (TO.quiet (q_load_box 0 Try.underlying5 rfl rfl rfl rfl) ?_)))
    refine TO.quiet (q_build (cs := [.int .u8 ((b.edges[k].pos : Nat) : Int), .int .u8 ((b.edges[k].neg : Nat) : Int)]) plan116 inf116 (by kernel_rfl)) (TO.quiet (q_load_box 2 Try.underlying5 rfl rfl rfl rfl) ?_)
    have hk19 := fun (w1 : World) (hI : Inv base ([oI bx1 54 [.int .i64 b.edges[k].fr, .int .i64 b.edges[k].to, .int .u8 ((b.edges[k].pos : Nat) : Int), .int .u8 ((b.edges[k].neg : Nat) : Int)], oI bx 26 (buCells b sb sc eb ec tb tc), oI cx 5 [(.int .u8 (x : Int))]] ++ O1) w1) => hasF w1 b.edges[k] hpn.1 hpn.2 x hx
    refine TO.loud rfl (l_call ent100 (CallT.of_pure hk19) rfl ?_)
    clear hk19
    rintro vr O' ⟨N, rfl, rfl, rfl⟩
    by_cases hs20 : mtch b.edges[k] x
    · refine TO.quiet (QT.toB (q_move rfl) (decide_eq_true hs20)) ?_
      refine TO.guarded rfl rfl rfl (LT.of_quiet rfl rfl (q_move rfl) ?_)
      refine TO.guarded rfl rfl rfl (LT.of_quiet rfl rfl (q_load_boxAgg 0 Try.underlying54 rfl inf54 rfl rfl rfl) ?_)
      have hk23 := CallV.under (B := [oI bx1 54 [.int .i64 b.edges[k].fr, .int .i64 b.edges[k].to, .int .u8 ((b.edges[k].pos : Nat) : Int), .int .u8 ((b.edges[k].neg : Nat) : Int)], oI bx 26 (buCells b sb sc eb ec tb tc), oI cx 5 [(.int .u8 (x : Int))]]) (O := ([oI bx1 54 [.int .i64 b.edges[k].fr, .int .i64 b.edges[k].to, .int .u8 ((b.edges[k].pos : Nat) : Int), .int .u8 ((b.edges[k].neg : Nat) : Int)], oI bx 26 (buCells b sb sc eb ec tb tc), oI cx 5 [(.int .u8 (x : Int))]] ++ O1)) (hy k hlt10 O1 hs20 hJ) (Sub.cnt [] (by intro a; simp only [itms, oI, List.set_cons_zero, List.set_cons_succ, putL, List.cons_append, List.nil_append, List.append_nil, List.append_assoc, List.map_append, List.map_cons, List.map_nil, cnt_append, cnt_cons, cnt_nil, buCells, laCells] <;> omega))
      refine TO.guarded rfl rfl rfl (l_callG hk23 rfl rfl ?_)
      clear hk23
      rintro vr O' ⟨O2, rfl, ⟨rfl, hJ2⟩ | ⟨rfl, hQ2⟩⟩
      · refine TO.guarded rfl rfl rfl (LT.of_quiet rfl rfl (q_not rfl) ?_)
        refine TO.quiet (q_pick1 rfl rfl) ?_
        refine TO.nil ?_
        refine T.cond0 rfl ?_
        refine T.skip ?_
        refine T.sub (O' := [oI bx 26 (buCells b sb sc eb ec tb tc), oI cx 5 [(.int .u8 (x : Int))]] ++ O2) (Sub.cnt [oI bx1 54 [.int .i64 b.edges[k].fr, .int .i64 b.edges[k].to, .int .u8 ((b.edges[k].pos : Nat) : Int), .int .u8 ((b.edges[k].neg : Nat) : Int)]] (by intro a; simp only [itms, oI, List.set_cons_zero, List.set_cons_succ, putL, List.cons_append, List.nil_append, List.append_nil, List.append_assoc, List.map_append, List.map_cons, List.map_nil, cnt_append, cnt_cons, cnt_nil, buCells, laCells] <;> omega)) ?_
        refine T.region ?_
        refine TO.quiet (q_addN (a := k) (b := 1) rfl rfl (by omega)) (TO.quiet (q_move rfl) ?_)
        refine TO.nil ?_
        exact ⟨k + 1, by omega, O2, rfl, by omega, hJ2, ⟨rfl, rfl, rfl, rfl, rfl, rfl, trivial⟩⟩
      refine TO.guarded rfl rfl rfl (LT.of_quiet rfl rfl (q_not rfl) ?_)
      refine TO.quiet (q_pick1 rfl rfl) ?_
      refine TO.nil ?_
      refine T.cond1 rfl ?_
      refine T.ret (Res.drop ?_)
      refine Res.zero Try.results99 ?_
      exact ⟨O2, Sub.cnt [oI bx1 54 [.int .i64 b.edges[k].fr, .int .i64 b.edges[k].to, .int .u8 ((b.edges[k].pos : Nat) : Int), .int .u8 ((b.edges[k].neg : Nat) : Int)], oI bx 26 (buCells b sb sc eb ec tb tc), oI cx 5 [(.int .u8 (x : Int))]] (by intro a; simp only [itms, oI, List.set_cons_zero, List.set_cons_succ, putL, List.cons_append, List.nil_append, List.append_nil, List.append_assoc, List.map_append, List.map_cons, List.map_nil, cnt_append, cnt_cons, cnt_nil, buCells, laCells] <;> omega), .inr hQ2⟩
    refine TO.quiet (QT.toB (q_move rfl) (decide_eq_false hs20)) ?_
    refine TO.passed rfl rfl ?_
    refine TO.passed rfl rfl ?_
    refine TO.passed rfl rfl ?_
    refine TO.passed rfl rfl ?_
    refine TO.quiet (q_pick0 rfl rfl) ?_
    refine TO.nil ?_
    refine T.cond0 rfl ?_
    refine T.skip ?_
    refine T.sub (O' := [oI bx 26 (buCells b sb sc eb ec tb tc), oI cx 5 [(.int .u8 (x : Int))]] ++ O1) (Sub.pickR [1, 1] [oI bx1 54 [.int .i64 b.edges[k].fr, .int .i64 b.edges[k].to, .int .u8 ((b.edges[k].pos : Nat) : Int), .int .u8 ((b.edges[k].neg : Nat) : Int)], oI bx 26 (buCells b sb sc eb ec tb tc), oI cx 5 [(.int .u8 (x : Int))]] O1 rfl rfl) ?_
    refine T.region ?_
    refine TO.quiet (q_addN (a := k) (b := 1) rfl rfl (by omega)) (TO.quiet (q_move rfl) ?_)
    refine TO.nil ?_
    exact ⟨k + 1, by omega, O1, rfl, by omega, hno k hlt10 hs20 _ hJ, ⟨rfl, rfl, rfl, rfl, rfl, rfl, trivial⟩⟩
  have hge10 : ¬ k < b.edges.length := by omega
  refine T.exit ?_
  refine Res.drop ?_
  refine Res.zero Try.results99 ?_
  have hke : k = b.edges.length := by omega
  subst hke
  exact ⟨O1, Sub.cnt [oI bx 26 (buCells b sb sc eb ec tb tc), oI cx 5 [(.int .u8 (x : Int))]] (by intro a; simp only [itms, oI, List.set_cons_zero, List.set_cons_succ, putL, List.cons_append, List.nil_append, List.append_nil, List.append_assoc, List.map_append, List.map_cons, List.map_nil, cnt_append, cnt_cons, cnt_nil, buCells, laCells] <;> omega), .inl hJ⟩
end Go.Proofs.Ytnamoapbienooaa


namespace Go.Lx
open Go.RowKit
set_option linter.unusedVariables false
theorem nodup_lt {l : List Nat} {n : Nat} (hn : l.Nodup) (h : ∀ x ∈ l, x < n) : l.length ≤ n := by
  have := List.Nodup.length_le_of_subset (l₂ := List.range n) hn (fun x hx => List.mem_range.2 (h x hx))
  rwa [List.length_range] at this
inductive PathC (b : Bu) (al : Nat → Bool) : Nat → List Nat → Nat → Prop
  | nil (s : Nat) : PathC b al s [] s
  | cons {s u t : Nat} {w : List Nat} {e : Ed} (he : e ∈ b.edges) (h1 : e.fr = (s : Int)) (h2 : e.to = (u : Int)) (h3 : al u = true) (h : PathC b al u w t) : PathC b al s (e.pos :: w) t
structure ChP (b : Bu) (n : Nat) (al : Nat → Bool) (frm : List Nat) (far : Bool) (sts : List (Nat × Int)) (la : List Nat) : Prop where
  ll : la.length = sts.length
  lt : ∀ q ∈ sts, q.1 < n
  src : ∀ q (h : q < sts.length), (sts[q].2 = -1 ∧ sts[q].1 ∈ frm) ∨ ∃ k : Nat, ∃ hk : k < q, sts[q].2 = (k : Int) ∧ ∃ e ∈ b.edges, e.fr = ((sts[k]'(by omega)).1 : Int) ∧ e.to = (sts[q].1 : Int) ∧ al sts[q].1 = true ∧ la[q]? = some e.pos
  nd : ((sts.filter (fun q => far == false || q.2 != -1)).map Prod.fst).Nodup
structure LetP (b : Bu) (n : Nat) (al : Nat → Bool) (p : Int → Bool) (frm : List Nat) (far : Bool) (sts : List (Nat × Int)) (la : List Nat) (seen : List Bool) (i j : Nat) : Prop where
  ch : ChP b n al frm far sts la
  ls : seen.length = n
  sn : ∀ v, v < n → (seen.getD v false = true ↔ ∃ q ∈ sts, q.1 = v ∧ (far = true → q.2 ≠ -1))
  np : ∀ q ∈ sts, (far = true → q.2 ≠ -1) → p (q.1 : Int) = false
  fr : ∀ s ∈ frm, ∃ q ∈ sts, q.1 = s
  ex : ∀ q (h : q < sts.length), q < i → ∀ e ∈ b.edges, e.fr = (sts[q].1 : Int) → al e.to.toNat = true → seen.getD e.to.toNat false = true
  exi : ∀ (h : i < sts.length), ∀ e ∈ b.edges.take j, e.fr = (sts[i].1 : Int) → al e.to.toNat = true → seen.getD e.to.toNat false = true
section
variable {b : Bu} {n : Nat} {al : Nat → Bool} {p : Int → Bool} {frm : List Nat} {far : Bool} {sts : List (Nat × Int)} {la : List Nat} {seen : List Bool} {i j : Nat}
theorem ChP.start (hf : ∀ s ∈ frm, s < n) (hnd : frm.Nodup) : ChP b n al frm far (frm.map fun s => (s, -1)) (List.replicate frm.length 0) := by
  refine ⟨by simp, fun q hq => ?_, fun q h => ?_, ?_⟩
  · obtain ⟨s, hs, rfl⟩ := List.mem_map.1 hq; exact hf s hs
  · left; simp only [List.getElem_map, true_and]; exact List.getElem_mem _
  · have h2 := (List.filter_sublist (l := frm.map fun s => ((s, -1) : Nat × Int)) (p := fun q => far == false || q.2 != -1)).map Prod.fst
    rw [List.map_map] at h2
    have : frm.map (Prod.fst ∘ fun s => ((s, -1) : Nat × Int)) = frm := by
      conv => rhs; rw [← List.map_id frm]
      rfl
    rw [this] at h2
    exact h2.nodup hnd
theorem LetP.start (hf : ∀ s ∈ frm, s < n) (hnd : frm.Nodup) (hl : seen.length = n) (hs : ∀ v, v < n → (seen.getD v false = true ↔ far = false ∧ v ∈ frm)) (hp : far = false → ∀ s ∈ frm, p (s : Int) = false) :
    LetP b n al p frm far (frm.map fun s => (s, -1)) (List.replicate frm.length 0) seen 0 0 := by
  refine ⟨ChP.start hf hnd, hl, fun v hv => ?_, fun q hq hne => ?_, fun s hs => ⟨(s, -1), List.mem_map.2 ⟨s, hs, rfl⟩, rfl⟩, fun q h h0 => by omega, fun h e he => by simp at he⟩
  · rw [hs v hv]
    constructor
    · rintro ⟨h1, h2⟩; exact ⟨(v, -1), List.mem_map.2 ⟨v, h2, rfl⟩, rfl, fun h => by rw [h1] at h; cases h⟩
    · rintro ⟨q, h1, h2, h3⟩
      obtain ⟨s, hs, rfl⟩ := List.mem_map.1 h1
      have : far = false := by
        cases hfar : far
        · rfl
        · exact absurd rfl (h3 hfar)
      exact ⟨this, by rw [← h2]; exact hs⟩
  · obtain ⟨s, hs, rfl⟩ := List.mem_map.1 hq
    have : far = false := by
      cases hfar : far
      · rfl
      · exact absurd rfl (hne hfar)
    exact hp this s hs
theorem ChP.push (h : ChP b n al frm far sts la) (hi : i < sts.length) {e : Ed} (he : e ∈ b.edges) (h1 : e.fr = (sts[i].1 : Int)) {v : Nat} (h2 : e.to = (v : Int)) (hv : v < n) (hal : al v = true) (hnew : ∀ q ∈ sts, q.1 = v → ¬ (far = true → q.2 ≠ -1)) :
    ChP b n al frm far (sts ++ [(v, (i : Int))]) (la ++ [e.pos]) := by
  refine ⟨by simp [h.ll], fun q hq => ?_, fun q hq => ?_, ?_⟩
  · rcases List.mem_append.1 hq with hq | hq
    · exact h.lt q hq
    · simp at hq; subst hq; exact hv
  · by_cases hlt : q < sts.length
    · have h3 := h.src q hlt
      rw [List.getElem_append_left hlt]
      rcases h3 with h3 | ⟨k, hk, h4, e', h5, h6, h7, h8, h9⟩
      · exact .inl h3
      · refine .inr ⟨k, hk, h4, e', h5, ?_, h7, h8, ?_⟩
        · rw [List.getElem_append_left (by omega)]; exact h6
        · rw [List.getElem?_append_left (by rw [h.ll]; exact hlt)]; exact h9
    · have hqe : q = sts.length := by simp at hq; omega
      subst hqe
      refine .inr ⟨i, hi, by simp, e, he, ?_, by simp [h2], by simpa using hal, ?_⟩
      · rw [List.getElem_append_left hi]; exact h1
      · rw [List.getElem?_append_right (by rw [h.ll]; exact Nat.le_refl _), h.ll]; simp
  · rw [List.filter_append, List.map_append, List.nodup_append]
    refine ⟨h.nd, ?_, ?_⟩
    · exact ((List.filter_sublist (l := [(v, (i : Int))])).map Prod.fst).nodup (by simp)
    · intro x hx y hy hxy
      obtain ⟨q, hq, rfl⟩ := List.mem_map.1 hx
      obtain ⟨q2, hq2, rfl⟩ := List.mem_map.1 hy
      have hq3 := (List.mem_filter.1 hq2).1
      simp at hq3; subst hq3
      obtain ⟨hq1, hf⟩ := List.mem_filter.1 hq
      refine hnew q hq1 hxy (fun hfar => ?_)
      rw [hfar] at hf; simpa using hf
theorem LetP.fresh (h : LetP b n al p frm far sts la seen i j) {v : Nat} (hv : v < n) (hs : ¬ seen.getD v false = true) : ∀ q ∈ sts, q.1 = v → ¬ (far = true → q.2 ≠ -1) :=
  fun q hq e hne => hs ((h.sn v hv).2 ⟨q, hq, e, hne⟩)
theorem LetP.skip (h : LetP b n al p frm far sts la seen i j) (hj : j < b.edges.length) (hi : i < sts.length) (hx : ¬ (b.edges[j].fr = (sts[i].1 : Int) ∧ ¬ seen.getD b.edges[j].to.toNat false = true ∧ al b.edges[j].to.toNat = true)) : LetP b n al p frm far sts la seen i (j + 1) := by
  refine ⟨h.ch, h.ls, h.sn, h.np, h.fr, h.ex, fun hi e he h1 h2 => ?_⟩
  rw [List.take_succ_eq_append_getElem hj] at he
  rcases List.mem_append.1 he with he | he
  · exact h.exi hi e he h1 h2
  · rw [List.mem_singleton] at he; subst he
    apply Classical.byContradiction
    intro hs
    exact hx ⟨h1, hs, h2⟩
theorem LetP.add (h : LetP b n al p frm far sts la seen i j) (hj : j < b.edges.length) (hi : i < sts.length) {v : Nat} (h1 : b.edges[j].fr = (sts[i].1 : Int)) (h2 : b.edges[j].to = (v : Int)) (hv : v < n) (hs : ¬ seen.getD v false = true) (hal : al v = true) (hp : p (v : Int) = false) :
    LetP b n al p frm far (sts ++ [(v, (i : Int))]) (la ++ [b.edges[j].pos]) (seen.set v true) i (j + 1) := by
  have hset := fun x => fb_set (a := true) (l := seen) (v := v) (by rw [h.ls]; exact hv) x
  have hset' : ∀ x, (seen.set v true).getD x false = if x = v then true else seen.getD x false := hset
  have hmono : ∀ x, seen.getD x false = true → (seen.set v true).getD x false = true := fun x hx => by rw [hset']; split <;> simp_all
  refine ⟨h.ch.push hi (List.getElem_mem hj) h1 h2 hv hal (h.fresh hv hs), by simp [h.ls], fun x hx => ?_, fun q hq hne => ?_, fun s hs => ?_, fun q hq hqi e he he1 he2 => ?_, fun hi' e he he1 he2 => ?_⟩
  · rw [hset']
    by_cases e : x = v
    · subst e
      rw [if_pos rfl]
      exact ⟨fun _ => ⟨(x, (i : Int)), by simp, rfl, fun _ => by show (i : Int) ≠ -1; omega⟩, fun _ => rfl⟩
    · rw [if_neg e, h.sn x hx]
      constructor
      · rintro ⟨q, h3, h4, h5⟩; exact ⟨q, List.mem_append_left _ h3, h4, h5⟩
      · rintro ⟨q, h3, h4, h5⟩
        rcases List.mem_append.1 h3 with h3 | h3
        · exact ⟨q, h3, h4, h5⟩
        · simp at h3; subst h3; exact absurd h4.symm e
  · rcases List.mem_append.1 hq with hq | hq
    · exact h.np q hq hne
    · simp at hq; subst hq; exact hp
  · obtain ⟨q, h3, h4⟩ := h.fr s hs; exact ⟨q, List.mem_append_left _ h3, h4⟩
  · rw [List.getElem_append_left (by omega)] at he1
    exact hmono _ (h.ex q (by omega) hqi e he he1 he2)
  · rw [List.getElem_append_left hi] at he1
    rw [List.take_succ_eq_append_getElem hj] at he
    rcases List.mem_append.1 he with he | he
    · exact hmono _ (h.exi hi e he he1 he2)
    · rw [List.mem_singleton] at he; subst he
      rw [hset', h2]; simp
theorem LetP.next (h : LetP b n al p frm far sts la seen i j) (hj : ¬ j < b.edges.length) (hi : i < sts.length) : LetP b n al p frm far sts la seen (i + 1) 0 := by
  refine ⟨h.ch, h.ls, h.sn, h.np, h.fr, fun q hq hqi e he h1 h2 => ?_, fun _ e he => by simp at he⟩
  by_cases e2 : q = i
  · subst e2
    exact h.exi hq e (by rw [List.take_of_length_le (by omega)]; exact he) h1 h2
  · exact h.ex q hq (by omega) e he h1 h2
theorem LetP.none (h : LetP b n al p frm far sts la seen i j) (hi : ¬ i < sts.length) (hb : ∀ e ∈ b.edges, e.to.toNat < n) {s t : Nat} {w : List Nat} (hs : s ∈ frm) (hp : PathC b al s w t) (hw : far = true → w ≠ []) : p (t : Int) = false := by
  have key : ∀ {s t : Nat} {w : List Nat}, PathC b al s w t → (∃ q ∈ sts, q.1 = s) → w ≠ [] → ∃ q ∈ sts, q.1 = t ∧ (far = true → q.2 ≠ -1) := by
    intro s t w hp
    induction hp with
    | nil => intro _ h; exact absurd rfl h
    | @cons s u t w e he h1 h2 h3 hp ih =>
      rintro ⟨q, hq, rfl⟩ _
      obtain ⟨k, hk, rfl⟩ := List.mem_iff_getElem.1 hq
      have hun : u < n := by have := hb e he; rw [h2] at this; simpa using this
      have h4 := h.ex k hk (by omega) e he h1 (by rw [h2]; simpa using h3)
      rw [h2] at h4
      obtain ⟨q2, h5, h6, h7⟩ := (h.sn u hun).1 (by simpa using h4)
      by_cases hw : w = []
      · subst hw
        cases hp
        exact ⟨q2, h5, h6, h7⟩
      · exact ih ⟨q2, h5, h6⟩ hw
  obtain ⟨q0, hq0, hq1⟩ := h.fr s hs
  by_cases hwe : w = []
  · subst hwe
    cases hp
    have hfar : far = false := by
      cases hfar : far
      · rfl
      · exact absurd rfl (hw hfar)
    rw [← hq1]
    exact h.np q0 hq0 (fun h => by rw [hfar] at h; cases h)
  · obtain ⟨q, h1, rfl, h3⟩ := key hp ⟨q0, hq0, hq1⟩ hwe
    exact h.np q h1 h3
def nr (sts : List (Nat × Int)) (k : Nat) : Nat := ((sts.take (k + 1)).filter (fun q => q.2 != -1)).length
theorem nr_lt {sts : List (Nat × Int)} {k q : Nat} (hk : k < q) (hq : q < sts.length) (h : sts[q].2 ≠ -1) : nr sts k + 1 ≤ nr sts q := by
  unfold nr
  rw [List.take_succ_eq_append_getElem hq, List.filter_append, List.length_append]
  have h1 : ([sts[q]].filter (fun q => q.2 != -1)).length = 1 := by simp [h]
  have h2 : ((sts.take (k + 1)).filter (fun q => q.2 != -1)).length ≤ ((sts.take q).filter (fun q => q.2 != -1)).length :=
    ((List.take_sublist_take_left (by omega : k + 1 ≤ q)).filter _).length_le
  omega
theorem ChP.bound (h : ChP b n al frm far sts la) {k : Nat} (hk : k < sts.length) : nr sts k + (if far = true then 0 else 1) ≤ n := by
  have hlt : ∀ x ∈ (sts.filter (fun q => far == false || q.2 != -1)).map Prod.fst, x < n := fun x hx => by
    obtain ⟨q, hq, rfl⟩ := List.mem_map.1 hx
    exact h.lt q (List.mem_filter.1 hq).1
  have h1 := nodup_lt h.nd hlt
  rw [List.length_map] at h1
  have h2 : nr sts k ≤ (sts.filter (fun q => q.2 != -1)).length := ((List.take_sublist _ _).filter _).length_le
  by_cases hf : far = true
  · rw [if_pos hf, Nat.add_zero]
    have e : (fun q : Nat × Int => far == false || q.2 != -1) = fun q => q.2 != -1 := by funext q; rw [hf]; simp
    rw [e] at h1
    omega
  · rw [if_neg hf]
    have hf' : far = false := by simpa using hf
    have e : sts.filter (fun q : Nat × Int => far == false || q.2 != -1) = sts := List.filter_eq_self.2 (fun q _ => by rw [hf']; simp)
    rw [e] at h1
    have h3 : (sts.filter (fun q => q.2 != -1)).length < sts.length := by
      have h4 := h.src 0 (by omega)
      rcases h4 with ⟨h4, _⟩ | ⟨k, hk, _⟩
      · apply Nat.lt_of_le_of_ne (List.length_filter_le _ _)
        intro e
        have h5 := List.length_filter_eq_length_iff.1 e _ (List.getElem_mem (show 0 < sts.length by omega))
        simp [h4] at h5
      · omega
    omega
structure BackP (b : Bu) (al : Nat → Bool) (sts : List (Nat × Int)) (k : Nat) (w : List Nat) (t m : Nat) : Prop where
  hk : k < sts.length
  path : PathC b al (sts[k]'hk).1 w.reverse t
  len : w.length + nr sts k ≤ m
theorem BackP.start {k : Nat} (hk : k < sts.length) : BackP b al sts k [] (sts[k]'hk).1 (nr sts k) := ⟨hk, .nil _, by simp⟩
theorem BackP.step (hc : ChP b n al frm far sts la) {k t m : Nat} {w : List Nat} (h : BackP b al sts k w t m) (h2 : 0 ≤ (sts[k]'h.hk).2) : ∃ q : Nat, q < k ∧ (sts[k]'h.hk).2 = (q : Int) ∧ ∃ hk : k < la.length, BackP b al sts q (w ++ [la[k]]) t m := by
  have hk := h.hk
  rcases hc.src k hk with ⟨h3, _⟩ | ⟨q, hq, h3, e, he, h4, h5, h6, h7⟩
  · omega
  · have hkl : k < la.length := by rw [hc.ll]; exact hk
    refine ⟨q, hq, h3, hkl, by omega, ?_, ?_⟩
    · rw [List.reverse_append, List.reverse_singleton, List.singleton_append]
      rw [List.getElem?_eq_getElem hkl] at h7
      rw [Option.some.inj h7]
      exact .cons he h4 h5 h6 h.path
    · have := nr_lt hq hk (by omega)
      have := h.len
      simp; omega
theorem BackP.done (hc : ChP b n al frm far sts la) {k t m : Nat} {w : List Nat} (h : BackP b al sts k w t m) (h2 : ¬ 0 ≤ (sts[k]'h.hk).2) : ∃ s ∈ frm, PathC b al s w.reverse t := by
  rcases hc.src k h.hk with ⟨_, h3⟩ | ⟨q, hq, h3, _⟩
  · exact ⟨_, h3, h.path⟩
  · omega
end
theorem start_nr {frm : List Nat} : (((frm.map fun s => ((s, -1) : Nat × Int))).filter (fun q => q.2 != -1)).length = 0 := by
  rw [List.length_eq_zero_iff, List.filter_eq_nil_iff]
  intro q hq
  obtain ⟨s, _, rfl⟩ := List.mem_map.1 hq
  simp
theorem nr_snoc {sts : List (Nat × Int)} {u i : Nat} : ((sts ++ [(u, (i : Int))]).filter (fun q => q.2 != -1)).length = (sts.filter (fun q => q.2 != -1)).length + 1 := by
  rw [List.filter_append, List.length_append]
  have : (i : Int) ≠ -1 := by omega
  simp [this]
theorem ChP.len_le {b : Bu} {n : Nat} {al : Nat → Bool} {frm : List Nat} {far : Bool} {sts : List (Nat × Int)} {la : List Nat} (h : ChP b n al frm far sts la) : (sts.filter (fun q => q.2 != -1)).length ≤ n := by
  have h1 : ((sts.filter (fun q => q.2 != -1)).map Prod.fst).Nodup := by
    refine (List.Sublist.map _ ?_).nodup h.nd
    have : sts.filter (fun q => q.2 != -1) = (sts.filter (fun q => far == false || q.2 != -1)).filter (fun q => q.2 != -1) := by
      rw [List.filter_filter]; congr 1; funext q; cases far <;> cases (q.2 != -1) <;> rfl
    rw [this]; exact List.filter_sublist
  have h2 := nodup_lt h1 (n := n) (fun x hx => by
    obtain ⟨q, hq, rfl⟩ := List.mem_map.1 hx
    exact h.lt q (List.mem_filter.1 hq).1)
  rwa [List.length_map] at h2
def stpC (sts : List (Nat × Int)) : List Value := sts.flatMap fun q => [.int .i64 (q.1 : Int), .int .i64 q.2]
theorem stp_get {sts : List (Nat × Int)} {i : Nat} (h : i < sts.length) (j : Nat) (hj : j < 2) : (stpC sts)[i * 2 + j]? = ([Value.int .i64 (sts[i].1 : Int), .int .i64 sts[i].2])[j]? := flat_get (F := fun q : Nat × Int => [Value.int .i64 (q.1 : Int), .int .i64 q.2]) (fun _ => rfl) h j hj
theorem stp_len (sts : List (Nat × Int)) : (stpC sts).length = sts.length * 2 := flat_len (F := fun q : Nat × Int => [Value.int .i64 (q.1 : Int), .int .i64 q.2]) (fun _ => rfl) sts
theorem stp_snoc (sts : List (Nat × Int)) (s : Nat) (k : Int) : stpC (sts ++ [(s, k)]) = stpC sts ++ [.int .i64 (s : Int), .int .i64 k] := by simp [stpC]
end Go.Lx

