/- Contracts of functions of the program (BUni): what each call answers and that it leaves memory as it was. Conditions: those each theorem names. -/
import Derived.Test.YtnamoapbienooaaBChk
import Derived.Test.YtnamoapbienooaaBPai
import Derived.Test.YtnamoapbienooaaBDeg
set_option linter.unusedSectionVars false
set_option linter.unusedSimpArgs false
set_option linter.unusedVariables false
set_option linter.unnecessarySimpa false
namespace Go.Proofs.Ytnamoapbienooaa
open Go.Lx Go.RowKit
set_option linter.unusedVariables false
set_option linter.unusedSimpArgs false
theorem joT_zero (x y : Bu) : joT x y 0 = x.edges := by unfold joT; simp
theorem one_rec {qs : List Rec} {b : Bu} (h : nums qs = b.sets) (h1 : b.sets.length = 1) : ∃ r, qs = [r] ∧ set0 b = r.xs := by
  have hl : qs.length = 1 := by have := congrArg List.length h; simp [nums] at this; omega
  obtain ⟨r, hr⟩ := List.length_eq_one_iff.1 hl
  refine ⟨r, hr, ?_⟩
  unfold set0; rw [← h, hr]; rfl
set_option maxHeartbeats 4000000 in
set_option maxRecDepth 20000 in
theorem unionF (w : World) (a : Bu) (sA eA tA : Option Addr) (sAc eAc tAc : Nat) (vA : List Value) (hA : BuAt w a sA eA tA vA) (hAB : BuB a) (b : Bu) (sb eb tb : Option Addr) (sc ec tc : Nat) (vs : List Value) (h : BuAt w b sb eb tb vs) (hB : BuB b) (hAe : a.edges.length ≤ 100000) (hBe : b.edges.length ≤ 100000) :
    PureT Try.prog 40 [.agg (buCells a sA sAc eA eAc tA tAc).toArray, .agg (buCells b sb sc eb ec tb tc).toArray] w fun v N => ∃ sb2 eb2 tb2 sc2 ec2 tc2 qs, v = .tuple #[.agg (buCells (unB a b) sb2 sc2 eb2 ec2 tb2 tc2).toArray, .int .i64 ((unE a b : Nat) : Int)] ∧ N = [rowI sb2 sc2 3 1 (ints (unB a b).start), rowI eb2 ec2 54 4 (edsC (unB a b).edges), rowI tb2 tc2 22 1 (vals qs)] ++ itms 3 qs ∧ nums qs = (unB a b).sets := by
  refine CallT.enter Try.func40 rfl Try.ntmps40 rfl ?_
  refine T.seq (T.region ?_)
  refine TO.loud rfl (l_box (v := (.agg (buCells a sA sAc eA eAc tA tAc).toArray)) (cs := (buCells a sA sAc eA eAc tA tAc)) rfl rfl (fun bx1 => ?_))
  refine TO.loud rfl (l_box (v := (.agg (buCells b sb sc eb ec tb tc).toArray)) (cs := (buCells b sb sc eb ec tb tc)) rfl rfl (fun bx2 => ?_))
  refine TO.loud rfl (l_alloc inf26 rfl (fun bx3 => ?_))
  refine TO.quiet (q_assign rfl) ?_
  refine TO.nil (T.seq (T.seq (T.region ?_)))
  refine TO.quiet (q_load_boxAgg 2 Try.underlying26 rfl inf26 rfl rfl rfl) (TO.quiet (q_load_boxAgg 1 Try.underlying26 rfl inf26 rfl rfl rfl) ?_)
  have hk14 := fun (w1 : World) (hI : Inv w [oI bx3 26 [(.int .i64 0), (.int .i64 0), (.slice none 0 0), (.slice none 0 0), (.slice none 0 0)], oI bx2 26 (buCells b sb sc eb ec tb tc), oI bx1 26 (buCells a sA sAc eA eAc tA tAc)] w1) => pairF w1 a sA eA tA sAc eAc tAc vA (hI.bu hA) hAB b sb eb tb sc ec tc vs (hI.bu h) hB
  refine TO.loud rfl (l_call ent90 (CallT.of_pure hk14) rfl ?_)
  clear hk14
  rintro vr O' ⟨N, rfl, rfl, rfl⟩
  refine TO.quiet (q_assign rfl) ?_
  refine TO.nil (T.seq (T.region ?_))
  refine TO.quiet (q_move rfl) (TO.quiet (q_neq rfl rfl) ?_)
  refine TO.nil ?_
  refine T.condP rfl (fun hc => ?_) (fun hc => ?_)
  · have hlt16 : pairE a b ≠ 0 := by omega
    refine T.seq ?_
    refine T.nilRow 22 1 ?_
    refine T.nilRow 54 4 ?_
    refine T.nilRow 3 1 ?_
    refine T.region ?_
    refine TO.quiet (q_load_boxAgg 3 Try.underlying26 rfl inf26 rfl rfl rfl) (TO.quiet (q_move rfl) ?_)
    refine TO.loud rfl (l_store_box (v := (.agg #[(.int .i64 0), (.int .i64 0), (.slice none 0 0), (.slice none 0 0), (.slice none 0 0)])) (vs := [(.int .i64 0), (.int .i64 0), (.slice none 0 0), (.slice none 0 0), (.slice none 0 0)]) 3 inf26 rfl rfl rfl rfl rfl rfl (by simp [putL]) ?_)
    refine TO.quiet (q_assign rfl) ?_
    refine TO.nil (T.ret (Res.drop ?_))
    refine Res.cell1b (.int .i64 ((pairE a b : Nat) : Int)) (i := 3) Try.results40 Try.underlying26 rfl inf26 rfl rfl rfl rfl ?_
    have hE9 : unE a b = pairE a b := by unfold unE; rw [if_pos (by omega)]
    have hz9 : unB a b = zeroBu := by unfold unB; rw [if_neg (by rw [hE9]; omega)]
    refine ⟨[rowI none 0 3 1 [], rowI none 0 54 4 [], rowI none 0 22 1 []] ++ itms 3 [], ?_, none, none, none, 0, 0, 0, [], ?_, ?_, ?_⟩
    · exact Sub.cnt [oI bx3 26 [(.int .i64 0), (.int .i64 0), (.slice none 0 0), (.slice none 0 0), (.slice none 0 0)], oI bx2 26 (buCells b sb sc eb ec tb tc), oI bx1 26 (buCells a sA sAc eA eAc tA tAc)] (by intro a; simp only [itms, oI, List.set_cons_zero, List.set_cons_succ, putL, List.cons_append, List.nil_append, List.append_nil, List.append_assoc, List.map_append, List.map_cons, List.map_nil, cnt_append, cnt_cons, cnt_nil, buCells, laCells] <;> omega)
    · rw [hz9, hE9]; rfl
    · rw [hz9]; rfl
    · rw [hz9]; rfl
  have hge16 : ¬ pairE a b ≠ 0 := by omega
  refine T.skip (T.seq (T.region ?_))
  refine TO.quiet (q_load_boxAgg 2 Try.underlying26 rfl inf26 rfl rfl rfl) ?_
  have hk21 := fun (w1 : World) (hI : Inv w [oI bx3 26 [(.int .i64 0), (.int .i64 0), (.slice none 0 0), (.slice none 0 0), (.slice none 0 0)], oI bx2 26 (buCells b sb sc eb ec tb tc), oI bx1 26 (buCells a sA sAc eA eAc tA tAc)] w1) => degenF w1 a sA eA tA sAc eAc tAc vA (hI.bu hA) hAB
  refine TO.loud rfl (l_call ent37 (CallT.of_pure hk21) rfl ?_)
  clear hk21
  rintro vr O' ⟨N, rfl, sx, ex, tx, sxc, exc, txc, qx, rfl, rfl, hqx⟩
  refine TO.sub (O' := ([rowI sx sxc 3 1 (ints (dgB a).start), rowI ex exc 54 4 (edsC (dgB a).edges), rowI tx txc 22 1 (vals qx), oI bx3 26 [(.int .i64 0), (.int .i64 0), (.slice none 0 0), (.slice none 0 0), (.slice none 0 0)], oI bx2 26 (buCells b sb sc eb ec tb tc), oI bx1 26 (buCells a sA sAc eA eAc tA tAc)] ++ (itms 3 qx))) (by exact Sub.swap3 [rowI sx sxc 3 1 (ints (dgB a).start), rowI ex exc 54 4 (edsC (dgB a).edges), rowI tx txc 22 1 (vals qx)] [oI bx3 26 [(.int .i64 0), (.int .i64 0), (.slice none 0 0), (.slice none 0 0), (.slice none 0 0)], oI bx2 26 (buCells b sb sc eb ec tb tc), oI bx1 26 (buCells a sA sAc eA eAc tA tAc)] (itms 3 qx)) ?_
  refine TO.quiet (q_move rfl) (TO.quiet (q_extract (vs := _) rfl rfl) (TO.quiet (q_extract (vs := _) rfl rfl) ?_))
  refine TO.loud rfl (l_alloc inf26 rfl (fun bx4 => ?_))
  refine TO.loud rfl (l_store_box (v := (.agg #[(.int .i64 (dgB a).vars), (.int .i64 (dgB a).states), (.slice sx ((dgB a).start.length) sxc), (.slice ex ((dgB a).edges.length) exc), (.slice tx ((dgB a).sets.length) txc)])) (vs := [(.int .i64 (dgB a).vars), (.int .i64 (dgB a).states), (.slice sx ((dgB a).start.length) sxc), (.slice ex ((dgB a).edges.length) exc), (.slice tx ((dgB a).sets.length) txc)]) 0 inf26 rfl rfl rfl rfl rfl rfl (by simp [putL]) ?_)
  refine TO.quiet (q_assign rfl) ?_
  refine TO.nil (T.seq (T.seq (T.region ?_)))
  refine TO.quiet (q_move rfl) (TO.quiet (q_neq rfl rfl) ?_)
  refine TO.nil ?_
  refine T.condP rfl (fun hc => ?_) (fun hc => ?_)
  · have hlt25 : degE a ≠ 0 := by omega
    refine T.seq ?_
    refine T.nilRow 22 1 ?_
    refine T.nilRow 54 4 ?_
    refine T.nilRow 3 1 ?_
    refine T.region ?_
    refine TO.quiet (q_load_boxAgg 7 Try.underlying26 rfl inf26 rfl rfl rfl) (TO.quiet (q_move rfl) ?_)
    refine TO.loud rfl (l_store_box (v := (.agg #[(.int .i64 0), (.int .i64 0), (.slice none 0 0), (.slice none 0 0), (.slice none 0 0)])) (vs := [(.int .i64 0), (.int .i64 0), (.slice none 0 0), (.slice none 0 0), (.slice none 0 0)]) 7 inf26 rfl rfl rfl rfl rfl rfl (by simp [putL]) ?_)
    refine TO.quiet (q_assign rfl) ?_
    refine TO.nil (T.ret (Res.drop ?_))
    refine Res.cell1b (.int .i64 ((degE a : Nat) : Int)) (i := 7) Try.results40 Try.underlying26 rfl inf26 rfl rfl rfl rfl ?_
    have hE9 : unE a b = degE a := by unfold unE; rw [if_neg (by omega), if_pos (by omega)]
    have hz9 : unB a b = zeroBu := by unfold unB; rw [if_neg (by rw [hE9]; omega)]
    refine ⟨[rowI none 0 3 1 [], rowI none 0 54 4 [], rowI none 0 22 1 []] ++ itms 3 [], ?_, none, none, none, 0, 0, 0, [], ?_, ?_, ?_⟩
    · exact Sub.cnt ([oI bx4 26 [(.int .i64 (dgB a).vars), (.int .i64 (dgB a).states), (.slice sx ((dgB a).start.length) sxc), (.slice ex ((dgB a).edges.length) exc), (.slice tx ((dgB a).sets.length) txc)], rowI sx sxc 3 1 (ints (dgB a).start), rowI ex exc 54 4 (edsC (dgB a).edges), rowI tx txc 22 1 (vals qx), oI bx3 26 [(.int .i64 0), (.int .i64 0), (.slice none 0 0), (.slice none 0 0), (.slice none 0 0)], oI bx2 26 (buCells b sb sc eb ec tb tc), oI bx1 26 (buCells a sA sAc eA eAc tA tAc)] ++ (itms 3 qx)) (by intro a; simp only [itms, oI, List.set_cons_zero, List.set_cons_succ, putL, List.cons_append, List.nil_append, List.append_nil, List.append_assoc, List.map_append, List.map_cons, List.map_nil, cnt_append, cnt_cons, cnt_nil, buCells, laCells] <;> omega)
    · rw [hz9, hE9]; rfl
    · rw [hz9]; rfl
    · rw [hz9]; rfl
  have hge25 : ¬ degE a ≠ 0 := by omega
  refine T.skip (T.seq (T.region ?_))
  refine TO.quiet (q_load_boxAgg 5 Try.underlying26 rfl inf26 rfl rfl rfl) ?_
  have hk30 := fun (w1 : World) (hI : Inv w ([oI bx4 26 [(.int .i64 (dgB a).vars), (.int .i64 (dgB a).states), (.slice sx ((dgB a).start.length) sxc), (.slice ex ((dgB a).edges.length) exc), (.slice tx ((dgB a).sets.length) txc)], rowI sx sxc 3 1 (ints (dgB a).start), rowI ex exc 54 4 (edsC (dgB a).edges), rowI tx txc 22 1 (vals qx), oI bx3 26 [(.int .i64 0), (.int .i64 0), (.slice none 0 0), (.slice none 0 0), (.slice none 0 0)], oI bx2 26 (buCells b sb sc eb ec tb tc), oI bx1 26 (buCells a sA sAc eA eAc tA tAc)] ++ (itms 3 qx)) w1) => degenF w1 b sb eb tb sc ec tc vs (hI.bu h) hB
  refine TO.loud rfl (l_call ent37 (CallT.of_pure hk30) rfl ?_)
  clear hk30
  rintro vr O' ⟨N, rfl, sy, ey, ty, syc, eyc, tyc, qy, rfl, rfl, hqy⟩
  refine TO.sub (O' := ([rowI sy syc 3 1 (ints (dgB b).start), rowI ey eyc 54 4 (edsC (dgB b).edges), rowI ty tyc 22 1 (vals qy), oI bx4 26 [(.int .i64 (dgB a).vars), (.int .i64 (dgB a).states), (.slice sx ((dgB a).start.length) sxc), (.slice ex ((dgB a).edges.length) exc), (.slice tx ((dgB a).sets.length) txc)], rowI sx sxc 3 1 (ints (dgB a).start), rowI ex exc 54 4 (edsC (dgB a).edges), rowI tx txc 22 1 (vals qx), oI bx3 26 [(.int .i64 0), (.int .i64 0), (.slice none 0 0), (.slice none 0 0), (.slice none 0 0)], oI bx2 26 (buCells b sb sc eb ec tb tc), oI bx1 26 (buCells a sA sAc eA eAc tA tAc)] ++ ((itms 3 qy) ++ (itms 3 qx)))) (by exact Sub.swap4 [rowI sy syc 3 1 (ints (dgB b).start), rowI ey eyc 54 4 (edsC (dgB b).edges), rowI ty tyc 22 1 (vals qy)] [oI bx4 26 [(.int .i64 (dgB a).vars), (.int .i64 (dgB a).states), (.slice sx ((dgB a).start.length) sxc), (.slice ex ((dgB a).edges.length) exc), (.slice tx ((dgB a).sets.length) txc)], rowI sx sxc 3 1 (ints (dgB a).start), rowI ex exc 54 4 (edsC (dgB a).edges), rowI tx txc 22 1 (vals qx), oI bx3 26 [(.int .i64 0), (.int .i64 0), (.slice none 0 0), (.slice none 0 0), (.slice none 0 0)], oI bx2 26 (buCells b sb sc eb ec tb tc), oI bx1 26 (buCells a sA sAc eA eAc tA tAc)] (itms 3 qy) (itms 3 qx)) ?_
  refine TO.quiet (q_move rfl) (TO.quiet (q_extract (vs := _) rfl rfl) (TO.quiet (q_extract (vs := _) rfl rfl) ?_))
  refine TO.loud rfl (l_alloc inf26 rfl (fun bx5 => ?_))
  refine TO.loud rfl (l_store_box (v := (.agg #[(.int .i64 (dgB b).vars), (.int .i64 (dgB b).states), (.slice sy ((dgB b).start.length) syc), (.slice ey ((dgB b).edges.length) eyc), (.slice ty ((dgB b).sets.length) tyc)])) (vs := [(.int .i64 (dgB b).vars), (.int .i64 (dgB b).states), (.slice sy ((dgB b).start.length) syc), (.slice ey ((dgB b).edges.length) eyc), (.slice ty ((dgB b).sets.length) tyc)]) 0 inf26 rfl rfl rfl rfl rfl rfl (by simp [putL]) ?_)
  refine TO.quiet (q_assign rfl) ?_
  refine TO.nil (T.seq (T.seq (T.region ?_)))
  refine TO.quiet (q_move rfl) (TO.quiet (q_neq rfl rfl) ?_)
  refine TO.nil ?_
  refine T.condP rfl (fun hc => ?_) (fun hc => ?_)
  · have hlt34 : degE b ≠ 0 := by omega
    refine T.seq ?_
    refine T.nilRow 22 1 ?_
    refine T.nilRow 54 4 ?_
    refine T.nilRow 3 1 ?_
    refine T.region ?_
    refine TO.quiet (q_load_boxAgg 11 Try.underlying26 rfl inf26 rfl rfl rfl) (TO.quiet (q_move rfl) ?_)
    refine TO.loud rfl (l_store_box (v := (.agg #[(.int .i64 0), (.int .i64 0), (.slice none 0 0), (.slice none 0 0), (.slice none 0 0)])) (vs := [(.int .i64 0), (.int .i64 0), (.slice none 0 0), (.slice none 0 0), (.slice none 0 0)]) 11 inf26 rfl rfl rfl rfl rfl rfl (by simp [putL]) ?_)
    refine TO.quiet (q_assign rfl) ?_
    refine TO.nil (T.ret (Res.drop ?_))
    refine Res.cell1b (.int .i64 ((degE b : Nat) : Int)) (i := 11) Try.results40 Try.underlying26 rfl inf26 rfl rfl rfl rfl ?_
    have hE9 : unE a b = degE b := by unfold unE; rw [if_neg (by omega), if_neg (by omega), if_pos (by omega)]
    have hz9 : unB a b = zeroBu := by unfold unB; rw [if_neg (by rw [hE9]; omega)]
    refine ⟨[rowI none 0 3 1 [], rowI none 0 54 4 [], rowI none 0 22 1 []] ++ itms 3 [], ?_, none, none, none, 0, 0, 0, [], ?_, ?_, ?_⟩
    · exact Sub.cnt ([oI bx5 26 [(.int .i64 (dgB b).vars), (.int .i64 (dgB b).states), (.slice sy ((dgB b).start.length) syc), (.slice ey ((dgB b).edges.length) eyc), (.slice ty ((dgB b).sets.length) tyc)], rowI sy syc 3 1 (ints (dgB b).start), rowI ey eyc 54 4 (edsC (dgB b).edges), rowI ty tyc 22 1 (vals qy), oI bx4 26 [(.int .i64 (dgB a).vars), (.int .i64 (dgB a).states), (.slice sx ((dgB a).start.length) sxc), (.slice ex ((dgB a).edges.length) exc), (.slice tx ((dgB a).sets.length) txc)], rowI sx sxc 3 1 (ints (dgB a).start), rowI ex exc 54 4 (edsC (dgB a).edges), rowI tx txc 22 1 (vals qx), oI bx3 26 [(.int .i64 0), (.int .i64 0), (.slice none 0 0), (.slice none 0 0), (.slice none 0 0)], oI bx2 26 (buCells b sb sc eb ec tb tc), oI bx1 26 (buCells a sA sAc eA eAc tA tAc)] ++ (itms 3 qy) ++ (itms 3 qx)) (by intro a; simp only [itms, oI, List.set_cons_zero, List.set_cons_succ, putL, List.cons_append, List.nil_append, List.append_nil, List.append_assoc, List.map_append, List.map_cons, List.map_nil, cnt_append, cnt_cons, cnt_nil, buCells, laCells] <;> omega)
    · rw [hz9, hE9]; rfl
    · rw [hz9]; rfl
    · rw [hz9]; rfl
  have hge34 : ¬ degE b ≠ 0 := by omega
  refine T.skip (T.seq ?_)
  have hda : degE a = 0 := by omega
  have hdb : degE b = 0 := by omega
  obtain ⟨hva, hna⟩ := degE_zero hda
  obtain ⟨hvb, hnb⟩ := degE_zero hdb
  have hXe : dgB a = degB a := by unfold dgB; rw [if_pos hda]
  have hYe : dgB b = degB b := by unfold dgB; rw [if_pos hdb]
  have hXv : ValidB (dgB a) := by rw [hXe]; exact deg_valid hva hna
  have hYv : ValidB (dgB b) := by rw [hYe]; exact deg_valid hvb hnb
  have hX0 := hXv.n0; have hX4 := hXv.n4; have hY0 := hYv.n0; have hY4 := hYv.n4
  have hXB := dgB_B hAB hAe; have hYB := dgB_B hB hBe
  have hxs := hXB.st; have hxe := hXB.ed; have hys := hYB.st; have hye := hYB.ed
  obtain ⟨rx, hqx1, hrx⟩ := one_rec hqx (by rw [hXe]; exact deg_len a)
  obtain ⟨ry, hqy1, hry⟩ := one_rec hqy (by rw [hYe]; exact deg_len b)
  have hrxm : rx ∈ qx := by rw [hqx1]; simp
  have hrym : ry ∈ qy := by rw [hqy1]; simp
  have hrxs : rx.xs ∈ (dgB a).sets := by rw [← hqx]; exact List.mem_map_of_mem hrxm
  have hrys : ry.xs ∈ (dgB b).sets := by rw [← hqy]; exact List.mem_map_of_mem hrym
  have hrxl := hXB.sr _ hrxs; have hryl := hYB.sr _ hrys
  have hjl := fun k => joT_len (x := dgB a) (y := dgB b) k
  refine T.region ?_
  refine TO.quiet (q_fieldAddr Try.underlying26 rfl inf3 rfl rfl) (TO.quiet (QT.cast (q_load_box 4 Try.underlying3 rfl rfl rfl rfl) (v' := .int .i64 (((dgB a).states.toNat : Nat) : Int)) (by show Value.int _ _ = _; rw [Int.toNat_of_nonneg hX0])) (TO.quiet (q_assign rfl) ?_))
  refine TO.nil (T.seq (T.seq (T.region ?_)))
  refine TO.quiet (q_move rfl) (TO.quiet (q_fieldAddr Try.underlying26 rfl inf3 rfl rfl) (TO.quiet (QT.cast (q_load_box 0 Try.underlying3 rfl rfl rfl rfl) (v' := .int .i64 (((dgB b).states.toNat : Nat) : Int)) (by show Value.int _ _ = _; rw [Int.toNat_of_nonneg hY0])) (TO.quiet (q_addN (a := ((dgB a).states.toNat)) (b := ((dgB b).states.toNat)) rfl rfl (by omega)) ?_)))
  refine TO.quiet (q_gtr rfl rfl) ?_
  refine TO.nil ?_
  refine T.condP rfl (fun hc => ?_) (fun hc => ?_)
  · have hlt43 : ((dgB a).states.toNat) + ((dgB b).states.toNat) > 4096 := by omega
    refine T.seq ?_
    refine T.nilRow 22 1 ?_
    refine T.nilRow 54 4 ?_
    refine T.nilRow 3 1 ?_
    refine T.region ?_
    refine TO.quiet (q_load_boxAgg 11 Try.underlying26 rfl inf26 rfl rfl rfl) ?_
    refine TO.loud rfl (l_store_box (v := (.agg #[(.int .i64 0), (.int .i64 0), (.slice none 0 0), (.slice none 0 0), (.slice none 0 0)])) (vs := [(.int .i64 0), (.int .i64 0), (.slice none 0 0), (.slice none 0 0), (.slice none 0 0)]) 11 inf26 rfl rfl rfl rfl rfl rfl (by simp [putL]) ?_)
    refine TO.quiet (q_assign rfl) ?_
    refine TO.nil (T.ret (Res.drop ?_))
    refine Res.cell1b (.int .i64 10) (i := 11) Try.results40 Try.underlying26 rfl inf26 rfl rfl rfl rfl ?_
    have hE9 : unE a b = 10 := by unfold unE; rw [if_neg (by omega), if_neg (by omega), if_neg (by omega), ← hXe, ← hYe, if_pos (by omega)]
    have hz9 : unB a b = zeroBu := by unfold unB; rw [if_neg (by rw [hE9]; omega)]
    refine ⟨[rowI none 0 3 1 [], rowI none 0 54 4 [], rowI none 0 22 1 []] ++ itms 3 [], ?_, none, none, none, 0, 0, 0, [], ?_, ?_, ?_⟩
    · exact Sub.cnt ([oI bx5 26 [(.int .i64 (dgB b).vars), (.int .i64 (dgB b).states), (.slice sy ((dgB b).start.length) syc), (.slice ey ((dgB b).edges.length) eyc), (.slice ty ((dgB b).sets.length) tyc)], rowI sy syc 3 1 (ints (dgB b).start), rowI ey eyc 54 4 (edsC (dgB b).edges), rowI ty tyc 22 1 (vals qy), oI bx4 26 [(.int .i64 (dgB a).vars), (.int .i64 (dgB a).states), (.slice sx ((dgB a).start.length) sxc), (.slice ex ((dgB a).edges.length) exc), (.slice tx ((dgB a).sets.length) txc)], rowI sx sxc 3 1 (ints (dgB a).start), rowI ex exc 54 4 (edsC (dgB a).edges), rowI tx txc 22 1 (vals qx), oI bx3 26 [(.int .i64 0), (.int .i64 0), (.slice none 0 0), (.slice none 0 0), (.slice none 0 0)], oI bx2 26 (buCells b sb sc eb ec tb tc), oI bx1 26 (buCells a sA sAc eA eAc tA tAc)] ++ (itms 3 qy) ++ (itms 3 qx)) (by intro a; simp only [itms, oI, List.set_cons_zero, List.set_cons_succ, putL, List.cons_append, List.nil_append, List.append_nil, List.append_assoc, List.map_append, List.map_cons, List.map_nil, cnt_append, cnt_cons, cnt_nil, buCells, laCells] <;> omega)
    · rw [hz9, hE9]; rfl
    · rw [hz9]; rfl
    · rw [hz9]; rfl
  have hge43 : ¬ ((dgB a).states.toNat) + ((dgB b).states.toNat) > 4096 := by omega
  refine T.skip (T.seq ?_)
  refine T.draws [oI bx5 26 [(.int .i64 (dgB b).vars), (.int .i64 (dgB b).states), (.slice sy ((dgB b).start.length) syc), (.slice ey ((dgB b).edges.length) eyc), (.slice ty ((dgB b).sets.length) tyc)], rowI ty tyc 22 1 (vals qy), oI bx4 26 [(.int .i64 (dgB a).vars), (.int .i64 (dgB a).states), (.slice sx ((dgB a).start.length) sxc), (.slice ex ((dgB a).edges.length) exc), (.slice tx ((dgB a).sets.length) txc)], rowI tx txc 22 1 (vals qx), oI bx2 26 (buCells b sb sc eb ec tb tc), oI bx1 26 (buCells a sA sAc eA eAc tA tAc)] [(0, 0), (1, 0), (2, 0), (3, 0), (4, 0), (5, 0), (6, 0), (7, 0), (8, 0), (9, 0), (10, 0), (14, 0), (15, 0), (16, 0), (17, 0), (18, 0), (19, 0), (20, 0), (21, 0), (22, 0), (23, 0), (24, 0), (11, 1), (12, 1), (13, 1), (25, 1), (26, 1), (27, 1), (28, 1), (29, 0), (30, 2)] mixed (by kernel_rfl) (by exact Sub.k (.d (.d (.k (.k (.d (.d (.k (.d (.k (.k .z))))))))))) (fun _ _ _ h => h) ?_
  refine DO.quiet rfl (q_fieldAddr Try.underlying26 rfl inf3 rfl rfl) (DO.quiet rfl (q_load_box 5 Try.underlying3 rfl rfl rfl rfl) (DO.quiet rfl (q_move rfl) (DO.quiet rfl (q_fieldAddr Try.underlying26 rfl inf3 rfl rfl) ?_)))
  refine DO.quiet rfl (QT.cast (q_load_box 0 Try.underlying3 rfl rfl rfl rfl) (v' := .int .i64 (((dgB b).states.toNat : Nat) : Int)) (by show Value.int _ _ = _; rw [Int.toNat_of_nonneg hY0])) (DO.quiet rfl (q_addN (a := ((dgB a).states.toNat)) (b := ((dgB b).states.toNat)) rfl rfl (by omega)) (DO.quiet rfl (q_fieldAddr Try.underlying26 rfl inf22 rfl rfl) (DO.quiet rfl (q_load_box 2 Try.underlying22 rfl rfl rfl rfl) ?_)))
  refine DO.quiet rfl (q_fieldAddr Try.underlying26 rfl inf22 rfl rfl) (DO.quiet rfl (q_load_box 0 Try.underlying22 rfl rfl rfl rfl) (DO.quiet rfl (q_move rfl) (DO.quiet rfl (q_fieldAddr Try.underlying26 rfl inf23 rfl rfl) ?_)))
  refine DO.quiet rfl (q_load_box 2 Try.underlying23 rfl rfl rfl rfl) (DO.quiet rfl (q_fieldAddr Try.underlying26 rfl inf24 rfl rfl) (DO.quiet rfl (q_load_box 2 Try.underlying24 rfl rfl rfl rfl) (DO.quiet rfl (q_ix (i := 0) Try.underlying24 inf22 rfl rfl (rowO (List.mem_of_getElem? (i := 3) rfl)) (by have h9 := deg_len a; rw [← hXe] at h9; omega) (by rw [hqx1]; exact Nat.zero_lt_one)) ?_)))
  refine DO.quiet rfl (q_ld Try.underlying22 rfl rfl (rowO (List.mem_of_getElem? (i := 3) rfl)) (show (vals qx)[0]? = some (.slice rx.b rx.xs.length rx.c) by rw [hqx1]; rfl)) (DO.quiet rfl (q_fieldAddr Try.underlying26 rfl inf24 rfl rfl) (DO.quiet rfl (q_load_box 0 Try.underlying24 rfl rfl rfl rfl) (DO.quiet rfl (q_ix (i := 0) Try.underlying24 inf22 rfl rfl (rowO (List.mem_of_getElem? (i := 1) rfl)) (by have h9 := deg_len b; rw [← hYe] at h9; omega) (by rw [hqy1]; exact Nat.zero_lt_one)) ?_)))
  refine DO.quiet rfl (q_ld Try.underlying22 rfl rfl (rowO (List.mem_of_getElem? (i := 1) rfl)) (show (vals qy)[0]? = some (.slice ry.b ry.xs.length ry.c) by rw [hqy1]; rfl)) (DO.quiet rfl (q_move rfl) ?_)
  have hk56 := fun (w1 : World) (hI : Inv w ([oI bx5 26 [(.int .i64 (dgB b).vars), (.int .i64 (dgB b).states), (.slice sy ((dgB b).start.length) syc), (.slice ey ((dgB b).edges.length) eyc), (.slice ty ((dgB b).sets.length) tyc)], rowI sy syc 3 1 (ints (dgB b).start), rowI ey eyc 54 4 (edsC (dgB b).edges), rowI ty tyc 22 1 (vals qy), oI bx4 26 [(.int .i64 (dgB a).vars), (.int .i64 (dgB a).states), (.slice sx ((dgB a).start.length) sxc), (.slice ex ((dgB a).edges.length) exc), (.slice tx ((dgB a).sets.length) txc)], rowI sx sxc 3 1 (ints (dgB a).start), rowI ex exc 54 4 (edsC (dgB a).edges), rowI tx txc 22 1 (vals qx), oI bx3 26 [(.int .i64 0), (.int .i64 0), (.slice none 0 0), (.slice none 0 0), (.slice none 0 0)], oI bx2 26 (buCells b sb sc eb ec tb tc), oI bx1 26 (buCells a sA sAc eA eAc tA tAc)] ++ ((itms 3 qy) ++ (itms 3 qx))) w1) => shiftF w1 sy syc (dgB b).start (dgB a).states.toNat (hI.slOf (List.mem_of_getElem? (i := 1) rfl)) hys (fun x hx => by have := hYv.st x hx; omega) (by omega)
  refine DO.loud rfl rfl (l_call ent86 (CallT.of_pure hk56) rfl ?_)
  clear hk56
  rintro vr O' ⟨N, rfl, zs, zsc, rfl, rfl⟩
  refine ⟨by exact Sub.d (.k (.d (.d (.k (.k (.d (.d (.k (.d (.k (.k .z))))))))))), ?_⟩
  refine DO.loud rfl rfl (l_buildSlice (m := 2) (parts := [(0, .tmp 52), (1, .tmp 56)]) (cs := [(.slice sx ((dgB a).start.length) sxc), (.slice zs ((dgB b).start.length) zsc)]) Try.underlying24 inf22 (by decide) (by kernel_rfl) rfl (fun bx6 => ⟨by exact Sub.d (.d (.k (.d (.d (.k (.k (.d (.d (.k (.d (.k (.k .z)))))))))))), ?_⟩))
  have hk58 := fun (w1 : World) (hI : Inv w ([rowI (some ⟨bx6, 0, none⟩) 2 22 1 [(.slice sx ((dgB a).start.length) sxc), (.slice zs ((dgB b).start.length) zsc)], rowI zs zsc 3 1 (ints ((dgB b).start.map fun x => x + (((dgB a).states.toNat : Nat) : Int))), oI bx5 26 [(.int .i64 (dgB b).vars), (.int .i64 (dgB b).states), (.slice sy ((dgB b).start.length) syc), (.slice ey ((dgB b).edges.length) eyc), (.slice ty ((dgB b).sets.length) tyc)], rowI sy syc 3 1 (ints (dgB b).start), rowI ey eyc 54 4 (edsC (dgB b).edges), rowI ty tyc 22 1 (vals qy), oI bx4 26 [(.int .i64 (dgB a).vars), (.int .i64 (dgB a).states), (.slice sx ((dgB a).start.length) sxc), (.slice ex ((dgB a).edges.length) exc), (.slice tx ((dgB a).sets.length) txc)], rowI sx sxc 3 1 (ints (dgB a).start), rowI ex exc 54 4 (edsC (dgB a).edges), rowI tx txc 22 1 (vals qx), oI bx3 26 [(.int .i64 0), (.int .i64 0), (.slice none 0 0), (.slice none 0 0), (.slice none 0 0)], oI bx2 26 (buCells b sb sc eb ec tb tc), oI bx1 26 (buCells a sA sAc eA eAc tA tAc)] ++ ((itms 3 qy) ++ (itms 3 qx))) w1) => (by
    have hC := concatI w1 (some ⟨bx6, 0, none⟩) 2 [(.slice sx ((dgB a).start.length) sxc), (.slice zs ((dgB b).start.length) zsc)] [(dgB a).start, ((dgB b).start.map fun x => x + (((dgB a).states.toNat : Nat) : Int))] (hI.slOf (List.mem_of_getElem? (i := 0) rfl)) (rowsR_two (hI.slOf (List.mem_of_getElem? (i := 7) rfl)) (hI.slOf (List.mem_of_getElem? (i := 1) rfl)) rfl (by rw [List.length_map])) (by simp) (by simp; omega)
    rw [show [(dgB a).start, ((dgB b).start.map fun x => x + (((dgB a).states.toNat : Nat) : Int))].flatten = (dgB a).start ++ ((dgB b).start.map fun x => x + (((dgB a).states.toNat : Nat) : Int)) by simp] at hC; exact hC)
  refine DO.loud rfl rfl (l_call ent91 (CallT.of_pure hk58) rfl ?_)
  clear hk58
  rintro vr O' ⟨N, rfl, cs3, cs3c, rfl, rfl⟩
  refine ⟨by exact Sub.d (.d (.d (.k (.d (.d (.k (.k (.d (.d (.k (.d (.k (.k .z))))))))))))), ?_⟩
  have hk70 := fun (w1 : World) (hI : Inv w ([rowI cs3 cs3c 3 1 (ints ((dgB a).start ++ ((dgB b).start.map fun x => x + (((dgB a).states.toNat : Nat) : Int)))), rowI (some ⟨bx6, 0, none⟩) 2 22 1 [(.slice sx ((dgB a).start.length) sxc), (.slice zs ((dgB b).start.length) zsc)], rowI zs zsc 3 1 (ints ((dgB b).start.map fun x => x + (((dgB a).states.toNat : Nat) : Int))), oI bx5 26 [(.int .i64 (dgB b).vars), (.int .i64 (dgB b).states), (.slice sy ((dgB b).start.length) syc), (.slice ey ((dgB b).edges.length) eyc), (.slice ty ((dgB b).sets.length) tyc)], rowI sy syc 3 1 (ints (dgB b).start), rowI ey eyc 54 4 (edsC (dgB b).edges), rowI ty tyc 22 1 (vals qy), oI bx4 26 [(.int .i64 (dgB a).vars), (.int .i64 (dgB a).states), (.slice sx ((dgB a).start.length) sxc), (.slice ex ((dgB a).edges.length) exc), (.slice tx ((dgB a).sets.length) txc)], rowI sx sxc 3 1 (ints (dgB a).start), rowI ex exc 54 4 (edsC (dgB a).edges), rowI tx txc 22 1 (vals qx), oI bx3 26 [(.int .i64 0), (.int .i64 0), (.slice none 0 0), (.slice none 0 0), (.slice none 0 0)], oI bx2 26 (buCells b sb sc eb ec tb tc), oI bx1 26 (buCells a sA sAc eA eAc tA tAc)] ++ ((itms 3 qy) ++ (itms 3 qx))) w1) => shiftF w1 ry.b ry.c ry.xs (dgB a).states.toNat (hI.slOf (List.mem_append_right _ (by simp only [itms, List.mem_append, List.mem_map]; first | exact .inl ⟨ry, hrym, rfl⟩ | exact .inr ⟨ry, hrym, rfl⟩ | exact .inr (.inl ⟨ry, hrym, rfl⟩) | exact ⟨ry, hrym, rfl⟩))) hryl (fun x hx => by have := hYv.se _ hrys x hx; omega) (by omega)
  refine DO.loud rfl rfl (l_call ent86 (CallT.of_pure hk70) rfl ?_)
  clear hk70
  rintro vr O' ⟨N, rfl, zt, ztc, rfl, rfl⟩
  refine ⟨by exact Sub.d (.d (.d (.d (.k (.d (.d (.k (.k (.d (.d (.k (.d (.k (.k .z)))))))))))))), ?_⟩
  refine DO.loud rfl rfl (l_buildSlice (m := 2) (parts := [(0, .tmp 64), (1, .tmp 70)]) (cs := [(.slice rx.b rx.xs.length rx.c), (.slice zt ry.xs.length ztc)]) Try.underlying24 inf22 (by decide) (by kernel_rfl) rfl (fun bx7 => ⟨by exact Sub.d (.d (.d (.d (.d (.k (.d (.d (.k (.k (.d (.d (.k (.d (.k (.k .z))))))))))))))), ?_⟩))
  have hk72 := fun (w1 : World) (hI : Inv w ([rowI (some ⟨bx7, 0, none⟩) 2 22 1 [(.slice rx.b rx.xs.length rx.c), (.slice zt ry.xs.length ztc)], rowI zt ztc 3 1 (ints (ry.xs.map fun x => x + (((dgB a).states.toNat : Nat) : Int))), rowI cs3 cs3c 3 1 (ints ((dgB a).start ++ ((dgB b).start.map fun x => x + (((dgB a).states.toNat : Nat) : Int)))), rowI (some ⟨bx6, 0, none⟩) 2 22 1 [(.slice sx ((dgB a).start.length) sxc), (.slice zs ((dgB b).start.length) zsc)], rowI zs zsc 3 1 (ints ((dgB b).start.map fun x => x + (((dgB a).states.toNat : Nat) : Int))), oI bx5 26 [(.int .i64 (dgB b).vars), (.int .i64 (dgB b).states), (.slice sy ((dgB b).start.length) syc), (.slice ey ((dgB b).edges.length) eyc), (.slice ty ((dgB b).sets.length) tyc)], rowI sy syc 3 1 (ints (dgB b).start), rowI ey eyc 54 4 (edsC (dgB b).edges), rowI ty tyc 22 1 (vals qy), oI bx4 26 [(.int .i64 (dgB a).vars), (.int .i64 (dgB a).states), (.slice sx ((dgB a).start.length) sxc), (.slice ex ((dgB a).edges.length) exc), (.slice tx ((dgB a).sets.length) txc)], rowI sx sxc 3 1 (ints (dgB a).start), rowI ex exc 54 4 (edsC (dgB a).edges), rowI tx txc 22 1 (vals qx), oI bx3 26 [(.int .i64 0), (.int .i64 0), (.slice none 0 0), (.slice none 0 0), (.slice none 0 0)], oI bx2 26 (buCells b sb sc eb ec tb tc), oI bx1 26 (buCells a sA sAc eA eAc tA tAc)] ++ ((itms 3 qy) ++ (itms 3 qx))) w1) => (by
    have hC := concatI w1 (some ⟨bx7, 0, none⟩) 2 [(.slice rx.b rx.xs.length rx.c), (.slice zt ry.xs.length ztc)] [rx.xs, (ry.xs.map fun x => x + (((dgB a).states.toNat : Nat) : Int))] (hI.slOf (List.mem_of_getElem? (i := 0) rfl)) (rowsR_two (hI.slOf (List.mem_append_right _ (by simp only [itms, List.mem_append, List.mem_map]; first | exact .inl ⟨rx, hrxm, rfl⟩ | exact .inr ⟨rx, hrxm, rfl⟩ | exact .inr (.inl ⟨rx, hrxm, rfl⟩) | exact ⟨rx, hrxm, rfl⟩))) (hI.slOf (List.mem_of_getElem? (i := 1) rfl)) rfl (by rw [List.length_map])) (by simp) (by simp; omega)
    rw [show [rx.xs, (ry.xs.map fun x => x + (((dgB a).states.toNat : Nat) : Int))].flatten = rx.xs ++ (ry.xs.map fun x => x + (((dgB a).states.toNat : Nat) : Int)) by simp] at hC; exact hC)
  refine DO.loud rfl rfl (l_call ent91 (CallT.of_pure hk72) rfl ?_)
  clear hk72
  rintro vr O' ⟨N, rfl, cs4, cs4c, rfl, rfl⟩
  refine ⟨by exact Sub.d (.d (.d (.d (.d (.d (.k (.d (.d (.k (.k (.d (.d (.k (.d (.k (.k .z)))))))))))))))), ?_⟩
  refine DO.loud rfl rfl (l_build1 (v := (.slice cs4 ((rx.xs ++ (ry.xs.map fun x => x + (((dgB a).states.toNat : Nat) : Int))).length) cs4c)) Try.underlying24 inf22 rfl rfl rfl (fun bx8 => ⟨by exact Sub.d (.d (.d (.d (.d (.d (.d (.k (.d (.d (.k (.k (.d (.d (.k (.d (.k (.k .z))))))))))))))))), ?_⟩))
  refine DO.quiet rfl (q_build (cs := [(.int .i64 a.vars), .int .i64 ((((dgB a).states.toNat) + ((dgB b).states.toNat) : Nat) : Int), (.slice cs3 (((dgB a).start ++ ((dgB b).start.map fun x => x + (((dgB a).states.toNat : Nat) : Int))).length) cs3c), (.slice ex ((dgB a).edges.length) exc), (.slice (some ⟨bx8, 0, none⟩) 1 1)]) plan26 inf26 (by kernel_rfl)) ?_
  refine DO.last rfl rfl (l_store_box (v := (.agg #[(.int .i64 a.vars), .int .i64 ((((dgB a).states.toNat) + ((dgB b).states.toNat) : Nat) : Int), (.slice cs3 (((dgB a).start ++ ((dgB b).start.map fun x => x + (((dgB a).states.toNat : Nat) : Int))).length) cs3c), (.slice ex ((dgB a).edges.length) exc), (.slice (some ⟨bx8, 0, none⟩) 1 1)])) (vs := [(.int .i64 a.vars), .int .i64 ((((dgB a).states.toNat) + ((dgB b).states.toNat) : Nat) : Int), (.slice cs3 (((dgB a).start ++ ((dgB b).start.map fun x => x + (((dgB a).states.toNat : Nat) : Int))).length) cs3c), (.slice ex ((dgB a).edges.length) exc), (.slice (some ⟨bx8, 0, none⟩) 1 1)]) 15 inf26 rfl rfl rfl rfl rfl rfl (by simp [putL]) ?_)
  refine DO.done ?_
  refine T.seq (T.seq (T.region ?_))
  refine TO.quiet (q_fieldAddr Try.underlying26 rfl inf23 rfl rfl) (TO.quiet (q_load_box 7 Try.underlying23 rfl rfl rfl rfl) (TO.quiet (q_len Try.underlying23 rfl) (TO.quiet (q_move rfl) ?_)))
  refine TO.nil (T.block ?_)
  refine T.sub (O' := [rowI ex exc 54 4 (edsC (dgB a).edges), rowI (some ⟨bx8, 0, none⟩) 1 22 1 [(.slice cs4 ((rx.xs ++ (ry.xs.map fun x => x + (((dgB a).states.toNat : Nat) : Int))).length) cs4c)], rowI cs4 cs4c 3 1 (ints (rx.xs ++ (ry.xs.map fun x => x + (((dgB a).states.toNat : Nat) : Int)))), rowI (some ⟨bx7, 0, none⟩) 2 22 1 [(.slice rx.b rx.xs.length rx.c), (.slice zt ry.xs.length ztc)], rowI zt ztc 3 1 (ints (ry.xs.map fun x => x + (((dgB a).states.toNat : Nat) : Int))), rowI cs3 cs3c 3 1 (ints ((dgB a).start ++ ((dgB b).start.map fun x => x + (((dgB a).states.toNat : Nat) : Int)))), rowI (some ⟨bx6, 0, none⟩) 2 22 1 [(.slice sx ((dgB a).start.length) sxc), (.slice zs ((dgB b).start.length) zsc)], rowI zs zsc 3 1 (ints ((dgB b).start.map fun x => x + (((dgB a).states.toNat : Nat) : Int))), oI bx5 26 [(.int .i64 (dgB b).vars), (.int .i64 (dgB b).states), (.slice sy ((dgB b).start.length) syc), (.slice ey ((dgB b).edges.length) eyc), (.slice ty ((dgB b).sets.length) tyc)], rowI sy syc 3 1 (ints (dgB b).start), rowI ey eyc 54 4 (edsC (dgB b).edges), rowI ty tyc 22 1 (vals qy), oI bx4 26 [(.int .i64 (dgB a).vars), (.int .i64 (dgB a).states), (.slice sx ((dgB a).start.length) sxc), (.slice ex ((dgB a).edges.length) exc), (.slice tx ((dgB a).sets.length) txc)], rowI sx sxc 3 1 (ints (dgB a).start), rowI tx txc 22 1 (vals qx), oI bx3 26 [(.int .i64 a.vars), .int .i64 ((((dgB a).states.toNat) + ((dgB b).states.toNat) : Nat) : Int), (.slice cs3 (((dgB a).start ++ ((dgB b).start.map fun x => x + (((dgB a).states.toNat : Nat) : Int))).length) cs3c), (.slice ex ((dgB a).edges.length) exc), (.slice (some ⟨bx8, 0, none⟩) 1 1)], oI bx2 26 (buCells b sb sc eb ec tb tc), oI bx1 26 (buCells a sA sAc eA eAc tA tAc)] ++ (itms 3 qy) ++ (itms 3 qx)) (by exact Sub.pull [rowI (some ⟨bx8, 0, none⟩) 1 22 1 [(.slice cs4 ((rx.xs ++ (ry.xs.map fun x => x + (((dgB a).states.toNat : Nat) : Int))).length) cs4c)], rowI cs4 cs4c 3 1 (ints (rx.xs ++ (ry.xs.map fun x => x + (((dgB a).states.toNat : Nat) : Int)))), rowI (some ⟨bx7, 0, none⟩) 2 22 1 [(.slice rx.b rx.xs.length rx.c), (.slice zt ry.xs.length ztc)], rowI zt ztc 3 1 (ints (ry.xs.map fun x => x + (((dgB a).states.toNat : Nat) : Int))), rowI cs3 cs3c 3 1 (ints ((dgB a).start ++ ((dgB b).start.map fun x => x + (((dgB a).states.toNat : Nat) : Int)))), rowI (some ⟨bx6, 0, none⟩) 2 22 1 [(.slice sx ((dgB a).start.length) sxc), (.slice zs ((dgB b).start.length) zsc)], rowI zs zsc 3 1 (ints ((dgB b).start.map fun x => x + (((dgB a).states.toNat : Nat) : Int))), oI bx5 26 [(.int .i64 (dgB b).vars), (.int .i64 (dgB b).states), (.slice sy ((dgB b).start.length) syc), (.slice ey ((dgB b).edges.length) eyc), (.slice ty ((dgB b).sets.length) tyc)], rowI sy syc 3 1 (ints (dgB b).start), rowI ey eyc 54 4 (edsC (dgB b).edges), rowI ty tyc 22 1 (vals qy), oI bx4 26 [(.int .i64 (dgB a).vars), (.int .i64 (dgB a).states), (.slice sx ((dgB a).start.length) sxc), (.slice ex ((dgB a).edges.length) exc), (.slice tx ((dgB a).sets.length) txc)], rowI sx sxc 3 1 (ints (dgB a).start)] _ (.k (.k (.k (.k (.k (.k (.k (.k (.k (.k (.k (.k (.k (.k (.k (.k (.k .rf)))))))))))))))))) ?_
  
  refine T.loopS (fun (k : Nat) ρ O => ∃ (eb6 : Option Addr) (ec6 : Nat), O = ([rowI eb6 ec6 54 4 (edsC (joT (dgB a) (dgB b) k)), rowI (some ⟨bx8, 0, none⟩) 1 22 1 [(.slice cs4 ((rx.xs ++ (ry.xs.map fun x => x + (((dgB a).states.toNat : Nat) : Int))).length) cs4c)], rowI cs4 cs4c 3 1 (ints (rx.xs ++ (ry.xs.map fun x => x + (((dgB a).states.toNat : Nat) : Int)))), rowI (some ⟨bx7, 0, none⟩) 2 22 1 [(.slice rx.b rx.xs.length rx.c), (.slice zt ry.xs.length ztc)], rowI zt ztc 3 1 (ints (ry.xs.map fun x => x + (((dgB a).states.toNat : Nat) : Int))), rowI cs3 cs3c 3 1 (ints ((dgB a).start ++ ((dgB b).start.map fun x => x + (((dgB a).states.toNat : Nat) : Int)))), rowI (some ⟨bx6, 0, none⟩) 2 22 1 [(.slice sx ((dgB a).start.length) sxc), (.slice zs ((dgB b).start.length) zsc)], rowI zs zsc 3 1 (ints ((dgB b).start.map fun x => x + (((dgB a).states.toNat : Nat) : Int))), oI bx5 26 [(.int .i64 (dgB b).vars), (.int .i64 (dgB b).states), (.slice sy ((dgB b).start.length) syc), (.slice ey ((dgB b).edges.length) eyc), (.slice ty ((dgB b).sets.length) tyc)], rowI sy syc 3 1 (ints (dgB b).start), rowI ey eyc 54 4 (edsC (dgB b).edges), rowI ty tyc 22 1 (vals qy), oI bx4 26 [(.int .i64 (dgB a).vars), (.int .i64 (dgB a).states), (.slice sx ((dgB a).start.length) sxc), (.slice ex ((dgB a).edges.length) exc), (.slice tx ((dgB a).sets.length) txc)], rowI sx sxc 3 1 (ints (dgB a).start), rowI tx txc 22 1 (vals qx), oI bx3 26 [(.int .i64 a.vars), .int .i64 ((((dgB a).states.toNat) + ((dgB b).states.toNat) : Nat) : Int), (.slice cs3 (((dgB a).start ++ ((dgB b).start.map fun x => x + (((dgB a).states.toNat : Nat) : Int))).length) cs3c), (.slice eb6 ((joT (dgB a) (dgB b) k).length) ec6), (.slice (some ⟨bx8, 0, none⟩) 1 1)], oI bx2 26 (buCells b sb sc eb ec tb tc), oI bx1 26 (buCells a sA sAc eA eAc tA tAc)] ++ ((itms 3 qy) ++ (itms 3 qx))) ∧ k ≤ (dgB b).edges.length ∧ Heads [(0, (.agg (buCells a sA sAc eA eAc tA tAc).toArray)), (1, (.agg (buCells b sb sc eb ec tb tc).toArray)), (2, (.pointer (some ⟨bx1, 0, none⟩))), (3, (.pointer (some ⟨bx2, 0, none⟩))), (4, (.pointer (some ⟨bx3, 0, none⟩))), (5, .int .i64 ((degE b : Nat) : Int)), (6, .int .i64 ((pairE a b : Nat) : Int)), (7, (.pointer (some ⟨bx4, 0, none⟩))), (8, (.pointer (some ⟨bx5, 0, none⟩))), (9, .int .i64 (((dgB a).states.toNat : Nat) : Int)), (76, (.slice ey ((dgB b).edges.length) eyc)), (77, .int .i64 ((dgB b).edges.length : Int)), (78, .int .i64 (k : Int))] ρ) (fun k => (dgB b).edges.length - k) 0 ?_ ?_
  · exact ⟨ex, exc, (by rw [joT_zero] <;> rfl), Nat.zero_le _, ⟨rfl, rfl, rfl, rfl, rfl, rfl, rfl, rfl, rfl, rfl, rfl, rfl, rfl, trivial⟩⟩
  rintro k ρ O ⟨eb6, ec6, rfl, hk, hH⟩
  obtain ⟨ρ0, rfl⟩ := hH.elim
  clear hH
  have hjk := hjl k
  refine T.seq (T.region ?_)
  refine TO.quiet (q_lss rfl rfl) ?_
  refine TO.nil (T.seq ?_)
  refine T.condP rfl (fun hc => ?_) (fun hc => ?_)
  · have hlt79 : k < (dgB b).edges.length := by omega
    have hee := hYv.ed _ (List.getElem_mem hlt79)
    refine T.skip (T.seq (T.block (T.seq (T.region ?_))))
    refine TO.quiet (q_ixK (i := k) Try.underlying23 inf54 rfl rfl (rowO (List.mem_of_getElem? (i := 10) rfl)) (by first | assumption | omega | (simp; omega) | simp_all) (by first | (rw [eds_len]; omega) | (simp [eds_len]; omega) | (simp_all [eds_len]; omega))) (TO.quiet (q_ldK (vs := [.int .i64 ((dgB b).edges)[k].fr, .int .i64 ((dgB b).edges)[k].to, .int .u8 ((((dgB b).edges)[k].pos : Nat) : Int), .int .u8 ((((dgB b).edges)[k].neg : Nat) : Int)]) Try.underlying54 rfl inf54 rfl rfl (Nat.succ_pos _) (rowO (List.mem_of_getElem? (i := 10) rfl)) (eds_get (by first | assumption | omega | (simp; omega) | simp_all))) ?_)
    refine TO.loud rfl (l_alloc inf54 rfl (fun bx9 => ?_))
    refine TO.loud rfl (l_store_box (v := (.agg #[.int .i64 ((dgB b).edges)[k].fr, .int .i64 ((dgB b).edges)[k].to, .int .u8 ((((dgB b).edges)[k].pos : Nat) : Int), .int .u8 ((((dgB b).edges)[k].neg : Nat) : Int)])) (vs := [.int .i64 ((dgB b).edges)[k].fr, .int .i64 ((dgB b).edges)[k].to, .int .u8 ((((dgB b).edges)[k].pos : Nat) : Int), .int .u8 ((((dgB b).edges)[k].neg : Nat) : Int)]) 0 inf54 rfl rfl rfl rfl rfl rfl (by simp [putL]) ?_)
    refine TO.nil (T.seq (T.region ?_))
    refine TO.quiet (q_fieldAddr Try.underlying54 rfl inf3 rfl rfl) (TO.quiet (q_load_box 0 Try.underlying3 rfl rfl rfl rfl) (TO.quiet (q_move rfl) (TO.quiet (q_add64 rfl rfl (by omega)) ?_)))
    refine TO.quiet (q_fieldAddr Try.underlying54 rfl inf3 rfl rfl) (TO.quiet (q_load_box 0 Try.underlying3 rfl rfl rfl rfl) (TO.quiet (q_move rfl) (TO.quiet (q_add64 rfl rfl (by omega)) ?_)))
    refine TO.quiet (q_fieldAddr Try.underlying54 rfl inf3 rfl rfl) ?_
    refine TO.loud rfl (l_store_box (v := .int .i64 ((((dgB b).edges)[k].fr) + (((dgB a).states.toNat : Nat) : Int))) (vs := [(.int .i64 ((((dgB b).edges)[k].fr) + (((dgB a).states.toNat : Nat) : Int)))]) 0 inf3 rfl rfl rfl rfl rfl rfl (by simp [putL]) ?_)
    refine TO.quiet (q_fieldAddr Try.underlying54 rfl inf3 rfl rfl) ?_
    refine TO.loud rfl (l_store_box (v := .int .i64 ((((dgB b).edges)[k].to) + (((dgB a).states.toNat : Nat) : Int))) (vs := [(.int .i64 ((((dgB b).edges)[k].to) + (((dgB a).states.toNat : Nat) : Int)))]) 0 inf3 rfl rfl rfl rfl rfl rfl (by simp [putL]) ?_)
    refine TO.nil (T.region ?_)
    refine TO.quiet (q_fieldAddr Try.underlying26 rfl inf23 rfl rfl) (TO.quiet (q_load_box 16 Try.underlying23 rfl rfl rfl rfl) (TO.quiet (q_load_boxAgg 0 Try.underlying54 rfl inf54 rfl rfl rfl) ?_))
    refine TO.loud rfl (l_buildSlice (m := 1) (parts := [(0, _)]) (cs := [(.int .i64 ((((dgB b).edges)[k].fr) + (((dgB a).states.toNat : Nat) : Int))), (.int .i64 ((((dgB b).edges)[k].to) + (((dgB a).states.toNat : Nat) : Int))), .int .u8 ((((dgB b).edges)[k].pos : Nat) : Int), .int .u8 ((((dgB b).edges)[k].neg : Nat) : Int)]) Try.underlying23 inf54 (by decide) (by kernel_rfl) rfl (fun bx10 => ?_))
    refine TO.loud rfl (l_append 2 Try.underlying23 Try.underlying23 inf54 rfl rfl rfl rfl (by rw [eds_len]) (by decide) (Src.row (j := 0) rfl (by simp)) (by simp [oneB]) (by omega) (by decide) (by decide) (fun bx11 c12 => ?_))
    refine TO.quiet (q_fieldAddr Try.underlying26 rfl inf23 rfl rfl) ?_
    refine TO.loud rfl (l_store_box (v := (.slice bx11 (((joT (dgB a) (dgB b) k).length) + 1) c12)) (vs := [(.slice bx11 (((joT (dgB a) (dgB b) k).length) + 1) c12)]) 17 inf23 rfl rfl rfl rfl rfl rfl (by simp [putL]) ?_)
    refine TO.nil (T.region ?_)
    refine TO.quiet (q_addN (a := k) (b := 1) rfl rfl (by omega)) (TO.quiet (q_move rfl) ?_)
    refine TO.nil ?_
    refine ⟨k + 1, by omega, ([rowI bx11 c12 54 4 ((edsC (joT (dgB a) (dgB b) k)) ++ [(.int .i64 ((((dgB b).edges)[k].fr) + (((dgB a).states.toNat : Nat) : Int))), (.int .i64 ((((dgB b).edges)[k].to) + (((dgB a).states.toNat : Nat) : Int))), .int .u8 ((((dgB b).edges)[k].pos : Nat) : Int), .int .u8 ((((dgB b).edges)[k].neg : Nat) : Int)]), rowI (some ⟨bx8, 0, none⟩) 1 22 1 [(.slice cs4 ((rx.xs ++ (ry.xs.map fun x => x + (((dgB a).states.toNat : Nat) : Int))).length) cs4c)], rowI cs4 cs4c 3 1 (ints (rx.xs ++ (ry.xs.map fun x => x + (((dgB a).states.toNat : Nat) : Int)))), rowI (some ⟨bx7, 0, none⟩) 2 22 1 [(.slice rx.b rx.xs.length rx.c), (.slice zt ry.xs.length ztc)], rowI zt ztc 3 1 (ints (ry.xs.map fun x => x + (((dgB a).states.toNat : Nat) : Int))), rowI cs3 cs3c 3 1 (ints ((dgB a).start ++ ((dgB b).start.map fun x => x + (((dgB a).states.toNat : Nat) : Int)))), rowI (some ⟨bx6, 0, none⟩) 2 22 1 [(.slice sx ((dgB a).start.length) sxc), (.slice zs ((dgB b).start.length) zsc)], rowI zs zsc 3 1 (ints ((dgB b).start.map fun x => x + (((dgB a).states.toNat : Nat) : Int))), oI bx5 26 [(.int .i64 (dgB b).vars), (.int .i64 (dgB b).states), (.slice sy ((dgB b).start.length) syc), (.slice ey ((dgB b).edges.length) eyc), (.slice ty ((dgB b).sets.length) tyc)], rowI sy syc 3 1 (ints (dgB b).start), rowI ey eyc 54 4 (edsC (dgB b).edges), rowI ty tyc 22 1 (vals qy), oI bx4 26 [(.int .i64 (dgB a).vars), (.int .i64 (dgB a).states), (.slice sx ((dgB a).start.length) sxc), (.slice ex ((dgB a).edges.length) exc), (.slice tx ((dgB a).sets.length) txc)], rowI sx sxc 3 1 (ints (dgB a).start), rowI tx txc 22 1 (vals qx), oI bx3 26 [(.int .i64 a.vars), .int .i64 ((((dgB a).states.toNat) + ((dgB b).states.toNat) : Nat) : Int), (.slice cs3 (((dgB a).start ++ ((dgB b).start.map fun x => x + (((dgB a).states.toNat : Nat) : Int))).length) cs3c), (.slice bx11 (((joT (dgB a) (dgB b) k).length) + 1) c12), (.slice (some ⟨bx8, 0, none⟩) 1 1)], oI bx2 26 (buCells b sb sc eb ec tb tc), oI bx1 26 (buCells a sA sAc eA eAc tA tAc)] ++ ((itms 3 qy) ++ (itms 3 qx))), (by exact Sub.d (.d (.k (.k (.k (.k (.k (.k (.k (.k (.k (.k (.k (.k (.k (.k (.k (.k (.k (.k .rf)))))))))))))))))))), bx11, c12, ?_, by omega, ⟨rfl, rfl, rfl, rfl, rfl, rfl, rfl, rfl, rfl, rfl, rfl, rfl, rfl, trivial⟩⟩
    rw [joT_succ hlt79, eds_append, show ((joT (dgB a) (dgB b) k) ++ [shE (dgB a).states.toNat ((dgB b).edges)[k]]).length = (joT (dgB a) (dgB b) k).length + 1 by simp] <;> rfl
  have hge79 : ¬ k < (dgB b).edges.length := by omega
  refine T.exit ?_
  refine T.seq (T.region ?_)
  refine TO.quiet (q_load_boxAgg 15 Try.underlying26 rfl inf26 rfl rfl rfl) ?_
  refine TO.loud rfl (l_store_box (v := (.agg #[(.int .i64 a.vars), .int .i64 ((((dgB a).states.toNat) + ((dgB b).states.toNat) : Nat) : Int), (.slice cs3 (((dgB a).start ++ ((dgB b).start.map fun x => x + (((dgB a).states.toNat : Nat) : Int))).length) cs3c), (.slice eb6 ((joT (dgB a) (dgB b) k).length) ec6), (.slice (some ⟨bx8, 0, none⟩) 1 1)])) (vs := [(.int .i64 a.vars), .int .i64 ((((dgB a).states.toNat) + ((dgB b).states.toNat) : Nat) : Int), (.slice cs3 (((dgB a).start ++ ((dgB b).start.map fun x => x + (((dgB a).states.toNat : Nat) : Int))).length) cs3c), (.slice eb6 ((joT (dgB a) (dgB b) k).length) ec6), (.slice (some ⟨bx8, 0, none⟩) 1 1)]) 15 inf26 rfl rfl rfl rfl rfl rfl (by simp [putL]) ?_)
  refine TO.quiet (q_assign rfl) ?_
  refine TO.nil (T.ret (Res.drop ?_))
  refine Res.cell1b (.int .i64 0) (i := 15) Try.results40 Try.underlying26 rfl inf26 rfl rfl rfl rfl ?_
  have hE0 : unE a b = 0 := by unfold unE; rw [if_neg (by omega), if_neg (by omega), if_neg (by omega), ← hXe, ← hYe, if_neg (by omega)]
  have hun : unB a b = joinB (dgB a) (dgB b) := by unfold unB; rw [if_pos hE0, hXe, hYe]
  have hds : (joinB (dgB a) (dgB b)).sets = [rx.xs ++ (ry.xs.map fun x => x + (((dgB a).states.toNat : Nat) : Int))] := by unfold joinB; rw [hrx, hry]
  have hde : (joinB (dgB a) (dgB b)).edges = (joT (dgB a) (dgB b) k) := by rw [show k = (dgB b).edges.length by omega]; exact (joT_all _ _).symm
  have hva9 : (dgB a).vars = a.vars := by rw [hXe]; rfl
  have hdv : (joinB (dgB a) (dgB b)).vars = a.vars := hva9
  refine ⟨[rowI cs3 cs3c 3 1 (ints ((dgB a).start ++ ((dgB b).start.map fun x => x + (((dgB a).states.toNat : Nat) : Int)))), rowI eb6 ec6 54 4 (edsC (joT (dgB a) (dgB b) k)), rowI (some ⟨bx8, 0, none⟩) 1 22 1 [(.slice cs4 ((rx.xs ++ (ry.xs.map fun x => x + (((dgB a).states.toNat : Nat) : Int))).length) cs4c)]] ++ itms 3 [⟨cs4, cs4c, rx.xs ++ (ry.xs.map fun x => x + (((dgB a).states.toNat : Nat) : Int))⟩], (by exact Sub.pull [rowI eb6 ec6 54 4 (edsC (joT (dgB a) (dgB b) k)), rowI (some ⟨bx8, 0, none⟩) 1 22 1 [(.slice cs4 ((rx.xs ++ (ry.xs.map fun x => x + (((dgB a).states.toNat : Nat) : Int))).length) cs4c)], rowI cs4 cs4c 3 1 (ints (rx.xs ++ (ry.xs.map fun x => x + (((dgB a).states.toNat : Nat) : Int)))), rowI (some ⟨bx7, 0, none⟩) 2 22 1 [(.slice rx.b rx.xs.length rx.c), (.slice zt ry.xs.length ztc)], rowI zt ztc 3 1 (ints (ry.xs.map fun x => x + (((dgB a).states.toNat : Nat) : Int)))] _ (.k (.k (.k .z)))), cs3, eb6, (some ⟨bx8, 0, none⟩), cs3c, ec6, 1, [⟨cs4, cs4c, rx.xs ++ (ry.xs.map fun x => x + (((dgB a).states.toNat : Nat) : Int))⟩], ?_, ?_, ?_⟩
  · rw [hun, hE0]; simp only [buCells, hde, hds, hdv]; rfl
  · rw [hun, hde]; rfl
  · rw [hun, hds]; rfl
end Go.Proofs.Ytnamoapbienooaa

