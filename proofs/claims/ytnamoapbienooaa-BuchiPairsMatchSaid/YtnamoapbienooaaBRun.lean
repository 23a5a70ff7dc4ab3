/- Contracts of functions of the program (BRun): what each call answers and that it leaves memory as it was. Conditions: those each theorem names. -/
import Derived.Test.YtnamoapbienooaaBPai
import Derived.Test.YtnamoapbienooaaBRdg
import Derived.Test.YtnamoapbienooaaBUni
import Derived.Test.YtnamoapbienooaaLv
set_option linter.unusedSectionVars false
set_option linter.unusedSimpArgs false
set_option linter.unusedVariables false
set_option linter.unnecessarySimpa false
set_option maxRecDepth 20000
set_option maxHeartbeats 4000000
namespace Go.Proofs.Ytnamoapbienooaa
open Go.Lx Go.RowKit
set_option linter.unusedVariables false
set_option linter.unusedSimpArgs false
theorem refUnionF (w : World) (a : Bu) (sA eA tA : Option Addr) (sAc eAc tAc : Nat) (vA : List Value) (hA : BuAt w a sA eA tA vA) (hAB : BuB a) (b : Bu) (sb eb tb : Option Addr) (sc ec tc : Nat) (vs : List Value) (h : BuAt w b sb eb tb vs) (hB : BuB b) (hAe : a.edges.length ≤ 100000) (hBe : b.edges.length ≤ 100000) :
  PureT Try.prog 41 [.agg (buC a sA sAc eA eAc tA tAc).toArray, .agg (buC b sb sc eb ec tb tc).toArray] w fun v N => ∃ sb2 eb2 tb2 sc2 ec2 tc2 qs, v = .tuple #[.agg (buC (unB a b) sb2 sc2 eb2 ec2 tb2 tc2).toArray, .int .i64 ((unE a b : Nat) : Int)] ∧ N = [rowI sb2 sc2 3 1 (ints (unB a b).start), rowI eb2 ec2 54 4 (edsC (unB a b).edges), rowI tb2 tc2 22 1 (vals qs)] ++ itms 3 qs ∧ nums qs = (unB a b).sets := by
 refine CallT.enter Try.func41 rfl Try.ntmps41 rfl ?_
 refine T.seq (T.rg (TO.l rfl (l_box (v := (.agg (buC a sA sAc eA eAc tA tAc).toArray)) (cs := (buC a sA sAc eA eAc tA tAc)) rfl rfl (fun bx1 => ?_))))
 refine TO.l rfl (l_box (v := (.agg (buC b sb sc eb ec tb tc).toArray)) (cs := (buC b sb sc eb ec tb tc)) rfl rfl (fun bx2 => ?_))
 refine TO.l rfl (l_alloc inf26 rfl (fun bx3 => ?_))
 refine TO.qa rfl (TO.nil (T.seq (T.seq (T.rg (TO.q (q_la 2 Try.underlying26 rfl inf26 rfl rfl rfl) (TO.q (q_la 1 Try.underlying26 rfl inf26 rfl rfl rfl) ?_))))))
 have hk15 := fun (w1 : World) (hI : Inv w [oI bx3 26 [(.int .i64 0), (.int .i64 0), nS, nS, nS], oI bx2 26 (buC b sb sc eb ec tb tc), oI bx1 26 (buC a sA sAc eA eAc tA tAc)] w1) => refPairF w1 a sA eA tA sAc eAc tAc vA (hI.bu hA) hAB b sb eb tb sc ec tc vs (hI.bu h) hB
 refine TO.l rfl (l_call ent92 (CallT.pu hk15) rfl ?_)
 clear hk15
 rintro vr O' ⟨N, rfl, rfl, rfl⟩
 refine TO.qa rfl (TO.nil (T.seq (T.rg (TO.qm rfl (TO.q (q_neq rfl rfl) (TO.nil (T.condP rfl (fun hc => ?_) (fun hc => ?_))))))))
 ·have hlt17 : pairE a b ≠ 0 := by omega
  refine T.seq (T.nilRow 22 1 ?_)
  refine T.nilRow 54 4 ?_
  refine T.nilRow 3 1 ?_
  refine T.rg (TO.q (q_build plan26 inf26 rfl) (TO.qm rfl (TO.l rfl (l_sb (v := (.agg #[(.int .i64 0), (.int .i64 0), nS, nS, nS])) (vs := [(.int .i64 0), (.int .i64 0), nS, nS, nS]) 3 inf26 rfl rfl rfl rfl rfl rfl (by simp [putL]) ?_))))
  refine TO.qa rfl (TO.nil (T.ret (Res.drop ?_)))
  refine Res.cell1b (.int .i64 ((pairE a b : Nat) : Int)) (i := 3) Try.results41 Try.underlying26 rfl inf26 rfl rfl rfl rfl ?_
  have hE9 : unE a b = pairE a b := by unfold unE; rw [if_pos (by omega)]
  have hz9 : unB a b = zeroBu := by unfold unB; rw [if_neg (by rw [hE9]; omega)]
  refine ⟨[rowI none 0 3 1 [], rowI none 0 54 4 [], rowI none 0 22 1 []] ++ itms 3 [], ?_, none, none, none, 0, 0, 0, [], ?_, ?_, ?_⟩
  ·exact Sub.ca [oI bx3 26 [(.int .i64 0), (.int .i64 0), nS, nS, nS], oI bx2 26 (buC b sb sc eb ec tb tc), oI bx1 26 (buC a sA sAc eA eAc tA tAc)]
  ·rw [hz9, hE9]; rfl
  ·rw [hz9]; rfl
  ·rw [hz9]; rfl
 have hge17 : ¬ pairE a b ≠ 0 := by omega
 refine T.skip (T.seq (T.rg (TO.q (q_la 2 Try.underlying26 rfl inf26 rfl rfl rfl) ?_)))
 have hk22 := fun (w1 : World) (hI : Inv w [oI bx3 26 [(.int .i64 0), (.int .i64 0), nS, nS, nS], oI bx2 26 (buC b sb sc eb ec tb tc), oI bx1 26 (buC a sA sAc eA eAc tA tAc)] w1) => refDegenF w1 a sA eA tA sAc eAc tAc vA (hI.bu hA) hAB
 refine TO.l rfl (l_call ent38 (CallT.pu hk22) rfl ?_)
 clear hk22
 rintro vr O' ⟨N, rfl, sx, ex, tx, sxc, exc, txc, qx, rfl, rfl, hqx⟩
 refine TO.sub (O' := ([rowI sx sxc 3 1 (ints (dgB a).start), rowI ex exc 54 4 (edsC (dgB a).edges), rowI tx txc 22 1 (vals qx), oI bx3 26 [(.int .i64 0), (.int .i64 0), nS, nS, nS], oI bx2 26 (buC b sb sc eb ec tb tc), oI bx1 26 (buC a sA sAc eA eAc tA tAc)] ++ (itms 3 qx))) (by exact Sub.swap3 [rowI sx sxc 3 1 (ints (dgB a).start), rowI ex exc 54 4 (edsC (dgB a).edges), rowI tx txc 22 1 (vals qx)] _ (itms 3 qx)) ?_
 refine TO.qm rfl (TO.q (q_extract (vs := _) rfl rfl) (TO.q (q_extract (vs := _) rfl rfl) (TO.l rfl (l_alloc inf26 rfl (fun bx4 => ?_)))))
 refine TO.l rfl (l_sb (v := (.agg (buC (dgB a) sx sxc ex exc tx txc).toArray)) (vs := (buC (dgB a) sx sxc ex exc tx txc)) 0 inf26 rfl rfl rfl rfl rfl rfl (by simp [putL]) ?_)
 refine TO.qa rfl (TO.nil (T.seq (T.seq (T.rg (TO.qm rfl (TO.q (q_neq rfl rfl) (TO.nil (T.condP rfl (fun hc => ?_) (fun hc => ?_)))))))))
 ·have hlt26 : degE a ≠ 0 := by omega
  refine T.seq (T.nilRow 22 1 ?_)
  refine T.nilRow 54 4 ?_
  refine T.nilRow 3 1 ?_
  refine T.rg (TO.q (q_build plan26 inf26 rfl) (TO.qm rfl (TO.l rfl (l_sb (v := (.agg #[(.int .i64 0), (.int .i64 0), nS, nS, nS])) (vs := [(.int .i64 0), (.int .i64 0), nS, nS, nS]) 7 inf26 rfl rfl rfl rfl rfl rfl (by simp [putL]) ?_))))
  refine TO.qa rfl (TO.nil (T.ret (Res.drop ?_)))
  refine Res.cell1b (.int .i64 ((degE a : Nat) : Int)) (i := 7) Try.results41 Try.underlying26 rfl inf26 rfl rfl rfl rfl ?_
  have hE9 : unE a b = degE a := by unfold unE; rw [if_neg (by omega), if_pos (by omega)]
  have hz9 : unB a b = zeroBu := by unfold unB; rw [if_neg (by rw [hE9]; omega)]
  refine ⟨[rowI none 0 3 1 [], rowI none 0 54 4 [], rowI none 0 22 1 []] ++ itms 3 [], ?_, none, none, none, 0, 0, 0, [], ?_, ?_, ?_⟩
  ·exact Sub.ca ([oI bx4 26 (buC (dgB a) sx sxc ex exc tx txc), rowI sx sxc 3 1 (ints (dgB a).start), rowI ex exc 54 4 (edsC (dgB a).edges), rowI tx txc 22 1 (vals qx), oI bx3 26 [(.int .i64 0), (.int .i64 0), nS, nS, nS], oI bx2 26 (buC b sb sc eb ec tb tc), oI bx1 26 (buC a sA sAc eA eAc tA tAc)] ++ (itms 3 qx))
  ·rw [hz9, hE9]; rfl
  ·rw [hz9]; rfl
  ·rw [hz9]; rfl
 have hge26 : ¬ degE a ≠ 0 := by omega
 refine T.skip (T.seq (T.rg (TO.q (q_la 5 Try.underlying26 rfl inf26 rfl rfl rfl) ?_)))
 have hk31 := fun (w1 : World) (hI : Inv w ([oI bx4 26 (buC (dgB a) sx sxc ex exc tx txc), rowI sx sxc 3 1 (ints (dgB a).start), rowI ex exc 54 4 (edsC (dgB a).edges), rowI tx txc 22 1 (vals qx), oI bx3 26 [(.int .i64 0), (.int .i64 0), nS, nS, nS], oI bx2 26 (buC b sb sc eb ec tb tc), oI bx1 26 (buC a sA sAc eA eAc tA tAc)] ++ (itms 3 qx)) w1) => refDegenF w1 b sb eb tb sc ec tc vs (hI.bu h) hB
 refine TO.l rfl (l_call ent38 (CallT.pu hk31) rfl ?_)
 clear hk31
 rintro vr O' ⟨N, rfl, sy, ey, ty, syc, eyc, tyc, qy, rfl, rfl, hqy⟩
 refine TO.sub (O' := ([rowI sy syc 3 1 (ints (dgB b).start), rowI ey eyc 54 4 (edsC (dgB b).edges), rowI ty tyc 22 1 (vals qy), oI bx4 26 (buC (dgB a) sx sxc ex exc tx txc), rowI sx sxc 3 1 (ints (dgB a).start), rowI ex exc 54 4 (edsC (dgB a).edges), rowI tx txc 22 1 (vals qx), oI bx3 26 [(.int .i64 0), (.int .i64 0), nS, nS, nS], oI bx2 26 (buC b sb sc eb ec tb tc), oI bx1 26 (buC a sA sAc eA eAc tA tAc)] ++ ((itms 3 qy) ++ (itms 3 qx)))) (by exact Sub.swap4 [rowI sy syc 3 1 (ints (dgB b).start), rowI ey eyc 54 4 (edsC (dgB b).edges), rowI ty tyc 22 1 (vals qy)] _ (itms 3 qy) (itms 3 qx)) ?_
 refine TO.qm rfl (TO.q (q_extract (vs := _) rfl rfl) (TO.q (q_extract (vs := _) rfl rfl) (TO.l rfl (l_alloc inf26 rfl (fun bx5 => ?_)))))
 refine TO.l rfl (l_sb (v := (.agg (buC (dgB b) sy syc ey eyc ty tyc).toArray)) (vs := (buC (dgB b) sy syc ey eyc ty tyc)) 0 inf26 rfl rfl rfl rfl rfl rfl (by simp [putL]) ?_)
 refine TO.qa rfl (TO.nil (T.seq (T.seq (T.rg (TO.qm rfl (TO.q (q_neq rfl rfl) (TO.nil (T.condP rfl (fun hc => ?_) (fun hc => ?_)))))))))
 ·have hlt35 : degE b ≠ 0 := by omega
  refine T.seq (T.nilRow 22 1 ?_)
  refine T.nilRow 54 4 ?_
  refine T.nilRow 3 1 ?_
  refine T.rg (TO.q (q_build plan26 inf26 rfl) (TO.qm rfl (TO.l rfl (l_sb (v := (.agg #[(.int .i64 0), (.int .i64 0), nS, nS, nS])) (vs := [(.int .i64 0), (.int .i64 0), nS, nS, nS]) 11 inf26 rfl rfl rfl rfl rfl rfl (by simp [putL]) ?_))))
  refine TO.qa rfl (TO.nil (T.ret (Res.drop ?_)))
  refine Res.cell1b (.int .i64 ((degE b : Nat) : Int)) (i := 11) Try.results41 Try.underlying26 rfl inf26 rfl rfl rfl rfl ?_
  have hE9 : unE a b = degE b := by unfold unE; rw [if_neg (by omega), if_neg (by omega), if_pos (by omega)]
  have hz9 : unB a b = zeroBu := by unfold unB; rw [if_neg (by rw [hE9]; omega)]
  refine ⟨[rowI none 0 3 1 [], rowI none 0 54 4 [], rowI none 0 22 1 []] ++ itms 3 [], ?_, none, none, none, 0, 0, 0, [], ?_, ?_, ?_⟩
  ·exact Sub.ca ([oI bx5 26 (buC (dgB b) sy syc ey eyc ty tyc), rowI sy syc 3 1 (ints (dgB b).start), rowI ey eyc 54 4 (edsC (dgB b).edges), rowI ty tyc 22 1 (vals qy), oI bx4 26 (buC (dgB a) sx sxc ex exc tx txc), rowI sx sxc 3 1 (ints (dgB a).start), rowI ex exc 54 4 (edsC (dgB a).edges), rowI tx txc 22 1 (vals qx), oI bx3 26 [(.int .i64 0), (.int .i64 0), nS, nS, nS], oI bx2 26 (buC b sb sc eb ec tb tc), oI bx1 26 (buC a sA sAc eA eAc tA tAc)] ++ (itms 3 qy) ++ (itms 3 qx))
  ·rw [hz9, hE9]; rfl
  ·rw [hz9]; rfl
  ·rw [hz9]; rfl
 have hge35 : ¬ degE b ≠ 0 := by omega
 refine T.skip (T.seq (T.seq ?_))
 have hda : degE a = 0 := by omega
 have hdb : degE b = 0 := by omega
 obtain ⟨hva, hna⟩ := degE_zero hda
 obtain ⟨hvb, hnb⟩ := degE_zero hdb
 have hXe : dgB a = degB a := by unfold dgB; rw [if_pos hda]
 have hYe : dgB b = degB b := by unfold dgB; rw [if_pos hdb]
 have hXv : ValidB (dgB a) := by rw [hXe]; exact deg_valid hva hna
 have hYv : ValidB (dgB b) := by rw [hYe]; exact deg_valid hvb hnb
 have hX0 := hXv.n0; have hX4 := hXv.n4; have hY0 := hYv.n0; have hY4 := hYv.n4
 have hXB := dgB_B hAB hAe; have hYB := dgB_B hB hBe
 have hxs := hXB.st; have hxe := hXB.ed; have hys := hYB.st; have hye := hYB.ed
 obtain ⟨rx, hqx1, hrx⟩ := one_rec hqx (by rw [hXe]; exact deg_len a)
 obtain ⟨ry, hqy1, hry⟩ := one_rec hqy (by rw [hYe]; exact deg_len b)
 have hrxm : rx ∈ qx := by rw [hqx1]; simp
 have hrym : ry ∈ qy := by rw [hqy1]; simp
 have hrxs : rx.xs ∈ (dgB a).sets := by rw [← hqx]; exact List.mem_map_of_mem hrxm
 have hrys : ry.xs ∈ (dgB b).sets := by rw [← hqy]; exact List.mem_map_of_mem hrym
 have hrxl := hXB.sr _ hrxs; have hryl := hYB.sr _ hrys
 have hjl := fun k => joT_len (x := dgB a) (y := dgB b) k
 refine T.rg (TO.q (q_fa Try.underlying26 rfl inf3 rfl rfl) (TO.q (QT.cast (q_lb 4 Try.underlying3 rfl rfl rfl rfl) (v' := .int .i64 (((dgB a).states.toNat : Nat) : Int)) (by show Value.int _ _ = _; rw [Int.toNat_of_nonneg hX0])) (TO.q (q_fa Try.underlying26 rfl inf3 rfl rfl) (TO.q (QT.cast (q_lb 0 Try.underlying3 rfl rfl rfl rfl) (v' := .int .i64 (((dgB b).states.toNat : Nat) : Int)) (by show Value.int _ _ = _; rw [Int.toNat_of_nonneg hY0])) (TO.q (q_addN (a := ((dgB a).states.toNat)) (b := ((dgB b).states.toNat)) rfl rfl (by omega)) (TO.q (q_gtr rfl rfl) (TO.nil (T.condP rfl (fun hc => ?_) (fun hc => ?_)))))))))
 ·have hlt43 : ((dgB a).states.toNat) + ((dgB b).states.toNat) > 4096 := by omega
  refine T.seq (T.nilRow 22 1 ?_)
  refine T.nilRow 54 4 ?_
  refine T.nilRow 3 1 ?_
  refine T.rg (TO.q (q_build plan26 inf26 rfl) (TO.l rfl (l_sb (v := (.agg #[(.int .i64 0), (.int .i64 0), nS, nS, nS])) (vs := [(.int .i64 0), (.int .i64 0), nS, nS, nS]) 11 inf26 rfl rfl rfl rfl rfl rfl (by simp [putL]) ?_)))
  refine TO.qa rfl (TO.nil (T.ret (Res.drop ?_)))
  refine Res.cell1b (.int .i64 10) (i := 11) Try.results41 Try.underlying26 rfl inf26 rfl rfl rfl rfl ?_
  have hE9 : unE a b = 10 := by unfold unE; rw [if_neg (by omega), if_neg (by omega), if_neg (by omega), ← hXe, ← hYe, if_pos (by omega)]
  have hz9 : unB a b = zeroBu := by unfold unB; rw [if_neg (by rw [hE9]; omega)]
  refine ⟨[rowI none 0 3 1 [], rowI none 0 54 4 [], rowI none 0 22 1 []] ++ itms 3 [], ?_, none, none, none, 0, 0, 0, [], ?_, ?_, ?_⟩
  ·exact Sub.ca ([oI bx5 26 (buC (dgB b) sy syc ey eyc ty tyc), rowI sy syc 3 1 (ints (dgB b).start), rowI ey eyc 54 4 (edsC (dgB b).edges), rowI ty tyc 22 1 (vals qy), oI bx4 26 (buC (dgB a) sx sxc ex exc tx txc), rowI sx sxc 3 1 (ints (dgB a).start), rowI ex exc 54 4 (edsC (dgB a).edges), rowI tx txc 22 1 (vals qx), oI bx3 26 [(.int .i64 0), (.int .i64 0), nS, nS, nS], oI bx2 26 (buC b sb sc eb ec tb tc), oI bx1 26 (buC a sA sAc eA eAc tA tAc)] ++ (itms 3 qy) ++ (itms 3 qx))
  ·rw [hz9, hE9]; rfl
  ·rw [hz9]; rfl
  ·rw [hz9]; rfl
 have hge43 : ¬ ((dgB a).states.toNat) + ((dgB b).states.toNat) > 4096 := by omega
 refine T.skip (T.seq (T.rg (TO.q (q_fa Try.underlying26 rfl inf3 rfl rfl) (TO.q (QT.cast (q_lb 4 Try.underlying3 rfl rfl rfl rfl) (v' := .int .i64 (((dgB a).states.toNat : Nat) : Int)) (by show Value.int _ _ = _; rw [Int.toNat_of_nonneg hX0])) (TO.qa rfl (TO.nil (T.seq (T.rg (TO.qm rfl (TO.q (q_fa Try.underlying26 rfl inf3 rfl rfl) (TO.q (QT.cast (q_lb 0 Try.underlying3 rfl rfl rfl rfl) (v' := .int .i64 (((dgB b).states.toNat : Nat) : Int)) (by show Value.int _ _ = _; rw [Int.toNat_of_nonneg hY0])) (TO.q (q_addN (a := ((dgB a).states.toNat)) (b := ((dgB b).states.toNat)) rfl rfl (by omega)) (TO.q (q_fa Try.underlying26 rfl inf3 rfl rfl) (TO.l rfl (l_sb (v := .int .i64 ((((dgB a).states.toNat) + ((dgB b).states.toNat) : Nat) : Int)) (vs := [(.int .i64 ((((dgB a).states.toNat) + ((dgB b).states.toNat) : Nat) : Int))]) 4 inf3 rfl rfl rfl rfl rfl rfl (by simp [putL]) ?_)))))))))))))))
 refine TO.nil (T.seq ?_)
 refine T.draws [oI bx5 26 (buC (dgB b) sy syc ey eyc ty tyc), oI bx4 26 [(.int .i64 (dgB a).vars), (.int .i64 ((((dgB a).states.toNat) + ((dgB b).states.toNat) : Nat) : Int)), (.slice sx ((dgB a).start.length) sxc), (.slice ex ((dgB a).edges.length) exc), (.slice tx ((dgB a).sets.length) txc)], oI bx2 26 (buC b sb sc eb ec tb tc), oI bx1 26 (buC a sA sAc eA eAc tA tAc)] [(0, 0), (1, 0), (2, 0), (3, 0), (4, 0), (5, 1), (6, 2), (7, 2), (8, 2)] mixed (by kernel_rfl) (by exact Sub.k (.d (.d (.d (.k (.d (.d (.d (.d (.k (.k .z))))))))))) (fun _ _ _ h => h) ?_
 refine DO.q rfl (q_fa Try.underlying26 rfl inf22 rfl rfl) (DO.q rfl (q_lb 1 Try.underlying22 rfl rfl rfl rfl) (DO.q rfl (q_fa Try.underlying26 rfl inf22 rfl rfl) (DO.q rfl (q_lb 0 Try.underlying22 rfl rfl rfl rfl) (DO.q rfl (q_move rfl) ?_))))
 have hk57 := fun (w1 : World) (hI : Inv w ([oI bx5 26 (buC (dgB b) sy syc ey eyc ty tyc), rowI sy syc 3 1 (ints (dgB b).start), rowI ey eyc 54 4 (edsC (dgB b).edges), rowI ty tyc 22 1 (vals qy), oI bx4 26 [(.int .i64 (dgB a).vars), (.int .i64 ((((dgB a).states.toNat) + ((dgB b).states.toNat) : Nat) : Int)), (.slice sx ((dgB a).start.length) sxc), (.slice ex ((dgB a).edges.length) exc), (.slice tx ((dgB a).sets.length) txc)], rowI sx sxc 3 1 (ints (dgB a).start), rowI ex exc 54 4 (edsC (dgB a).edges), rowI tx txc 22 1 (vals qx), oI bx3 26 [(.int .i64 0), (.int .i64 0), nS, nS, nS], oI bx2 26 (buC b sb sc eb ec tb tc), oI bx1 26 (buC a sA sAc eA eAc tA tAc)] ++ ((itms 3 qy) ++ (itms 3 qx))) w1) => shiftedF w1 sy syc (dgB b).start (dgB a).states.toNat (hI.slOf (mG 1 rfl)) hys (fun x hx => by have := hYv.st x hx; omega) (by omega)
 refine DO.loud rfl rfl (l_call ent93 (CallT.pu hk57) rfl ?_)
 clear hk57
 rintro vr O' ⟨N, rfl, zs, zsc, rfl, rfl⟩
 refine ⟨by exact Sub.d (.k (.d (.d (.d (.k (.d (.d (.d (.d (.k (.k .z))))))))))), ?_⟩
 refine DO.last rfl rfl (l_append 6 Try.underlying22 Try.underlying22 inf3 rfl rfl rfl rfl (by simp) (by decide) (Src.row (j := 0) rfl (by simp)) (by simp [oneB]) (by omega) (by decide) (by decide) (fun bx6 c7 => ?_))
 refine DO.last rfl rfl (LT.oq rfl rfl (q_fa Try.underlying26 rfl inf22 rfl rfl) ?_)
 refine DO.last rfl rfl (l_sb (v := (.slice bx6 (((dgB a).start.length) + ((dgB b).start.length)) c7)) (vs := [(.slice bx6 (((dgB a).start.length) + ((dgB b).start.length)) c7)]) 5 inf22 rfl rfl rfl rfl rfl rfl (by simp [putL]) ?_)
 refine DO.done ?_
 refine T.seq ?_
 refine T.sub (O' := ([rowI zs zsc 3 1 (ints ((dgB b).start.map fun x => x + (((dgB a).states.toNat : Nat) : Int))), oI bx5 26 (buC (dgB b) sy syc ey eyc ty tyc), rowI sy syc 3 1 (ints (dgB b).start), rowI ey eyc 54 4 (edsC (dgB b).edges), rowI ty tyc 22 1 (vals qy), oI bx4 26 [(.int .i64 (dgB a).vars), (.int .i64 ((((dgB a).states.toNat) + ((dgB b).states.toNat) : Nat) : Int)), (.slice bx6 (((dgB a).start.length) + ((dgB b).start.length)) c7), (.slice ex ((dgB a).edges.length) exc), (.slice tx ((dgB a).sets.length) txc)], rowI bx6 c7 3 1 ((ints (dgB a).start) ++ (ints ((dgB b).start.map fun x => x + (((dgB a).states.toNat : Nat) : Int)))), rowI ex exc 54 4 (edsC (dgB a).edges), rowI tx txc 22 1 (vals qx), oI bx3 26 [(.int .i64 0), (.int .i64 0), nS, nS, nS], oI bx2 26 (buC b sb sc eb ec tb tc), oI bx1 26 (buC a sA sAc eA eAc tA tAc)] ++ ((itms 3 qy) ++ (itms 3 qx)))) (by exact Sub.rf) ?_
 refine T.sub (O' := [rowI rx.b rx.c 3 1 (ints rx.xs), rowI zs zsc 3 1 (ints ((dgB b).start.map fun x => x + (((dgB a).states.toNat : Nat) : Int))), oI bx5 26 (buC (dgB b) sy syc ey eyc ty tyc), rowI sy syc 3 1 (ints (dgB b).start), rowI ey eyc 54 4 (edsC (dgB b).edges), rowI ty tyc 22 1 (vals qy), oI bx4 26 [(.int .i64 (dgB a).vars), (.int .i64 ((((dgB a).states.toNat) + ((dgB b).states.toNat) : Nat) : Int)), (.slice bx6 (((dgB a).start.length) + ((dgB b).start.length)) c7), (.slice ex ((dgB a).edges.length) exc), (.slice tx ((dgB a).sets.length) txc)], rowI bx6 c7 3 1 ((ints (dgB a).start) ++ (ints ((dgB b).start.map fun x => x + (((dgB a).states.toNat : Nat) : Int)))), rowI ex exc 54 4 (edsC (dgB a).edges), rowI tx txc 22 1 (vals qx), oI bx3 26 [(.int .i64 0), (.int .i64 0), nS, nS, nS], oI bx2 26 (buC b sb sc eb ec tb tc), oI bx1 26 (buC a sA sAc eA eAc tA tAc)] ++ ((itms 3 qy))) (by rw [hqx1]; exact Sub.cnt [] (by intro a; simp only [itms, Rec.itm, oI, List.set_cons_zero, List.set_cons_succ, putL, List.cons_append, List.nil_append, List.append_nil, List.append_assoc, List.map_append, List.map_cons, List.map_nil, cnt_append, cnt_cons, cnt_nil, buC, laC] <;> omega)) ?_
 refine T.draws [oI bx5 26 (buC (dgB b) sy syc ey eyc ty tyc), rowI ty tyc 22 1 (vals qy), oI bx4 26 [(.int .i64 (dgB a).vars), (.int .i64 ((((dgB a).states.toNat) + ((dgB b).states.toNat) : Nat) : Int)), (.slice bx6 (((dgB a).start.length) + ((dgB b).start.length)) c7), (.slice ex ((dgB a).edges.length) exc), (.slice tx ((dgB a).sets.length) txc)], rowI tx txc 22 1 (vals qx), oI bx2 26 (buC b sb sc eb ec tb tc), oI bx1 26 (buC a sA sAc eA eAc tA tAc)] [(0, 0), (1, 0), (2, 0), (3, 0), (4, 0), (5, 0), (6, 0), (7, 0), (8, 0), (9, 0), (10, 0), (11, 1), (12, 1), (13, 0), (14, 2)] mixed (by kernel_rfl) (by exact Sub.d (.d (.k (.d (.d (.k (.k (.d (.d (.k (.d (.k (.k .z))))))))))))) (fun _ _ _ h => h) ?_
 refine DO.q rfl (q_fa Try.underlying26 rfl inf24 rfl rfl) (DO.q rfl (q_lb 2 Try.underlying24 rfl rfl rfl rfl) (DO.q rfl (q_fa Try.underlying26 rfl inf24 rfl rfl) (DO.q rfl (q_lb 2 Try.underlying24 rfl rfl rfl rfl) (DO.q rfl (q_ix (i := 0) Try.underlying24 inf22 rfl rfl (rowO (mG 3 rfl)) (by have h9 := deg_len a; rw [← hXe] at h9; omega) (by rw [hqx1]; exact Nat.zero_lt_one)) (DO.q rfl (q_ld Try.underlying22 rfl rfl (rowO (mG 3 rfl)) (show (vals qx)[0]? = some (.slice rx.b rx.xs.length rx.c) by rw [hqx1]; rfl)) (DO.q rfl (q_fa Try.underlying26 rfl inf24 rfl rfl) (DO.q rfl (q_lb 0 Try.underlying24 rfl rfl rfl rfl) (DO.q rfl (q_ix (i := 0) Try.underlying24 inf22 rfl rfl (rowO (mG 1 rfl)) (by have h9 := deg_len b; rw [← hYe] at h9; omega) (by rw [hqy1]; exact Nat.zero_lt_one)) (DO.q rfl (q_ld Try.underlying22 rfl rfl (rowO (mG 1 rfl)) (show (vals qy)[0]? = some (.slice ry.b ry.xs.length ry.c) by rw [hqy1]; rfl)) (DO.q rfl (q_move rfl) ?_))))))))))
 have hk71 := fun (w1 : World) (hI : Inv w ([rowI rx.b rx.c 3 1 (ints rx.xs), rowI zs zsc 3 1 (ints ((dgB b).start.map fun x => x + (((dgB a).states.toNat : Nat) : Int))), oI bx5 26 (buC (dgB b) sy syc ey eyc ty tyc), rowI sy syc 3 1 (ints (dgB b).start), rowI ey eyc 54 4 (edsC (dgB b).edges), rowI ty tyc 22 1 (vals qy), oI bx4 26 [(.int .i64 (dgB a).vars), (.int .i64 ((((dgB a).states.toNat) + ((dgB b).states.toNat) : Nat) : Int)), (.slice bx6 (((dgB a).start.length) + ((dgB b).start.length)) c7), (.slice ex ((dgB a).edges.length) exc), (.slice tx ((dgB a).sets.length) txc)], rowI bx6 c7 3 1 ((ints (dgB a).start) ++ (ints ((dgB b).start.map fun x => x + (((dgB a).states.toNat : Nat) : Int)))), rowI ex exc 54 4 (edsC (dgB a).edges), rowI tx txc 22 1 (vals qx), oI bx3 26 [(.int .i64 0), (.int .i64 0), nS, nS, nS], oI bx2 26 (buC b sb sc eb ec tb tc), oI bx1 26 (buC a sA sAc eA eAc tA tAc)] ++ (itms 3 qy)) w1) => shiftedF w1 ry.b ry.c ry.xs (dgB a).states.toNat (hI.slOf (List.mem_append_right _ (by simp only [itms, List.mem_append, List.mem_map]; first | exact .inl ⟨ry, hrym, rfl⟩ | exact .inr ⟨ry, hrym, rfl⟩ | exact .inr (.inl ⟨ry, hrym, rfl⟩) | exact ⟨ry, hrym, rfl⟩))) hryl (fun x hx => by have := hYv.se _ hrys x hx; omega) (by omega)
 refine DO.loud rfl rfl (l_call ent93 (CallT.pu hk71) rfl ?_)
 clear hk71
 rintro vr O' ⟨N, rfl, zt, ztc, rfl, rfl⟩
 refine ⟨by exact Sub.d (.d (.d (.k (.d (.d (.k (.k (.d (.d (.k (.d (.k (.k .z))))))))))))), ?_⟩
 refine DO.loud rfl rfl (l_append 1 Try.underlying22 Try.underlying22 inf3 rfl rfl rfl rfl (by simp) (by decide) (Src.row (j := 0) rfl (by simp)) (by simp [oneB]) (by omega) (by decide) (by decide) (fun bx8 c9 => ⟨by exact Sub.d (.d (.d (.k (.d (.d (.k (.k (.d (.d (.k (.d (.k (.k .z))))))))))))), ?_⟩))
 refine DO.q rfl (q_ix (i := 0) Try.underlying24 inf22 rfl rfl (rowO (mG 3 rfl)) (by have h9 := deg_len a; rw [← hXe] at h9; omega) (by rw [hqx1]; exact Nat.zero_lt_one)) ?_
 refine DO.last rfl rfl (l_st (j := 0) (v := (.slice bx8 (rx.xs.length + ry.xs.length) c9)) (vs := [(.slice bx8 (rx.xs.length + ry.xs.length) c9)]) (cs := vals qx) 10 inf22 rfl rfl rfl rfl rfl (by simp) rfl (by rw [hqx1]; exact Nat.le_refl _) ?_)
 refine DO.sub (O' := ([rowI zt ztc 3 1 (ints (ry.xs.map fun x => x + (((dgB a).states.toNat : Nat) : Int))), rowI bx8 c9 3 1 ((ints rx.xs) ++ (ints (ry.xs.map fun x => x + (((dgB a).states.toNat : Nat) : Int)))), rowI zs zsc 3 1 (ints ((dgB b).start.map fun x => x + (((dgB a).states.toNat : Nat) : Int))), oI bx5 26 (buC (dgB b) sy syc ey eyc ty tyc), rowI sy syc 3 1 (ints (dgB b).start), rowI ey eyc 54 4 (edsC (dgB b).edges), rowI ty tyc 22 1 (vals qy), oI bx4 26 [(.int .i64 (dgB a).vars), (.int .i64 ((((dgB a).states.toNat) + ((dgB b).states.toNat) : Nat) : Int)), (.slice bx6 (((dgB a).start.length) + ((dgB b).start.length)) c7), (.slice ex ((dgB a).edges.length) exc), (.slice tx ((dgB a).sets.length) txc)], rowI bx6 c7 3 1 ((ints (dgB a).start) ++ (ints ((dgB b).start.map fun x => x + (((dgB a).states.toNat : Nat) : Int)))), rowI ex exc 54 4 (edsC (dgB a).edges), rowI tx txc 22 1 [(.slice bx8 (rx.xs.length + ry.xs.length) c9)], oI bx3 26 [(.int .i64 0), (.int .i64 0), nS, nS, nS], oI bx2 26 (buC b sb sc eb ec tb tc), oI bx1 26 (buC a sA sAc eA eAc tA tAc)] ++ (itms 3 qy))) (by rw [show putL (vals qx) 0 [(.slice bx8 (rx.xs.length + ry.xs.length) c9)] = [(.slice bx8 (rx.xs.length + ry.xs.length) c9)] from (by rw [hqx1]; rfl)]; exact Sub.of (List.Sublist.refl _)) ?_
 refine DO.done ?_
 refine T.seq (T.seq (T.rg (TO.qa rfl (TO.nil (T.block ?_)))))
 refine T.sub (O' := [rowI ex exc 54 4 (edsC (dgB a).edges), rowI zt ztc 3 1 (ints (ry.xs.map fun x => x + (((dgB a).states.toNat : Nat) : Int))), rowI bx8 c9 3 1 ((ints rx.xs) ++ (ints (ry.xs.map fun x => x + (((dgB a).states.toNat : Nat) : Int)))), rowI zs zsc 3 1 (ints ((dgB b).start.map fun x => x + (((dgB a).states.toNat : Nat) : Int))), oI bx5 26 (buC (dgB b) sy syc ey eyc ty tyc), rowI sy syc 3 1 (ints (dgB b).start), rowI ey eyc 54 4 (edsC (dgB b).edges), rowI ty tyc 22 1 (vals qy), oI bx4 26 [(.int .i64 (dgB a).vars), (.int .i64 ((((dgB a).states.toNat) + ((dgB b).states.toNat) : Nat) : Int)), (.slice bx6 (((dgB a).start.length) + ((dgB b).start.length)) c7), (.slice ex ((dgB a).edges.length) exc), (.slice tx ((dgB a).sets.length) txc)], rowI bx6 c7 3 1 ((ints (dgB a).start) ++ (ints ((dgB b).start.map fun x => x + (((dgB a).states.toNat : Nat) : Int)))), rowI tx txc 22 1 [(.slice bx8 (rx.xs.length + ry.xs.length) c9)], oI bx3 26 [(.int .i64 0), (.int .i64 0), nS, nS, nS], oI bx2 26 (buC b sb sc eb ec tb tc), oI bx1 26 (buC a sA sAc eA eAc tA tAc)] ++ (itms 3 qy)) (Sub.pickR [9, 0, 0, 0, 0, 0, 0, 0, 0, 0, 0, 0, 0, 0] [rowI zt ztc 3 1 (ints (ry.xs.map fun x => x + (((dgB a).states.toNat : Nat) : Int))), rowI bx8 c9 3 1 ((ints rx.xs) ++ (ints (ry.xs.map fun x => x + (((dgB a).states.toNat : Nat) : Int)))), rowI zs zsc 3 1 (ints ((dgB b).start.map fun x => x + (((dgB a).states.toNat : Nat) : Int))), oI bx5 26 (buC (dgB b) sy syc ey eyc ty tyc), rowI sy syc 3 1 (ints (dgB b).start), rowI ey eyc 54 4 (edsC (dgB b).edges), rowI ty tyc 22 1 (vals qy), oI bx4 26 [(.int .i64 (dgB a).vars), (.int .i64 ((((dgB a).states.toNat) + ((dgB b).states.toNat) : Nat) : Int)), (.slice bx6 (((dgB a).start.length) + ((dgB b).start.length)) c7), (.slice ex ((dgB a).edges.length) exc), (.slice tx ((dgB a).sets.length) txc)], rowI bx6 c7 3 1 ((ints (dgB a).start) ++ (ints ((dgB b).start.map fun x => x + (((dgB a).states.toNat : Nat) : Int)))), rowI ex exc 54 4 (edsC (dgB a).edges), rowI tx txc 22 1 [(.slice bx8 (rx.xs.length + ry.xs.length) c9)], oI bx3 26 [(.int .i64 0), (.int .i64 0), nS, nS, nS], oI bx2 26 (buC b sb sc eb ec tb tc), oI bx1 26 (buC a sA sAc eA eAc tA tAc)] (itms 3 qy) rfl rfl) ?_
 
 refine T.loopS (fun (k : Nat) ρ O => ∃ (eb6 : Option Addr) (ec6 : Nat), O = ([rowI eb6 ec6 54 4 (edsC (joT (dgB a) (dgB b) k)), rowI zt ztc 3 1 (ints (ry.xs.map fun x => x + (((dgB a).states.toNat : Nat) : Int))), rowI bx8 c9 3 1 ((ints rx.xs) ++ (ints (ry.xs.map fun x => x + (((dgB a).states.toNat : Nat) : Int)))), rowI zs zsc 3 1 (ints ((dgB b).start.map fun x => x + (((dgB a).states.toNat : Nat) : Int))), oI bx5 26 (buC (dgB b) sy syc ey eyc ty tyc), rowI sy syc 3 1 (ints (dgB b).start), rowI ey eyc 54 4 (edsC (dgB b).edges), rowI ty tyc 22 1 (vals qy), oI bx4 26 [(.int .i64 (dgB a).vars), (.int .i64 ((((dgB a).states.toNat) + ((dgB b).states.toNat) : Nat) : Int)), (.slice bx6 (((dgB a).start.length) + ((dgB b).start.length)) c7), (.slice eb6 ((joT (dgB a) (dgB b) k).length) ec6), (.slice tx ((dgB a).sets.length) txc)], rowI bx6 c7 3 1 ((ints (dgB a).start) ++ (ints ((dgB b).start.map fun x => x + (((dgB a).states.toNat : Nat) : Int)))), rowI tx txc 22 1 [(.slice bx8 (rx.xs.length + ry.xs.length) c9)], oI bx3 26 [(.int .i64 0), (.int .i64 0), nS, nS, nS], oI bx2 26 (buC b sb sc eb ec tb tc), oI bx1 26 (buC a sA sAc eA eAc tA tAc)] ++ (itms 3 qy)) ∧ k ≤ (dgB b).edges.length ∧ Heads [(0, (.agg (buC a sA sAc eA eAc tA tAc).toArray)), (1, (.agg (buC b sb sc eb ec tb tc).toArray)), (2, (.pointer (aD bx1))), (3, (.pointer (aD bx2))), (4, (.pointer (aD bx3))), (5, .int .i64 0), (6, .int .i64 ((pairE a b : Nat) : Int)), (7, (.pointer (aD bx4))), (8, .int .i64 ((degE b : Nat) : Int)), (9, (.pointer (aD bx5))), (10, .int .i64 (((dgB a).states.toNat : Nat) : Int)), (11, .int .i64 (k : Int))] ρ) (fun k => (dgB b).edges.length - k) 0 ?_ ?_
 ·exact ⟨ex, exc, (by rw [joT_zero] <;> rfl), Nat.zero_le _, ⟨rfl, rfl, rfl, rfl, rfl, rfl, rfl, rfl, rfl, rfl, rfl, rfl, trivial⟩⟩
 rintro k ρ O ⟨eb6, ec6, rfl, hk, hH⟩
 obtain ⟨ρ0, rfl⟩ := hH.elim
 clear hH
 have hjk := hjl k
 refine T.seq (T.seq (T.rg (TO.qm rfl (TO.q (q_fa Try.underlying26 rfl inf23 rfl rfl) (TO.q (q_lb 4 Try.underlying23 rfl rfl rfl rfl) (TO.q (q_len Try.underlying23 rfl) (TO.q (q_lss rfl rfl) (TO.nil (T.condP rfl (fun hc => ?_) (fun hc => ?_))))))))))
 ·have hlt78 : k < (dgB b).edges.length := by omega
  have hee := hYv.ed _ (List.getElem_mem hlt78)
  refine T.skip (T.seq (T.block (T.seq (T.rg (TO.q (q_fa Try.underlying26 rfl inf23 rfl rfl) (TO.q (q_lb 4 Try.underlying23 rfl rfl rfl rfl) (TO.qm rfl (TO.q (q_ixK (i := k) Try.underlying23 inf54 rfl rfl (rowO (mG 6 rfl)) (by first | assumption | omega | (simp; omega) | simp_all) (by first | (rw [eds_len]; omega) | (simp [eds_len]; omega) | (simp_all [eds_len]; omega))) (TO.q (q_ldK (vs := [.int .i64 ((dgB b).edges)[k].fr, .int .i64 ((dgB b).edges)[k].to, .int .u8 ((((dgB b).edges)[k].pos : Nat) : Int), .int .u8 ((((dgB b).edges)[k].neg : Nat) : Int)]) Try.underlying54 rfl inf54 rfl rfl (Nat.succ_pos _) (rowO (mG 6 rfl)) (eds_get (by first | assumption | omega | (simp; omega) | simp_all))) (TO.l rfl (l_alloc inf54 rfl (fun bx10 => ?_))))))))))))
  refine TO.l rfl (l_sb (v := (.agg #[.int .i64 ((dgB b).edges)[k].fr, .int .i64 ((dgB b).edges)[k].to, .int .u8 ((((dgB b).edges)[k].pos : Nat) : Int), .int .u8 ((((dgB b).edges)[k].neg : Nat) : Int)])) (vs := [.int .i64 ((dgB b).edges)[k].fr, .int .i64 ((dgB b).edges)[k].to, .int .u8 ((((dgB b).edges)[k].pos : Nat) : Int), .int .u8 ((((dgB b).edges)[k].neg : Nat) : Int)]) 0 inf54 rfl rfl rfl rfl rfl rfl (by simp [putL]) ?_)
  refine TO.nil (T.seq (T.rg (TO.q (q_fa Try.underlying54 rfl inf3 rfl rfl) (TO.q (q_lb 0 Try.underlying3 rfl rfl rfl rfl) (TO.qm rfl (TO.q (q_add64 rfl rfl (by omega)) (TO.q (q_fa Try.underlying54 rfl inf3 rfl rfl) (TO.q (q_lb 0 Try.underlying3 rfl rfl rfl rfl) (TO.qm rfl (TO.q (q_add64 rfl rfl (by omega)) (TO.q (q_fa Try.underlying54 rfl inf3 rfl rfl) (TO.l rfl (l_sb (v := .int .i64 ((((dgB b).edges)[k].fr) + (((dgB a).states.toNat : Nat) : Int))) (vs := [(.int .i64 ((((dgB b).edges)[k].fr) + (((dgB a).states.toNat : Nat) : Int)))]) 0 inf3 rfl rfl rfl rfl rfl rfl (by simp [putL]) ?_)))))))))))))
  refine TO.q (q_fa Try.underlying54 rfl inf3 rfl rfl) (TO.l rfl (l_sb (v := .int .i64 ((((dgB b).edges)[k].to) + (((dgB a).states.toNat : Nat) : Int))) (vs := [(.int .i64 ((((dgB b).edges)[k].to) + (((dgB a).states.toNat : Nat) : Int)))]) 0 inf3 rfl rfl rfl rfl rfl rfl (by simp [putL]) ?_))
  refine TO.nil (T.rg (TO.q (q_fa Try.underlying26 rfl inf23 rfl rfl) (TO.q (q_lb 9 Try.underlying23 rfl rfl rfl rfl) (TO.q (q_la 0 Try.underlying54 rfl inf54 rfl rfl rfl) (TO.l rfl (l_buildSlice (m := 1) (parts := [(0, _)]) (cs := [(.int .i64 ((((dgB b).edges)[k].fr) + (((dgB a).states.toNat : Nat) : Int))), (.int .i64 ((((dgB b).edges)[k].to) + (((dgB a).states.toNat : Nat) : Int))), .int .u8 ((((dgB b).edges)[k].pos : Nat) : Int), .int .u8 ((((dgB b).edges)[k].neg : Nat) : Int)]) Try.underlying23 inf54 (by decide) (by kernel_rfl) rfl (fun bx11 => ?_)))))))
  refine TO.l rfl (l_append 2 Try.underlying23 Try.underlying23 inf54 rfl rfl rfl rfl (by rw [eds_len]) (by decide) (Src.row (j := 0) rfl (by simp)) (by simp [oneB]) (by omega) (by decide) (by decide) (fun bx12 c13 => ?_))
  refine TO.q (q_fa Try.underlying26 rfl inf23 rfl rfl) (TO.l rfl (l_sb (v := (.slice bx12 (((joT (dgB a) (dgB b) k).length) + 1) c13)) (vs := [(.slice bx12 (((joT (dgB a) (dgB b) k).length) + 1) c13)]) 10 inf23 rfl rfl rfl rfl rfl rfl (by simp [putL]) ?_))
  refine TO.nil (T.rg (TO.qm rfl (TO.q (q_addN (a := k) (b := 1) rfl rfl (by omega)) (TO.qa rfl (TO.nil ?_)))))
  refine ⟨k + 1, by omega, ([rowI bx12 c13 54 4 ((edsC (joT (dgB a) (dgB b) k)) ++ [(.int .i64 ((((dgB b).edges)[k].fr) + (((dgB a).states.toNat : Nat) : Int))), (.int .i64 ((((dgB b).edges)[k].to) + (((dgB a).states.toNat : Nat) : Int))), .int .u8 ((((dgB b).edges)[k].pos : Nat) : Int), .int .u8 ((((dgB b).edges)[k].neg : Nat) : Int)]), rowI zt ztc 3 1 (ints (ry.xs.map fun x => x + (((dgB a).states.toNat : Nat) : Int))), rowI bx8 c9 3 1 ((ints rx.xs) ++ (ints (ry.xs.map fun x => x + (((dgB a).states.toNat : Nat) : Int)))), rowI zs zsc 3 1 (ints ((dgB b).start.map fun x => x + (((dgB a).states.toNat : Nat) : Int))), oI bx5 26 (buC (dgB b) sy syc ey eyc ty tyc), rowI sy syc 3 1 (ints (dgB b).start), rowI ey eyc 54 4 (edsC (dgB b).edges), rowI ty tyc 22 1 (vals qy), oI bx4 26 [(.int .i64 (dgB a).vars), (.int .i64 ((((dgB a).states.toNat) + ((dgB b).states.toNat) : Nat) : Int)), (.slice bx6 (((dgB a).start.length) + ((dgB b).start.length)) c7), (.slice bx12 (((joT (dgB a) (dgB b) k).length) + 1) c13), (.slice tx ((dgB a).sets.length) txc)], rowI bx6 c7 3 1 ((ints (dgB a).start) ++ (ints ((dgB b).start.map fun x => x + (((dgB a).states.toNat : Nat) : Int)))), rowI tx txc 22 1 [(.slice bx8 (rx.xs.length + ry.xs.length) c9)], oI bx3 26 [(.int .i64 0), (.int .i64 0), nS, nS, nS], oI bx2 26 (buC b sb sc eb ec tb tc), oI bx1 26 (buC a sA sAc eA eAc tA tAc)] ++ (itms 3 qy)), (by exact Sub.d (.d (.k (.k (.k (.k (.k (.k (.k (.k (.k (.k (.k (.k (.k (.k .rf)))))))))))))))), bx12, c13, ?_, by omega, ⟨rfl, rfl, rfl, rfl, rfl, rfl, rfl, rfl, rfl, rfl, rfl, rfl, trivial⟩⟩
  rw [joT_succ hlt78, eds_append, show ((joT (dgB a) (dgB b) k) ++ [shE (dgB a).states.toNat ((dgB b).edges)[k]]).length = (joT (dgB a) (dgB b) k).length + 1 by simp] <;> rfl
 have hge78 : ¬ k < (dgB b).edges.length := by omega
 refine T.exit ?_
 refine T.seq ?_
 refine T.sub (O' := ([rowI eb6 ec6 54 4 (edsC (joT (dgB a) (dgB b) k)), rowI zt ztc 3 1 (ints (ry.xs.map fun x => x + (((dgB a).states.toNat : Nat) : Int))), rowI bx8 c9 3 1 (ints (rx.xs ++ (ry.xs.map fun x => x + (((dgB a).states.toNat : Nat) : Int)))), rowI zs zsc 3 1 (ints ((dgB b).start.map fun x => x + (((dgB a).states.toNat : Nat) : Int))), oI bx5 26 (buC (dgB b) sy syc ey eyc ty tyc), rowI sy syc 3 1 (ints (dgB b).start), rowI ey eyc 54 4 (edsC (dgB b).edges), rowI ty tyc 22 1 (vals qy), oI bx4 26 [(.int .i64 (dgB a).vars), (.int .i64 ((((dgB a).states.toNat) + ((dgB b).states.toNat) : Nat) : Int)), (.slice bx6 (((dgB a).start ++ ((dgB b).start.map fun x => x + (((dgB a).states.toNat : Nat) : Int))).length) c7), (.slice eb6 ((joT (dgB a) (dgB b) k).length) ec6), (.slice tx ((dgB a).sets.length) txc)], rowI bx6 c7 3 1 (ints ((dgB a).start ++ ((dgB b).start.map fun x => x + (((dgB a).states.toNat : Nat) : Int)))), rowI tx txc 22 1 [(.slice bx8 (rx.xs ++ (ry.xs.map fun x => x + (((dgB a).states.toNat : Nat) : Int))).length c9)], oI bx3 26 [(.int .i64 0), (.int .i64 0), nS, nS, nS], oI bx2 26 (buC b sb sc eb ec tb tc), oI bx1 26 (buC a sA sAc eA eAc tA tAc)] ++ (itms 3 qy))) (by rw [show ints (rx.xs ++ (ry.xs.map fun x => x + (((dgB a).states.toNat : Nat) : Int))) = ints rx.xs ++ ints (ry.xs.map fun x => x + (((dgB a).states.toNat : Nat) : Int)) from List.map_append, show (rx.xs ++ (ry.xs.map fun x => x + (((dgB a).states.toNat : Nat) : Int))).length = rx.xs.length + ry.xs.length by simp, show ints ((dgB a).start ++ ((dgB b).start.map fun x => x + (((dgB a).states.toNat : Nat) : Int))) = ints (dgB a).start ++ ints ((dgB b).start.map fun x => x + (((dgB a).states.toNat : Nat) : Int)) from List.map_append, show ((dgB a).start ++ ((dgB b).start.map fun x => x + (((dgB a).states.toNat : Nat) : Int))).length = (dgB a).start.length + (dgB b).start.length by simp]; exact Sub.rf) ?_
 refine T.rg (TO.q (q_la 8 Try.underlying26 rfl inf26 rfl rfl rfl) (TO.l rfl (l_sb (v := (.agg #[(.int .i64 (dgB a).vars), (.int .i64 ((((dgB a).states.toNat) + ((dgB b).states.toNat) : Nat) : Int)), (.slice bx6 (((dgB a).start ++ ((dgB b).start.map fun x => x + (((dgB a).states.toNat : Nat) : Int))).length) c7), (.slice eb6 ((joT (dgB a) (dgB b) k).length) ec6), (.slice tx ((dgB a).sets.length) txc)])) (vs := [(.int .i64 (dgB a).vars), (.int .i64 ((((dgB a).states.toNat) + ((dgB b).states.toNat) : Nat) : Int)), (.slice bx6 (((dgB a).start ++ ((dgB b).start.map fun x => x + (((dgB a).states.toNat : Nat) : Int))).length) c7), (.slice eb6 ((joT (dgB a) (dgB b) k).length) ec6), (.slice tx ((dgB a).sets.length) txc)]) 11 inf26 rfl rfl rfl rfl rfl rfl (by simp [putL]) ?_)))
 refine TO.qa rfl (TO.nil (T.ret (Res.drop ?_)))
 refine Res.cell1b (.int .i64 0) (i := 11) Try.results41 Try.underlying26 rfl inf26 rfl rfl rfl rfl ?_
 have hsl1 : (dgB a).sets.length = 1 := by rw [hXe]; exact deg_len a
 have hE0 : unE a b = 0 := by unfold unE; rw [if_neg (by omega), if_neg (by omega), if_neg (by omega), ← hXe, ← hYe, if_neg (by omega)]
 have hun : unB a b = joinB (dgB a) (dgB b) := by unfold unB; rw [if_pos hE0, hXe, hYe]
 have hds : (joinB (dgB a) (dgB b)).sets = [rx.xs ++ (ry.xs.map fun x => x + (((dgB a).states.toNat : Nat) : Int))] := by unfold joinB; rw [hrx, hry]
 have hde : (joinB (dgB a) (dgB b)).edges = (joT (dgB a) (dgB b) k) := by rw [show k = (dgB b).edges.length by omega]; exact (joT_all _ _).symm
 have hva9 : (dgB a).vars = a.vars := by rw [hXe]; rfl
 have hdv : (joinB (dgB a) (dgB b)).vars = a.vars := hva9
 refine ⟨[rowI bx6 c7 3 1 (ints ((dgB a).start ++ ((dgB b).start.map fun x => x + (((dgB a).states.toNat : Nat) : Int)))), rowI eb6 ec6 54 4 (edsC (joT (dgB a) (dgB b) k)), rowI tx txc 22 1 [(.slice bx8 (rx.xs ++ (ry.xs.map fun x => x + (((dgB a).states.toNat : Nat) : Int))).length c9)]] ++ itms 3 [⟨bx8, c9, rx.xs ++ (ry.xs.map fun x => x + (((dgB a).states.toNat : Nat) : Int))⟩], (Sub.pick0 [9, 0, 8, 1] [rowI eb6 ec6 54 4 (edsC (joT (dgB a) (dgB b) k)), rowI zt ztc 3 1 (ints (ry.xs.map fun x => x + (((dgB a).states.toNat : Nat) : Int))), rowI bx8 c9 3 1 (ints (rx.xs ++ (ry.xs.map fun x => x + (((dgB a).states.toNat : Nat) : Int)))), rowI zs zsc 3 1 (ints ((dgB b).start.map fun x => x + (((dgB a).states.toNat : Nat) : Int))), oI bx5 26 (buC (dgB b) sy syc ey eyc ty tyc), rowI sy syc 3 1 (ints (dgB b).start), rowI ey eyc 54 4 (edsC (dgB b).edges), rowI ty tyc 22 1 (vals qy), oI bx4 26 [(.int .i64 (dgB a).vars), (.int .i64 ((((dgB a).states.toNat) + ((dgB b).states.toNat) : Nat) : Int)), (.slice bx6 (((dgB a).start ++ ((dgB b).start.map fun x => x + (((dgB a).states.toNat : Nat) : Int))).length) c7), (.slice eb6 ((joT (dgB a) (dgB b) k).length) ec6), (.slice tx ((dgB a).sets.length) txc)], rowI bx6 c7 3 1 (ints ((dgB a).start ++ ((dgB b).start.map fun x => x + (((dgB a).states.toNat : Nat) : Int)))), rowI tx txc 22 1 [(.slice bx8 (rx.xs ++ (ry.xs.map fun x => x + (((dgB a).states.toNat : Nat) : Int))).length c9)], oI bx3 26 [(.int .i64 (dgB a).vars), (.int .i64 ((((dgB a).states.toNat) + ((dgB b).states.toNat) : Nat) : Int)), (.slice bx6 (((dgB a).start ++ ((dgB b).start.map fun x => x + (((dgB a).states.toNat : Nat) : Int))).length) c7), (.slice eb6 ((joT (dgB a) (dgB b) k).length) ec6), (.slice tx ((dgB a).sets.length) txc)], oI bx2 26 (buC b sb sc eb ec tb tc), oI bx1 26 (buC a sA sAc eA eAc tA tAc)] (itms 3 qy) rfl rfl), bx6, eb6, tx, c7, ec6, txc, [⟨bx8, c9, rx.xs ++ (ry.xs.map fun x => x + (((dgB a).states.toNat : Nat) : Int))⟩], ?_, ?_, ?_⟩
 ·rw [hun, hE0]; simp only [buC, hde, hds, hsl1]; rfl
 ·rw [hun, hde]; rfl
 ·rw [hun, hds]; rfl
end Go.Proofs.Ytnamoapbienooaa
