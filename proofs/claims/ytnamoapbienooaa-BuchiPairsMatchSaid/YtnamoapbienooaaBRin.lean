/- Contracts of functions of the program (BRin): what each call answers and that it leaves memory as it was. Conditions: those each theorem names. -/
import Derived.Test.YtnamoapbienooaaInt
import Derived.Test.YtnamoapbienooaaBPai
import Derived.Test.YtnamoapbienooaaBCan
import Derived.Test.YtnamoapbienooaaLv
set_option linter.unusedSectionVars false
set_option linter.unusedSimpArgs false
set_option linter.unusedVariables false
set_option linter.unnecessarySimpa false
set_option maxRecDepth 20000
set_option maxHeartbeats 4000000
namespace Go.Proofs.Ytnamoapbienooaa
open Go.Lx Go.RowKit
set_option linter.unusedVariables false
set_option linter.unusedSimpArgs false
theorem refInterF (w : World) (a : Bu) (sA eA tA : Option Addr) (sAc eAc tAc : Nat) (vA : List Value) (hA : BuAt w a sA eA tA vA) (hAB : BuB a) (b : Bu) (sb eb tb : Option Addr) (sc ec tc : Nat) (vs : List Value) (h : BuAt w b sb eb tb vs) (hB : BuB b) (hAe : a.edges.length ≤ 1000) (hBe : b.edges.length ≤ 1000) :
  PureT Try.prog 43 [.agg (buC a sA sAc eA eAc tA tAc).toArray, .agg (buC b sb sc eb ec tb tc).toArray] w fun v N => ∃ sb2 eb2 tb2 sc2 ec2 tc2 qs, v = .tuple #[.agg (buC (inrB a b) sb2 sc2 eb2 ec2 tb2 tc2).toArray, .int .i64 ((inE a b : Nat) : Int)] ∧ N = [rowI sb2 sc2 3 1 (ints (inrB a b).start), rowI eb2 ec2 54 4 (edsC (inrB a b).edges), rowI tb2 tc2 22 1 (vals qs)] ++ itms 3 qs ∧ nums qs = (inrB a b).sets := by
 refine CallT.enter Try.func43 rfl Try.ntmps43 rfl ?_
 have hAst := hAB.st; have hAed := hAB.ed; have hAse := hAB.se; have hBst := hB.st; have hBse := hB.se
 refine T.seq (T.rg (TO.l rfl (l_box (v := (.agg (buC a sA sAc eA eAc tA tAc).toArray)) (cs := (buC a sA sAc eA eAc tA tAc)) rfl rfl (fun bx1 => ?_))))
 refine TO.l rfl (l_box (v := (.agg (buC b sb sc eb ec tb tc).toArray)) (cs := (buC b sb sc eb ec tb tc)) rfl rfl (fun bx2 => ?_))
 refine TO.l rfl (l_alloc inf26 rfl (fun bx3 => ?_))
 refine TO.qa rfl (TO.nil (T.seq (T.seq (T.rg (TO.q (q_la 2 Try.underlying26 rfl inf26 rfl rfl rfl) (TO.q (q_la 1 Try.underlying26 rfl inf26 rfl rfl rfl) ?_))))))
 have hk19 := fun (w1 : World) (hI : Inv w [oI bx3 26 [(.int .i64 0), (.int .i64 0), nS, nS, nS], oI bx2 26 (buC b sb sc eb ec tb tc), oI bx1 26 (buC a sA sAc eA eAc tA tAc)] w1) => refPairF w1 a sA eA tA sAc eAc tAc vA (hI.bu hA) hAB b sb eb tb sc ec tc vs (hI.bu h) hB
 refine TO.l rfl (l_call ent92 (CallT.pu hk19) rfl ?_)
 clear hk19
 rintro vr O' ⟨N, rfl, rfl, rfl⟩
 refine TO.qa rfl (TO.nil (T.seq (T.rg (TO.qm rfl (TO.q (q_neq rfl rfl) (TO.nil (T.condP rfl (fun hc => ?_) (fun hc => ?_))))))))
 ·have hlt21 : pairE a b ≠ 0 := by omega
  refine T.seq (T.nilRow 22 1 ?_)
  refine T.nilRow 54 4 ?_
  refine T.nilRow 3 1 ?_
  refine T.rg (TO.q (q_build plan26 inf26 rfl) (TO.qm rfl (TO.l rfl (l_sb (v := (.agg #[(.int .i64 0), (.int .i64 0), nS, nS, nS])) (vs := [(.int .i64 0), (.int .i64 0), nS, nS, nS]) 3 inf26 rfl rfl rfl rfl rfl rfl (by simp [putL]) ?_))))
  refine TO.qa rfl (TO.nil (T.ret (Res.drop ?_)))
  refine Res.cell1b (.int .i64 ((pairE a b : Nat) : Int)) (i := 3) Try.results43 Try.underlying26 rfl inf26 rfl rfl rfl rfl ?_
  have hE9 : inE a b = pairE a b := by unfold inE; rw [if_pos (by omega)]
  have hz9 : inrB a b = zeroBu := by unfold inrB; rw [if_neg (by rw [hE9]; omega)]
  refine ⟨[rowI none 0 3 1 [], rowI none 0 54 4 [], rowI none 0 22 1 []] ++ itms 3 [], ?_, none, none, none, 0, 0, 0, [], ?_, ?_, ?_⟩
  ·exact Sub.ca [oI bx3 26 [(.int .i64 0), (.int .i64 0), nS, nS, nS], oI bx2 26 (buC b sb sc eb ec tb tc), oI bx1 26 (buC a sA sAc eA eAc tA tAc)]
  ·rw [hz9, hE9]; rfl
  ·rw [hz9]; rfl
  ·rw [hz9]; rfl
 have hge21 : ¬ pairE a b ≠ 0 := by omega
 refine T.skip (T.seq (T.seq ?_))
 obtain ⟨hva, hvb, hvv⟩ := pairE_zero (a := a) (b := b) (by omega)
 have ha0 := hva.n0; have ha4 := hva.n4; have hb0 := hvb.n0; have hb4 := hvb.n4; have ha8 := hva.m8; have hb8 := hvb.m8
 have hnn : a.states.toNat * b.states.toNat ≤ 4096 * 4096 := Nat.mul_le_mul (by omega) (by omega)
 refine T.rg (TO.q (q_fa Try.underlying26 rfl inf3 rfl rfl) (TO.q (QT.cast (q_lb 2 Try.underlying3 rfl rfl rfl rfl) (v' := .int .i64 ((a.states.toNat : Nat) : Int)) (by show Value.int _ _ = _; rw [Int.toNat_of_nonneg ha0])) (TO.q (q_fa Try.underlying26 rfl inf3 rfl rfl) (TO.q (QT.cast (q_lb 1 Try.underlying3 rfl rfl rfl rfl) (v' := .int .i64 ((b.states.toNat : Nat) : Int)) (by show Value.int _ _ = _; rw [Int.toNat_of_nonneg hb0])) (TO.q (q_mulN (a := a.states.toNat) (b := b.states.toNat) rfl rfl (by omega)) (TO.q (q_gtr rfl rfl) (TO.nil (T.condP rfl (fun hc => ?_) (fun hc => ?_)))))))))
 ·have hlt29 : a.states.toNat * b.states.toNat > 4096 := by omega
  refine T.seq (T.nilRow 22 1 ?_)
  refine T.nilRow 54 4 ?_
  refine T.nilRow 3 1 ?_
  refine T.rg (TO.q (q_build plan26 inf26 rfl) (TO.l rfl (l_sb (v := (.agg #[(.int .i64 0), (.int .i64 0), nS, nS, nS])) (vs := [(.int .i64 0), (.int .i64 0), nS, nS, nS]) 3 inf26 rfl rfl rfl rfl rfl rfl (by simp [putL]) ?_)))
  refine TO.qa rfl (TO.nil (T.ret (Res.drop ?_)))
  refine Res.cell1b (.int .i64 10) (i := 3) Try.results43 Try.underlying26 rfl inf26 rfl rfl rfl rfl ?_
  have hE9 : inE a b = 10 := by unfold inE; rw [if_neg (by omega), if_pos (by unfold inAll; omega)]
  have hz9 : inrB a b = zeroBu := by unfold inrB; rw [if_neg (by rw [hE9]; omega)]
  refine ⟨[rowI none 0 3 1 [], rowI none 0 54 4 [], rowI none 0 22 1 []] ++ itms 3 [], ?_, none, none, none, 0, 0, 0, [], ?_, ?_, ?_⟩
  ·exact Sub.ca [oI bx3 26 [(.int .i64 0), (.int .i64 0), nS, nS, nS], oI bx2 26 (buC b sb sc eb ec tb tc), oI bx1 26 (buC a sA sAc eA eAc tA tAc)]
  ·rw [hz9, hE9]; rfl
  ·rw [hz9]; rfl
  ·rw [hz9]; rfl
 have hge29 : ¬ a.states.toNat * b.states.toNat > 4096 := by omega
 refine T.skip (T.seq (T.seq (T.rg (TO.q (q_fa Try.underlying26 rfl inf24 rfl rfl) (TO.q (q_lb 2 Try.underlying24 rfl rfl rfl rfl) (TO.q (q_len Try.underlying24 rfl) (TO.q (q_fa Try.underlying26 rfl inf24 rfl rfl) (TO.q (q_lb 1 Try.underlying24 rfl rfl rfl rfl) (TO.q (q_len Try.underlying24 rfl) (TO.q (q_addN (a := a.sets.length) (b := b.sets.length) rfl rfl (by omega)) (TO.q (q_gtr rfl rfl) (TO.nil (T.condP rfl (fun hc => ?_) (fun hc => ?_))))))))))))))
 ·have hlt38 : a.sets.length + b.sets.length > 8 := by omega
  refine T.seq (T.nilRow 22 1 ?_)
  refine T.nilRow 54 4 ?_
  refine T.nilRow 3 1 ?_
  refine T.rg (TO.q (q_build plan26 inf26 rfl) (TO.l rfl (l_sb (v := (.agg #[(.int .i64 0), (.int .i64 0), nS, nS, nS])) (vs := [(.int .i64 0), (.int .i64 0), nS, nS, nS]) 3 inf26 rfl rfl rfl rfl rfl rfl (by simp [putL]) ?_)))
  refine TO.qa rfl (TO.nil (T.ret (Res.drop ?_)))
  refine Res.cell1b (.int .i64 4) (i := 3) Try.results43 Try.underlying26 rfl inf26 rfl rfl rfl rfl ?_
  have hE9 : inE a b = 4 := by unfold inE; rw [if_neg (by omega), if_neg (by unfold inAll; omega), if_pos (by omega)]
  have hz9 : inrB a b = zeroBu := by unfold inrB; rw [if_neg (by rw [hE9]; omega)]
  refine ⟨[rowI none 0 3 1 [], rowI none 0 54 4 [], rowI none 0 22 1 []] ++ itms 3 [], ?_, none, none, none, 0, 0, 0, [], ?_, ?_, ?_⟩
  ·exact Sub.ca [oI bx3 26 [(.int .i64 0), (.int .i64 0), nS, nS, nS], oI bx2 26 (buC b sb sc eb ec tb tc), oI bx1 26 (buC a sA sAc eA eAc tA tAc)]
  ·rw [hz9, hE9]; rfl
  ·rw [hz9]; rfl
  ·rw [hz9]; rfl
 have hge38 : ¬ a.sets.length + b.sets.length > 8 := by omega
 refine T.skip ?_
 refine T.cut (fun ρ O => ∃ (zS zO : Nat), O = [oI zO 26 [(.int .i64 a.vars), .int .i64 ((a.states.toNat * b.states.toNat : Nat) : Int), nS, nS, (.slice (aD zS) (a.sets.length + b.sets.length) (a.sets.length + b.sets.length))], rowI (aD zS) (a.sets.length + b.sets.length) 22 1 (List.replicate (a.sets.length + b.sets.length) nS), oI bx3 26 [(.int .i64 0), (.int .i64 0), nS, nS, nS], oI bx2 26 (buC b sb sc eb ec tb tc), oI bx1 26 (buC a sA sAc eA eAc tA tAc)] ∧ Heads [(0, (.agg (buC a sA sAc eA eAc tA tAc).toArray)), (1, (.agg (buC b sb sc eb ec tb tc).toArray)), (2, (.pointer (aD bx1))), (3, (.pointer (aD bx2))), (4, (.pointer (aD bx3))), (5, .int .i64 0), (6, .int .i64 ((pairE a b : Nat) : Int)), (7, (.pointer (aD zO)))] ρ) ?_ ?_
 ·refine T.tree [oI bx2 26 (buC b sb sc eb ec tb tc), oI bx1 26 (buC a sA sAc eA eAc tA tAc)] 18 mixed rfl (by exact Sub.d (.k (.k .z))) (fun _ _ _ h => h) ?_
  refine RO.quietT 0 rfl (by kernel_rfl) (q_fa Try.underlying26 rfl inf3 rfl rfl) ?_
  refine RO.quietT 1 rfl (by kernel_rfl) (q_lb 1 Try.underlying3 rfl rfl rfl rfl) ?_
  refine RO.quietT 2 rfl (by kernel_rfl) (q_fa Try.underlying26 rfl inf3 rfl rfl) ?_
  refine RO.quietT 3 rfl (by kernel_rfl) (QT.cast (q_lb 1 Try.underlying3 rfl rfl rfl rfl) (v' := .int .i64 ((a.states.toNat : Nat) : Int)) (by show Value.int _ _ = _; rw [Int.toNat_of_nonneg ha0])) ?_
  refine RO.quietT 4 rfl (by kernel_rfl) (q_fa Try.underlying26 rfl inf3 rfl rfl) ?_
  refine RO.quietT 5 rfl (by kernel_rfl) (QT.cast (q_lb 0 Try.underlying3 rfl rfl rfl rfl) (v' := .int .i64 ((b.states.toNat : Nat) : Int)) (by show Value.int _ _ = _; rw [Int.toNat_of_nonneg hb0])) ?_
  refine RO.quietT 6 rfl (by kernel_rfl) (q_mulN (a := a.states.toNat) (b := b.states.toNat) rfl rfl (by omega)) ?_
  refine RO.quietT 7 rfl (by kernel_rfl) (q_fa Try.underlying26 rfl inf24 rfl rfl) ?_
  refine RO.quietT 8 rfl (by kernel_rfl) (q_lb 1 Try.underlying24 rfl rfl rfl rfl) ?_
  refine RO.quietT 9 rfl (by kernel_rfl) (q_len Try.underlying24 rfl) ?_
  refine RO.quietT 10 rfl (by kernel_rfl) (q_fa Try.underlying26 rfl inf24 rfl rfl) ?_
  refine RO.quietT 11 rfl (by kernel_rfl) (q_lb 0 Try.underlying24 rfl rfl rfl rfl) ?_
  refine RO.quietT 12 rfl (by kernel_rfl) (q_len Try.underlying24 rfl) ?_
  refine RO.quietT 13 rfl (by kernel_rfl) (q_addN (a := a.sets.length) (b := b.sets.length) rfl rfl (by omega)) ?_
  refine RO.fork [14, 16] (by kernel_rfl) rfl ⟨⟨_, rfl, rfl, l_makeSlice (m := (a.sets.length + b.sets.length)) Try.underlying24 inf22 rfl rfl (by omega) (by omega) (fun zS => ⟨by exact Sub.d (.d (.k (.k .z))), ?_⟩)⟩, ⟨_, rfl, rfl, l_alloc inf26 rfl (fun zO => ⟨by exact Sub.d (.d (.k (.k .z))), ?_⟩)⟩, trivial⟩
  ·refine RO.quietT 15 rfl (by kernel_rfl) (q_build (cs := [(.int .i64 a.vars), .int .i64 ((a.states.toNat * b.states.toNat : Nat) : Int), nS, nS, (.slice (aD zS) (a.sets.length + b.sets.length) (a.sets.length + b.sets.length))]) plan26 inf26 (by kernel_rfl)) ?_
   refine RO.fork [16] (by kernel_rfl) rfl ⟨⟨_, rfl, rfl, l_alloc inf26 rfl (fun zO => ⟨by exact Sub.d (.d (.d (.k (.k .z)))), ?_⟩)⟩, trivial⟩
   refine RO.fork [17] (by kernel_rfl) rfl ⟨⟨_, rfl, rfl, l_sb (v := (.agg #[(.int .i64 a.vars), .int .i64 ((a.states.toNat * b.states.toNat : Nat) : Int), nS, nS, (.slice (aD zS) (a.sets.length + b.sets.length) (a.sets.length + b.sets.length))])) (vs := [(.int .i64 a.vars), .int .i64 ((a.states.toNat * b.states.toNat : Nat) : Int), nS, nS, (.slice (aD zS) (a.sets.length + b.sets.length) (a.sets.length + b.sets.length))]) 0 inf26 rfl rfl rfl rfl rfl rfl (by simp [putL]) ⟨by exact Sub.d (.d (.d (.k (.k .z)))), ?_⟩⟩, trivial⟩
   exact RO.fin (by kernel_rfl) ⟨zS, zO, rfl, ⟨rfl, rfl, rfl, rfl, rfl, rfl, rfl, rfl, trivial⟩⟩ (by exact Sub.rf)
  refine RO.fork [14] (by kernel_rfl) rfl ⟨⟨_, rfl, rfl, l_makeSlice (m := (a.sets.length + b.sets.length)) Try.underlying24 inf22 rfl rfl (by omega) (by omega) (fun zS => ⟨by exact Sub.d (.d (.d (.k (.k .z)))), ?_⟩)⟩, trivial⟩
  refine RO.quietT 15 rfl (by kernel_rfl) (q_build (cs := [(.int .i64 a.vars), .int .i64 ((a.states.toNat * b.states.toNat : Nat) : Int), nS, nS, (.slice (aD zS) (a.sets.length + b.sets.length) (a.sets.length + b.sets.length))]) plan26 inf26 (by kernel_rfl)) ?_
  refine RO.fork [17] (by kernel_rfl) rfl ⟨⟨_, rfl, rfl, l_sb (v := (.agg #[(.int .i64 a.vars), .int .i64 ((a.states.toNat * b.states.toNat : Nat) : Int), nS, nS, (.slice (aD zS) (a.sets.length + b.sets.length) (a.sets.length + b.sets.length))])) (vs := [(.int .i64 a.vars), .int .i64 ((a.states.toNat * b.states.toNat : Nat) : Int), nS, nS, (.slice (aD zS) (a.sets.length + b.sets.length) (a.sets.length + b.sets.length))]) 1 inf26 rfl rfl rfl rfl rfl rfl (by simp [putL]) ⟨by exact Sub.d (.d (.d (.k (.k .z)))), ?_⟩⟩, trivial⟩
  exact RO.fin (by kernel_rfl) ⟨zS, zO, rfl, ⟨rfl, rfl, rfl, rfl, rfl, rfl, rfl, rfl, trivial⟩⟩ (Sub.pick [1, 0, 0, 0, 0] rfl)
 rintro ρ O ⟨zS, zO, rfl, hH⟩
 obtain ⟨ρ0, rfl⟩ := hH.elim
 clear hH
 refine T.seq (T.seq (T.rg (TO.qa rfl (TO.nil (T.block (T.nilRow 3 1 ?_))))))
 refine T.sub (O' := [rowI none 0 3 1 [], rowI (aD zS) (a.sets.length + b.sets.length) 22 1 (List.replicate (a.sets.length + b.sets.length) nS), oI zO 26 [(.int .i64 a.vars), .int .i64 ((a.states.toNat * b.states.toNat : Nat) : Int), nS, nS, (.slice (aD zS) (a.sets.length + b.sets.length) (a.sets.length + b.sets.length))], oI bx3 26 [(.int .i64 0), (.int .i64 0), nS, nS, nS], oI bx2 26 (buC b sb sc eb ec tb tc), oI bx1 26 (buC a sA sAc eA eAc tA tAc)]) (Sub.pick [0, 1, 0, 0, 0, 0] rfl) ?_
 refine T.nilRows 3 (a.sets.length + b.sets.length) ?_
 refine T.loopS (fun (s : Nat) ρ O => ∃ (pb1 : Option Addr) (pc1 : Nat) (qs : List Rec), O = ([rowI pb1 pc1 3 1 (ints (pickI (stP a b) (s * b.states.toNat))), rowI (aD zS) (a.sets.length + b.sets.length) 22 1 (vals qs), oI zO 26 [(.int .i64 a.vars), .int .i64 ((a.states.toNat * b.states.toNat : Nat) : Int), (.slice pb1 ((pickI (stP a b) (s * b.states.toNat)).length) pc1), nS, (.slice (aD zS) (a.sets.length + b.sets.length) (a.sets.length + b.sets.length))], oI bx3 26 [(.int .i64 0), (.int .i64 0), nS, nS, nS], oI bx2 26 (buC b sb sc eb ec tb tc), oI bx1 26 (buC a sA sAc eA eAc tA tAc)] ++ (itms 3 qs)) ∧ s ≤ a.states.toNat ∧ nums qs = inSets a b (s * b.states.toNat) ∧ Heads [(0, (.agg (buC a sA sAc eA eAc tA tAc).toArray)), (1, (.agg (buC b sb sc eb ec tb tc).toArray)), (2, (.pointer (aD bx1))), (3, (.pointer (aD bx2))), (4, (.pointer (aD bx3))), (5, .int .i64 0), (6, .int .i64 ((pairE a b : Nat) : Int)), (7, (.pointer (aD zO))), (8, .int .i64 (s : Int))] ρ) (fun s => a.states.toNat - s) 0 ?_ ?_
 ·exact ⟨none, 0, List.replicate (a.sets.length + b.sets.length) nilRec, (by rw [Nat.zero_mul]; simp only [List.map_replicate]; rfl), Nat.zero_le _, (by rw [Nat.zero_mul]; exact inSets_zero a b), ⟨rfl, rfl, rfl, rfl, rfl, rfl, rfl, rfl, rfl, trivial⟩⟩
 rintro s ρ O ⟨pb1, pc1, qs, rfl, hs, hqs, hH⟩
 obtain ⟨ρ0, rfl⟩ := hH.elim
 clear hH
 refine T.seq (T.seq (T.rg (TO.qm rfl (TO.q (q_fa Try.underlying26 rfl inf3 rfl rfl) (TO.q (QT.cast (q_lb 5 Try.underlying3 rfl rfl rfl rfl) (v' := .int .i64 ((a.states.toNat : Nat) : Int)) (by show Value.int _ _ = _; rw [Int.toNat_of_nonneg ha0])) (TO.q (q_lss rfl rfl) (TO.nil (T.condP rfl (fun hc => ?_) (fun hc => ?_)))))))))
 ·have hlt59 : s < a.states.toNat := by omega
  refine T.skip (T.seq (T.block (T.seq (T.rg (TO.qa rfl (TO.nil (T.block ?_)))))))
  refine T.loopS (fun (t : Nat) ρ O => ∃ (pb1 : Option Addr) (pc1 : Nat) (qs : List Rec), O = ([rowI pb1 pc1 3 1 (ints (pickI (stP a b) (s * b.states.toNat + t))), rowI (aD zS) (a.sets.length + b.sets.length) 22 1 (vals qs), oI zO 26 [(.int .i64 a.vars), .int .i64 ((a.states.toNat * b.states.toNat : Nat) : Int), (.slice pb1 ((pickI (stP a b) (s * b.states.toNat + t)).length) pc1), nS, (.slice (aD zS) (a.sets.length + b.sets.length) (a.sets.length + b.sets.length))], oI bx3 26 [(.int .i64 0), (.int .i64 0), nS, nS, nS], oI bx2 26 (buC b sb sc eb ec tb tc), oI bx1 26 (buC a sA sAc eA eAc tA tAc)] ++ (itms 3 qs)) ∧ t ≤ b.states.toNat ∧ nums qs = inSets a b (s * b.states.toNat + t) ∧ Heads [(0, (.agg (buC a sA sAc eA eAc tA tAc).toArray)), (1, (.agg (buC b sb sc eb ec tb tc).toArray)), (2, (.pointer (aD bx1))), (3, (.pointer (aD bx2))), (4, (.pointer (aD bx3))), (5, .int .i64 0), (6, .int .i64 ((pairE a b : Nat) : Int)), (7, (.pointer (aD zO))), (8, .int .i64 (s : Int)), (9, .int .i64 (t : Int))] ρ) (fun t => b.states.toNat - t) 0 ?_ ?_
  ·exact ⟨pb1, pc1, qs, rfl, Nat.zero_le _, hqs, ⟨rfl, rfl, rfl, rfl, rfl, rfl, rfl, rfl, rfl, rfl, trivial⟩⟩
  rintro t ρ O ⟨pb1, pc1, qs, rfl, ht, hqs, hH⟩
  obtain ⟨ρ0, rfl⟩ := hH.elim
  clear hH
  have hpl := pickI_len (stP a b) (s * b.states.toNat + t)
  have hsn : s * b.states.toNat ≤ 4096 * 4096 := Nat.mul_le_mul (by omega) (by omega)
  refine T.seq (T.seq (T.rg (TO.qm rfl (TO.q (q_fa Try.underlying26 rfl inf3 rfl rfl) (TO.q (QT.cast (q_lb 4 Try.underlying3 rfl rfl rfl rfl) (v' := .int .i64 ((b.states.toNat : Nat) : Int)) (by show Value.int _ _ = _; rw [Int.toNat_of_nonneg hb0])) (TO.q (q_lss rfl rfl) (TO.nil (T.condP rfl (fun hc => ?_) (fun hc => ?_)))))))))
  ·have hlt65 : t < b.states.toNat := by omega
   refine T.skip (T.seq (T.block (T.seq (T.rg (TO.qm rfl (TO.q (q_fa Try.underlying26 rfl inf3 rfl rfl) (TO.q (QT.cast (q_lb 4 Try.underlying3 rfl rfl rfl rfl) (v' := .int .i64 ((b.states.toNat : Nat) : Int)) (by show Value.int _ _ = _; rw [Int.toNat_of_nonneg hb0])) (TO.q (q_mulN (a := s) (b := b.states.toNat) rfl rfl (by omega)) (TO.qm rfl (TO.q (q_addN (a := (s * b.states.toNat)) (b := t) rfl rfl (by omega)) (TO.qa rfl (TO.nil ?_))))))))))))
   refine T.cut (fun ρ O => ∃ (pb2 : Option Addr) (pc2 : Nat), Sub ([rowI pb2 pc2 3 1 (ints (pickI (stP a b) (s * b.states.toNat + t + 1))), rowI (aD zS) (a.sets.length + b.sets.length) 22 1 (vals qs), oI zO 26 [(.int .i64 a.vars), .int .i64 ((a.states.toNat * b.states.toNat : Nat) : Int), (.slice pb2 ((pickI (stP a b) (s * b.states.toNat + t + 1)).length) pc2), nS, (.slice (aD zS) (a.sets.length + b.sets.length) (a.sets.length + b.sets.length))], oI bx3 26 [(.int .i64 0), (.int .i64 0), nS, nS, nS], oI bx2 26 (buC b sb sc eb ec tb tc), oI bx1 26 (buC a sA sAc eA eAc tA tAc)] ++ (itms 3 qs)) O ∧ Heads [(0, (.agg (buC a sA sAc eA eAc tA tAc).toArray)), (1, (.agg (buC b sb sc eb ec tb tc).toArray)), (2, (.pointer (aD bx1))), (3, (.pointer (aD bx2))), (4, (.pointer (aD bx3))), (5, .int .i64 0), (6, .int .i64 ((pairE a b : Nat) : Int)), (7, (.pointer (aD zO))), (8, .int .i64 (s : Int)), (9, .int .i64 (t : Int)), (10, .int .i64 (((s * b.states.toNat) + t : Nat) : Int))] ρ) ?_ ?_
   ·refine T.seq ?_
    refine T.rg (TO.q (q_fa Try.underlying26 rfl inf22 rfl rfl) (TO.q (q_lb 5 Try.underlying22 rfl rfl rfl rfl) (TO.qm rfl ?_)))
    have hk77 := fun (w1 : World) (hI : Inv w ([rowI pb1 pc1 3 1 (ints (pickI (stP a b) (s * b.states.toNat + t))), rowI (aD zS) (a.sets.length + b.sets.length) 22 1 (vals qs), oI zO 26 [(.int .i64 a.vars), .int .i64 ((a.states.toNat * b.states.toNat : Nat) : Int), (.slice pb1 ((pickI (stP a b) (s * b.states.toNat + t)).length) pc1), nS, (.slice (aD zS) (a.sets.length + b.sets.length) (a.sets.length + b.sets.length))], oI bx3 26 [(.int .i64 0), (.int .i64 0), nS, nS, nS], oI bx2 26 (buC b sb sc eb ec tb tc), oI bx1 26 (buC a sA sAc eA eAc tA tAc)] ++ (itms 3 qs)) w1) => hasInt w1 sA sAc a.start ((s : Nat) : Int) (hI.sl hA.st) (by skip; omega)
    refine TO.l rfl (l_call ent31 (CallT.pu hk77) rfl ?_)
    clear hk77
    rintro vr O' ⟨N, rfl, rfl, rfl⟩
    by_cases hs78 : ((s : Nat) : Int) ∈ a.start
    ·refine TO.q (QT.toB (q_move rfl) (decide_eq_true hs78)) ?_
     refine TO.gq rfl rfl (q_fa Try.underlying26 rfl inf22 rfl rfl) (TO.gq rfl rfl (q_lb 4 Try.underlying22 rfl rfl rfl rfl) (TO.gq rfl rfl (q_move rfl) ?_))
     have hk82 := fun (w1 : World) (hI : Inv w ([rowI pb1 pc1 3 1 (ints (pickI (stP a b) (s * b.states.toNat + t))), rowI (aD zS) (a.sets.length + b.sets.length) 22 1 (vals qs), oI zO 26 [(.int .i64 a.vars), .int .i64 ((a.states.toNat * b.states.toNat : Nat) : Int), (.slice pb1 ((pickI (stP a b) (s * b.states.toNat + t)).length) pc1), nS, (.slice (aD zS) (a.sets.length + b.sets.length) (a.sets.length + b.sets.length))], oI bx3 26 [(.int .i64 0), (.int .i64 0), nS, nS, nS], oI bx2 26 (buC b sb sc eb ec tb tc), oI bx1 26 (buC a sA sAc eA eAc tA tAc)] ++ (itms 3 qs)) w1) => hasInt w1 sb sc b.start ((t : Nat) : Int) (hI.sl h.st) (by skip; omega)
     refine TO.gd rfl rfl rfl (l_call ent31 (CallT.pu hk82) rfl ?_)
     clear hk82
     rintro vr O' ⟨N, rfl, rfl, rfl⟩
     refine TO.q (q_pick1 rfl rfl) (TO.nil (T.condP rfl (fun hc => ?_) (fun hc => ?_)))
     ·refine T.rg ?_
      refine TO.q (q_fa Try.underlying26 rfl inf22 rfl rfl) (TO.q (q_lb 2 Try.underlying22 rfl rfl rfl rfl) (TO.qm rfl (TO.l rfl (l_build1 (v := .int .i64 (((s * b.states.toNat) + t : Nat) : Int)) Try.underlying22 inf3 rfl rfl rfl (fun bx4 => ?_)))))
      refine TO.l rfl (l_append 1 Try.underlying22 Try.underlying22 inf3 rfl rfl rfl rfl (by simp) (by decide) (Src.row (j := 0) rfl (by simp)) (by simp [oneB]) (by omega) (by decide) (by decide) (fun bx5 c6 => ?_))
      refine TO.q (q_fa Try.underlying26 rfl inf22 rfl rfl) (TO.l rfl (l_sb (v := (.slice bx5 (((pickI (stP a b) (s * b.states.toNat + t)).length) + 1) c6)) (vs := [(.slice bx5 (((pickI (stP a b) (s * b.states.toNat + t)).length) + 1) c6)]) 3 inf22 rfl rfl rfl rfl rfl rfl (by simp [putL]) ?_))
      refine TO.nil ?_
      have hpd := pair_div (n := b.states.toNat) (s := s) hlt65
      have hpv : (stP a b) (s * b.states.toNat + t) = true := by unfold stP; rw [hpd.1, hpd.2]; simp_all
      have hpy : (pickI (stP a b) (s * b.states.toNat + t + 1)) = (pickI (stP a b) (s * b.states.toNat + t)) ++ [((s * b.states.toNat + t : Nat) : Int)] := pickI_yes hpv
      exact ⟨bx5, c6, (by rw [hpy, show ints ((pickI (stP a b) (s * b.states.toNat + t)) ++ [((s * b.states.toNat + t : Nat) : Int)]) = ints (pickI (stP a b) (s * b.states.toNat + t)) ++ [.int .i64 ((s * b.states.toNat + t : Nat) : Int)] from List.map_append, show ((pickI (stP a b) (s * b.states.toNat + t)) ++ [((s * b.states.toNat + t : Nat) : Int)]).length = (pickI (stP a b) (s * b.states.toNat + t)).length + 1 by simp]; exact (by exact Sub.d (.k (.k (.k (.k (.k (.k .rf)))))))), ⟨rfl, rfl, rfl, rfl, rfl, rfl, rfl, rfl, rfl, rfl, rfl, trivial⟩⟩
     refine T.skip ?_
     have hpd := pair_div (n := b.states.toNat) (s := s) hlt65
     have hpv : ¬ (stP a b) (s * b.states.toNat + t) = true := by unfold stP; rw [hpd.1, hpd.2]; simp_all
     have hpy : (pickI (stP a b) (s * b.states.toNat + t + 1)) = (pickI (stP a b) (s * b.states.toNat + t)) := pickI_no hpv
     exact ⟨pb1, pc1, (by rw [hpy]; exact (by exact Sub.rf)), ⟨rfl, rfl, rfl, rfl, rfl, rfl, rfl, rfl, rfl, rfl, rfl, trivial⟩⟩
    refine TO.q (QT.toB (q_move rfl) (decide_eq_false hs78)) (TO.pd rfl rfl (TO.pd rfl rfl (TO.pd rfl rfl (TO.pd rfl rfl (TO.q (q_pick0 rfl rfl) (TO.nil (T.cond0 rfl ?_)))))))
    refine T.skip ?_
    have hpd := pair_div (n := b.states.toNat) (s := s) hlt65
    have hpv : ¬ (stP a b) (s * b.states.toNat + t) = true := by unfold stP; rw [hpd.1, hpd.2]; simp_all
    have hpy : (pickI (stP a b) (s * b.states.toNat + t + 1)) = (pickI (stP a b) (s * b.states.toNat + t)) := pickI_no hpv
    exact ⟨pb1, pc1, (by rw [hpy]; exact (by exact Sub.rf)), ⟨rfl, rfl, rfl, rfl, rfl, rfl, rfl, rfl, rfl, rfl, rfl, trivial⟩⟩
   rintro ρ O ⟨pb2, pc2, hS, hH⟩
   obtain ⟨ρ0, rfl⟩ := hH.elim
   clear hH
   refine T.sub hS ?_
   refine T.seq (T.rg (TO.qa rfl (TO.nil (T.block ?_))))
   refine T.loopS (fun (k : Nat) ρ O => ∃ (q2 : List Rec), O = ([rowI pb2 pc2 3 1 (ints (pickI (stP a b) (s * b.states.toNat + t + 1))), rowI (aD zS) (a.sets.length + b.sets.length) 22 1 (vals q2), oI zO 26 [(.int .i64 a.vars), .int .i64 ((a.states.toNat * b.states.toNat : Nat) : Int), (.slice pb2 ((pickI (stP a b) (s * b.states.toNat + t + 1)).length) pc2), nS, (.slice (aD zS) (a.sets.length + b.sets.length) (a.sets.length + b.sets.length))], oI bx3 26 [(.int .i64 0), (.int .i64 0), nS, nS, nS], oI bx2 26 (buC b sb sc eb ec tb tc), oI bx1 26 (buC a sA sAc eA eAc tA tAc)] ++ (itms 3 q2)) ∧ k ≤ (a.sets.length + b.sets.length) ∧ nums q2 = midSets a b (s * b.states.toNat + t) k ∧ Heads [(0, (.agg (buC a sA sAc eA eAc tA tAc).toArray)), (1, (.agg (buC b sb sc eb ec tb tc).toArray)), (2, (.pointer (aD bx1))), (3, (.pointer (aD bx2))), (4, (.pointer (aD bx3))), (5, .int .i64 0), (6, .int .i64 ((pairE a b : Nat) : Int)), (7, (.pointer (aD zO))), (8, .int .i64 (s : Int)), (9, .int .i64 (t : Int)), (10, .int .i64 (((s * b.states.toNat) + t : Nat) : Int)), (11, .int .i64 (k : Int))] ρ) (fun k => (a.sets.length + b.sets.length) - k) 0 ?_ ?_
   ·exact ⟨qs, rfl, Nat.zero_le _, (by rw [mid_zero]; exact hqs), ⟨rfl, rfl, rfl, rfl, rfl, rfl, rfl, rfl, rfl, rfl, rfl, rfl, trivial⟩⟩
   rintro k ρ O ⟨q2, rfl, hk, hq2, hH⟩
   obtain ⟨ρ0, rfl⟩ := hH.elim
   clear hH
   have hq2l : q2.length = (a.sets.length + b.sets.length) := by have h9 := congrArg List.length hq2; rw [mid_len] at h9; simpa [nums] using h9
   refine T.seq (T.seq (T.rg (TO.qm rfl (TO.q (q_fa Try.underlying26 rfl inf24 rfl rfl) (TO.q (q_lb 2 Try.underlying24 rfl rfl rfl rfl) (TO.q (q_len Try.underlying24 rfl) (TO.q (q_lss rfl rfl) (TO.nil (T.condP rfl (fun hc => ?_) (fun hc => ?_))))))))))
   ·have hlt94 : k < (a.sets.length + b.sets.length) := by omega
    refine T.skip (T.seq (T.block (T.seq (T.rg (TO.qm rfl (TO.q (q_fa Try.underlying26 rfl inf24 rfl rfl) (TO.q (q_lb 5 Try.underlying24 rfl rfl rfl rfl) (TO.q (q_len Try.underlying24 rfl) (TO.q (q_lss rfl rfl) ?_)))))))))
    by_cases hs102 : (k : Int) < (a.sets.length : Int)
    ·refine TO.q (QT.toB (q_move rfl) (decide_eq_true hs102)) ?_
     have hka : k < a.sets.length := by omega
     obtain ⟨sak, sac, g1, s1⟩ := hA.rows.get hka
     refine TO.gq rfl rfl (q_fa Try.underlying26 rfl inf24 rfl rfl) (TO.gq rfl rfl (q_lb 5 Try.underlying24 rfl rfl rfl rfl) (TO.gq rfl rfl (q_move rfl) (TO.gq rfl rfl (q_ix (i := k) Try.underlying24 inf22 rfl rfl (Sl.o hA.out) hka (by rw [hA.rows.1]; exact hka)) (TO.gq rfl rfl (q_ld Try.underlying22 rfl rfl (Sl.o hA.out) g1) (TO.gq rfl rfl (q_move rfl) ?_)))))
     have hk109 := fun (w1 : World) (hI : Inv w ([rowI pb2 pc2 3 1 (ints (pickI (stP a b) (s * b.states.toNat + t + 1))), rowI (aD zS) (a.sets.length + b.sets.length) 22 1 (vals q2), oI zO 26 [(.int .i64 a.vars), .int .i64 ((a.states.toNat * b.states.toNat : Nat) : Int), (.slice pb2 ((pickI (stP a b) (s * b.states.toNat + t + 1)).length) pc2), nS, (.slice (aD zS) (a.sets.length + b.sets.length) (a.sets.length + b.sets.length))], oI bx3 26 [(.int .i64 0), (.int .i64 0), nS, nS, nS], oI bx2 26 (buC b sb sc eb ec tb tc), oI bx1 26 (buC a sA sAc eA eAc tA tAc)] ++ (itms 3 q2)) w1) => hasInt w1 sak sac a.sets[k] ((s : Nat) : Int) (hI.sl s1) (by have := hAB.sr _ (List.getElem_mem hka); omega)
     refine TO.gd rfl rfl rfl (l_call ent31 (CallT.pu hk109) rfl ?_)
     clear hk109
     rintro vr O' ⟨N, rfl, rfl, rfl⟩
     refine TO.q (q_pick1 rfl rfl) ?_
     by_cases hs111 : ((s : Nat) : Int) ∈ a.sets[k]
     ·refine TO.q (QT.toB (q_move rfl) (decide_eq_true hs111)) ?_
      refine TO.pd rfl rfl (TO.pd rfl rfl (TO.pd rfl rfl (TO.pd rfl rfl (TO.pd rfl rfl (TO.pd rfl rfl (TO.pd rfl rfl (TO.pd rfl rfl ?_)))))))
      refine TO.pd rfl rfl (TO.pd rfl rfl (TO.pd rfl rfl (TO.pd rfl rfl (TO.pd rfl rfl (TO.pd rfl rfl (TO.pd rfl rfl (TO.pd rfl rfl ?_)))))))
      refine TO.pd rfl rfl (TO.pd rfl rfl (TO.q (q_pick1 rfl rfl) (TO.nil ?_)))
      refine T.cond1 rfl ?_
      have hkq : k < q2.length := by omega
      have hkl9 : q2[k].xs.length ≤ 4096 * 4096 := by
       have h1 : q2[k].xs = (inSets a b (s * b.states.toNat + t))[k]'(by rw [inSets_len]; exact hlt94) := by rw [← mid_at hlt94]; simp only [← hq2]; simp [nums]
       rw [h1, inSets_at hlt94]; split <;> (refine Nat.le_trans (pickI_len _ _) ?_; have := pair_lt (n := b.states.toNat) (k := a.states.toNat) (s := s) (t := t) (by omega) (by omega); omega)
      refine T.sub (sub_out hkq [rowI pb2 pc2 3 1 (ints (pickI (stP a b) (s * b.states.toNat + t + 1))), rowI (aD zS) (a.sets.length + b.sets.length) 22 1 (vals q2), oI zO 26 [(.int .i64 a.vars), .int .i64 ((a.states.toNat * b.states.toNat : Nat) : Int), (.slice pb2 ((pickI (stP a b) (s * b.states.toNat + t + 1)).length) pc2), nS, (.slice (aD zS) (a.sets.length + b.sets.length) (a.sets.length + b.sets.length))], oI bx3 26 [(.int .i64 0), (.int .i64 0), nS, nS, nS], oI bx2 26 (buC b sb sc eb ec tb tc), oI bx1 26 (buC a sA sAc eA eAc tA tAc)]) ?_
      refine T.draws [rowI pb2 pc2 3 1 (ints (pickI (stP a b) (s * b.states.toNat + t + 1))), rowI (aD zS) (a.sets.length + b.sets.length) 22 1 (vals q2), oI zO 26 [(.int .i64 a.vars), .int .i64 ((a.states.toNat * b.states.toNat : Nat) : Int), (.slice pb2 ((pickI (stP a b) (s * b.states.toNat + t + 1)).length) pc2), nS, (.slice (aD zS) (a.sets.length + b.sets.length) (a.sets.length + b.sets.length))], oI bx3 26 [(.int .i64 0), (.int .i64 0), nS, nS, nS], oI bx2 26 (buC b sb sc eb ec tb tc), oI bx1 26 (buC a sA sAc eA eAc tA tAc)] [(0, 0), (1, 0), (2, 0), (3, 0), (4, 0), (5, 0), (6, 0), (7, 0), (8, 0), (9, 1), (10, 1), (11, 0), (12, 2)] mixed (by kernel_rfl) (by exact Sub.d (.k (.k (.k (.k (.k (.k .z))))))) (fun _ _ _ h => h) ?_
      refine DO.q rfl (q_fa Try.underlying26 rfl inf24 rfl rfl) (DO.q rfl (q_lb 2 Try.underlying24 rfl rfl rfl rfl) (DO.q rfl (q_move rfl) (DO.q rfl (q_fa Try.underlying26 rfl inf24 rfl rfl) (DO.q rfl (q_lb 2 Try.underlying24 rfl rfl rfl rfl) (DO.q rfl (q_move rfl) (DO.q rfl (q_ix (i := k) Try.underlying24 inf22 rfl rfl (rowO (mG 1 rfl)) (by omega) (by simp [vals]; omega)) (DO.q rfl (q_ld Try.underlying22 rfl rfl (rowO (mG 1 rfl)) (vals_at hkq)) (DO.q rfl (q_move rfl) ?_))))))))
      refine DO.loud rfl rfl (l_build1 (v := .int .i64 (((s * b.states.toNat) + t : Nat) : Int)) Try.underlying22 inf3 rfl rfl rfl (fun bx7 => ⟨by exact Sub.d (.d (.k (.k (.k (.k (.k (.k .z))))))), ?_⟩))
      refine DO.loud rfl rfl (l_append 1 Try.underlying22 Try.underlying22 inf3 rfl rfl rfl rfl (by simp) (by decide) (Src.row (j := 0) rfl (by simp)) (by simp [oneB]) (by omega) (by decide) (by decide) (fun bx8 c9 => ⟨by exact Sub.d (.d (.k (.k (.k (.k (.k (.k .z))))))), ?_⟩))
      refine DO.q rfl (q_ix (i := k) Try.underlying24 inf22 rfl rfl (rowO (mG 1 rfl)) (by omega) (by simp [vals]; omega)) ?_
      refine DO.last rfl rfl (l_st (j := k) (v := (.slice bx8 (q2[k].xs.length + 1) c9)) (vs := [(.slice bx8 (q2[k].xs.length + 1) c9)]) (cs := vals q2) 3 inf22 rfl rfl rfl rfl rfl (by simp) rfl (by simp [vals]; omega) ?_)
      refine DO.sub (O' := ([rowI (aD bx7) 1 3 1 [.int .i64 (((s * b.states.toNat) + t : Nat) : Int)], rowI bx8 c9 3 1 ((ints q2[k].xs) ++ [.int .i64 (((s * b.states.toNat) + t : Nat) : Int)]), rowI pb2 pc2 3 1 (ints (pickI (stP a b) (s * b.states.toNat + t + 1))), rowI (aD zS) (a.sets.length + b.sets.length) 22 1 (vals (q2.set k ⟨bx8, c9, q2[k].xs ++ [((s * b.states.toNat + t : Nat) : Int)]⟩)), oI zO 26 [(.int .i64 a.vars), .int .i64 ((a.states.toNat * b.states.toNat : Nat) : Int), (.slice pb2 ((pickI (stP a b) (s * b.states.toNat + t + 1)).length) pc2), nS, (.slice (aD zS) (a.sets.length + b.sets.length) (a.sets.length + b.sets.length))], oI bx3 26 [(.int .i64 0), (.int .i64 0), nS, nS, nS], oI bx2 26 (buC b sb sc eb ec tb tc), oI bx1 26 (buC a sA sAc eA eAc tA tAc)] ++ (itms 3 (q2.eraseIdx k)))) (by rw [show putL (vals q2) k [(.slice bx8 (q2[k].xs.length + 1) c9)] = vals (q2.set k ⟨bx8, c9, q2[k].xs ++ [((s * b.states.toNat + t : Nat) : Int)]⟩) from (by simp [putL, Rec.val])]; exact Sub.of (List.Sublist.refl _)) ?_
      refine DO.sub (O' := [rowI bx8 c9 3 1 ((ints q2[k].xs) ++ [.int .i64 (((s * b.states.toNat) + t : Nat) : Int)]), rowI pb2 pc2 3 1 (ints (pickI (stP a b) (s * b.states.toNat + t + 1))), rowI (aD zS) (a.sets.length + b.sets.length) 22 1 (vals (q2.set k ⟨bx8, c9, q2[k].xs ++ [((s * b.states.toNat + t : Nat) : Int)]⟩)), oI zO 26 [(.int .i64 a.vars), .int .i64 ((a.states.toNat * b.states.toNat : Nat) : Int), (.slice pb2 ((pickI (stP a b) (s * b.states.toNat + t + 1)).length) pc2), nS, (.slice (aD zS) (a.sets.length + b.sets.length) (a.sets.length + b.sets.length))], oI bx3 26 [(.int .i64 0), (.int .i64 0), nS, nS, nS], oI bx2 26 (buC b sb sc eb ec tb tc), oI bx1 26 (buC a sA sAc eA eAc tA tAc)] ++ (itms 3 (q2.eraseIdx k))) (by exact Sub.d (.k (.k (.k (.k (.k (.k (.k .rf)))))))) ?_
      refine DO.sub (O' := [rowI pb2 pc2 3 1 (ints (pickI (stP a b) (s * b.states.toNat + t + 1))), rowI (aD zS) (a.sets.length + b.sets.length) 22 1 (vals (q2.set k ⟨bx8, c9, q2[k].xs ++ [((s * b.states.toNat + t : Nat) : Int)]⟩)), oI zO 26 [(.int .i64 a.vars), .int .i64 ((a.states.toNat * b.states.toNat : Nat) : Int), (.slice pb2 ((pickI (stP a b) (s * b.states.toNat + t + 1)).length) pc2), nS, (.slice (aD zS) (a.sets.length + b.sets.length) (a.sets.length + b.sets.length))], oI bx3 26 [(.int .i64 0), (.int .i64 0), nS, nS, nS], oI bx2 26 (buC b sb sc eb ec tb tc), oI bx1 26 (buC a sA sAc eA eAc tA tAc)] ++ (itms 3 (q2.set k ⟨bx8, c9, q2[k].xs ++ [((s * b.states.toNat + t : Nat) : Int)]⟩))) (sub_in hkq [rowI pb2 pc2 3 1 (ints (pickI (stP a b) (s * b.states.toNat + t + 1))), rowI (aD zS) (a.sets.length + b.sets.length) 22 1 (vals (q2.set k ⟨bx8, c9, q2[k].xs ++ [((s * b.states.toNat + t : Nat) : Int)]⟩)), oI zO 26 [(.int .i64 a.vars), .int .i64 ((a.states.toNat * b.states.toNat : Nat) : Int), (.slice pb2 ((pickI (stP a b) (s * b.states.toNat + t + 1)).length) pc2), nS, (.slice (aD zS) (a.sets.length + b.sets.length) (a.sets.length + b.sets.length))], oI bx3 26 [(.int .i64 0), (.int .i64 0), nS, nS, nS], oI bx2 26 (buC b sb sc eb ec tb tc), oI bx1 26 (buC a sA sAc eA eAc tA tAc)] ⟨bx8, c9, q2[k].xs ++ [((s * b.states.toNat + t : Nat) : Int)]⟩ (by simp)) ?_
      refine DO.done ?_
      refine T.rg (TO.qm rfl (TO.q (q_addN (a := k) (b := 1) rfl rfl (by omega)) (TO.qa rfl (TO.nil ?_))))
      have hpd := pair_div (n := b.states.toNat) (s := s) hlt65
      have hinp : inP a b (s * b.states.toNat + t) k = (if h : k < a.sets.length then decide (((s : Nat) : Int) ∈ a.sets[k]) else if h2 : k - a.sets.length < b.sets.length then decide (((t : Nat) : Int) ∈ b.sets[k - a.sets.length]) else false) := by unfold inP faP fbP; simp only [hpd.1, hpd.2]
      have hip : inP a b (s * b.states.toNat + t) k = true := by rw [hinp]; first | exact (by rw [dif_pos (by omega)]; first | assumption | simp_all) | exact (by rw [dif_neg (by omega), dif_pos (by omega)]; first | assumption | simp_all) | simp_all
      exact ⟨k + 1, by omega, ([rowI pb2 pc2 3 1 (ints (pickI (stP a b) (s * b.states.toNat + t + 1))), rowI (aD zS) (a.sets.length + b.sets.length) 22 1 (vals (q2.set k ⟨bx8, c9, q2[k].xs ++ [((s * b.states.toNat + t : Nat) : Int)]⟩)), oI zO 26 [(.int .i64 a.vars), .int .i64 ((a.states.toNat * b.states.toNat : Nat) : Int), (.slice pb2 ((pickI (stP a b) (s * b.states.toNat + t + 1)).length) pc2), nS, (.slice (aD zS) (a.sets.length + b.sets.length) (a.sets.length + b.sets.length))], oI bx3 26 [(.int .i64 0), (.int .i64 0), nS, nS, nS], oI bx2 26 (buC b sb sc eb ec tb tc), oI bx1 26 (buC a sA sAc eA eAc tA tAc)] ++ (itms 3 (q2.set k ⟨bx8, c9, q2[k].xs ++ [((s * b.states.toNat + t : Nat) : Int)]⟩))), (by exact Sub.rf), q2.set k ⟨bx8, c9, q2[k].xs ++ [((s * b.states.toNat + t : Nat) : Int)]⟩, rfl, by omega, mid_yes hlt94 hkq hq2 hip _ _, ⟨rfl, rfl, rfl, rfl, rfl, rfl, rfl, rfl, rfl, rfl, rfl, rfl, trivial⟩⟩
     refine TO.q (QT.toB (q_move rfl) (decide_eq_false hs111)) (TO.gq rfl rfl (q_move rfl) (TO.gq rfl rfl (q_fa Try.underlying26 rfl inf24 rfl rfl) (TO.gq rfl rfl (q_lb 5 Try.underlying24 rfl rfl rfl rfl) (TO.gq rfl rfl (q_len Try.underlying24 rfl) (TO.gq rfl rfl (QT.toB (q_geq rfl rfl) (decide_eq_false (by omega))) (TO.gq rfl rfl (q_move rfl) (TO.pd rfl rfl ?_)))))))
     refine TO.pd rfl rfl (TO.pd rfl rfl (TO.pd rfl rfl (TO.pd rfl rfl (TO.pd rfl rfl (TO.pd rfl rfl (TO.pd rfl rfl (TO.pd rfl rfl ?_)))))))
     refine TO.pd rfl rfl (TO.pd rfl rfl (TO.gq rfl rfl (q_pick0 rfl rfl) (TO.q (q_pick0 rfl rfl) (TO.nil (T.cond0 rfl (T.skip (T.rg (TO.qm rfl (TO.q (q_addN (a := k) (b := 1) rfl rfl (by omega)) (TO.qa rfl ?_))))))))))
     refine TO.nil ?_
     have hpd := pair_div (n := b.states.toNat) (s := s) hlt65
     have hinp : inP a b (s * b.states.toNat + t) k = (if h : k < a.sets.length then decide (((s : Nat) : Int) ∈ a.sets[k]) else if h2 : k - a.sets.length < b.sets.length then decide (((t : Nat) : Int) ∈ b.sets[k - a.sets.length]) else false) := by unfold inP faP fbP; simp only [hpd.1, hpd.2]
     have hip : ¬ inP a b (s * b.states.toNat + t) k = true := by rw [hinp]; first | exact (by rw [dif_pos (by omega)]; first | assumption | simp_all) | exact (by rw [dif_neg (by omega), dif_pos (by omega)]; first | assumption | simp_all) | simp_all
     exact ⟨k + 1, by omega, ([rowI pb2 pc2 3 1 (ints (pickI (stP a b) (s * b.states.toNat + t + 1))), rowI (aD zS) (a.sets.length + b.sets.length) 22 1 (vals q2), oI zO 26 [(.int .i64 a.vars), .int .i64 ((a.states.toNat * b.states.toNat : Nat) : Int), (.slice pb2 ((pickI (stP a b) (s * b.states.toNat + t + 1)).length) pc2), nS, (.slice (aD zS) (a.sets.length + b.sets.length) (a.sets.length + b.sets.length))], oI bx3 26 [(.int .i64 0), (.int .i64 0), nS, nS, nS], oI bx2 26 (buC b sb sc eb ec tb tc), oI bx1 26 (buC a sA sAc eA eAc tA tAc)] ++ (itms 3 q2)), (by exact Sub.rf), q2, rfl, by omega, mid_no hlt94 hq2 hip, ⟨rfl, rfl, rfl, rfl, rfl, rfl, rfl, rfl, rfl, rfl, rfl, rfl, trivial⟩⟩
    refine TO.q (QT.toB (q_move rfl) (decide_eq_false hs102)) (TO.pd rfl rfl (TO.pd rfl rfl (TO.pd rfl rfl (TO.pd rfl rfl (TO.pd rfl rfl (TO.pd rfl rfl (TO.pd rfl rfl ?_)))))))
    refine TO.q (q_pick0 rfl rfl) (TO.qm rfl (TO.gq rfl rfl (q_move rfl) (TO.gq rfl rfl (q_fa Try.underlying26 rfl inf24 rfl rfl) (TO.gq rfl rfl (q_lb 5 Try.underlying24 rfl rfl rfl rfl) (TO.gq rfl rfl (q_len Try.underlying24 rfl) (TO.gq rfl rfl (QT.toB (q_geq rfl rfl) (decide_eq_true (by omega))) (TO.gq rfl rfl (q_move rfl) ?_)))))))
    have hkb : k - a.sets.length < b.sets.length := by omega
    obtain ⟨sbk, sck, g2, s2⟩ := h.rows.get hkb
    refine TO.gq rfl rfl (q_fa Try.underlying26 rfl inf24 rfl rfl) (TO.gq rfl rfl (q_lb 4 Try.underlying24 rfl rfl rfl rfl) (TO.gq rfl rfl (q_move rfl) (TO.gq rfl rfl (q_fa Try.underlying26 rfl inf24 rfl rfl) (TO.gq rfl rfl (q_lb 5 Try.underlying24 rfl rfl rfl rfl) (TO.gq rfl rfl (q_len Try.underlying24 rfl) (TO.gq rfl rfl (q_subN (a := k) (b := a.sets.length) rfl rfl (by omega) (by omega)) (TO.gq rfl rfl (q_ix (i := (k - a.sets.length)) Try.underlying24 inf22 rfl rfl (Sl.o h.out) hkb (by rw [h.rows.1]; exact hkb)) ?_)))))))
    refine TO.gq rfl rfl (q_ld Try.underlying22 rfl rfl (Sl.o h.out) g2) (TO.gq rfl rfl (q_move rfl) ?_)
    have hk128 := fun (w1 : World) (hI : Inv w ([rowI pb2 pc2 3 1 (ints (pickI (stP a b) (s * b.states.toNat + t + 1))), rowI (aD zS) (a.sets.length + b.sets.length) 22 1 (vals q2), oI zO 26 [(.int .i64 a.vars), .int .i64 ((a.states.toNat * b.states.toNat : Nat) : Int), (.slice pb2 ((pickI (stP a b) (s * b.states.toNat + t + 1)).length) pc2), nS, (.slice (aD zS) (a.sets.length + b.sets.length) (a.sets.length + b.sets.length))], oI bx3 26 [(.int .i64 0), (.int .i64 0), nS, nS, nS], oI bx2 26 (buC b sb sc eb ec tb tc), oI bx1 26 (buC a sA sAc eA eAc tA tAc)] ++ (itms 3 q2)) w1) => hasInt w1 sbk sck b.sets[k - a.sets.length] ((t : Nat) : Int) (hI.sl s2) (by have := hB.sr _ (List.getElem_mem hkb); omega)
    refine TO.gd rfl rfl rfl (l_call ent31 (CallT.pu hk128) rfl ?_)
    clear hk128
    rintro vr O' ⟨N, rfl, rfl, rfl⟩
    refine TO.gq rfl rfl (q_pick1 rfl rfl) (TO.q (q_pick0 rfl rfl) (TO.nil (T.condP rfl (fun hc => ?_) (fun hc => ?_))))
    ·have hkq : k < q2.length := by omega
     have hkl9 : q2[k].xs.length ≤ 4096 * 4096 := by
      have h1 : q2[k].xs = (inSets a b (s * b.states.toNat + t))[k]'(by rw [inSets_len]; exact hlt94) := by rw [← mid_at hlt94]; simp only [← hq2]; simp [nums]
      rw [h1, inSets_at hlt94]; split <;> (refine Nat.le_trans (pickI_len _ _) ?_; have := pair_lt (n := b.states.toNat) (k := a.states.toNat) (s := s) (t := t) (by omega) (by omega); omega)
     refine T.sub (sub_out hkq [rowI pb2 pc2 3 1 (ints (pickI (stP a b) (s * b.states.toNat + t + 1))), rowI (aD zS) (a.sets.length + b.sets.length) 22 1 (vals q2), oI zO 26 [(.int .i64 a.vars), .int .i64 ((a.states.toNat * b.states.toNat : Nat) : Int), (.slice pb2 ((pickI (stP a b) (s * b.states.toNat + t + 1)).length) pc2), nS, (.slice (aD zS) (a.sets.length + b.sets.length) (a.sets.length + b.sets.length))], oI bx3 26 [(.int .i64 0), (.int .i64 0), nS, nS, nS], oI bx2 26 (buC b sb sc eb ec tb tc), oI bx1 26 (buC a sA sAc eA eAc tA tAc)]) ?_
     refine T.draws [rowI pb2 pc2 3 1 (ints (pickI (stP a b) (s * b.states.toNat + t + 1))), rowI (aD zS) (a.sets.length + b.sets.length) 22 1 (vals q2), oI zO 26 [(.int .i64 a.vars), .int .i64 ((a.states.toNat * b.states.toNat : Nat) : Int), (.slice pb2 ((pickI (stP a b) (s * b.states.toNat + t + 1)).length) pc2), nS, (.slice (aD zS) (a.sets.length + b.sets.length) (a.sets.length + b.sets.length))], oI bx3 26 [(.int .i64 0), (.int .i64 0), nS, nS, nS], oI bx2 26 (buC b sb sc eb ec tb tc), oI bx1 26 (buC a sA sAc eA eAc tA tAc)] [(0, 0), (1, 0), (2, 0), (3, 0), (4, 0), (5, 0), (6, 0), (7, 0), (8, 0), (9, 1), (10, 1), (11, 0), (12, 2)] mixed (by kernel_rfl) (by exact Sub.d (.k (.k (.k (.k (.k (.k .z))))))) (fun _ _ _ h => h) ?_
     refine DO.q rfl (q_fa Try.underlying26 rfl inf24 rfl rfl) (DO.q rfl (q_lb 2 Try.underlying24 rfl rfl rfl rfl) (DO.q rfl (q_move rfl) (DO.q rfl (q_fa Try.underlying26 rfl inf24 rfl rfl) (DO.q rfl (q_lb 2 Try.underlying24 rfl rfl rfl rfl) (DO.q rfl (q_move rfl) (DO.q rfl (q_ix (i := k) Try.underlying24 inf22 rfl rfl (rowO (mG 1 rfl)) (by omega) (by simp [vals]; omega)) (DO.q rfl (q_ld Try.underlying22 rfl rfl (rowO (mG 1 rfl)) (vals_at hkq)) (DO.q rfl (q_move rfl) ?_))))))))
     refine DO.loud rfl rfl (l_build1 (v := .int .i64 (((s * b.states.toNat) + t : Nat) : Int)) Try.underlying22 inf3 rfl rfl rfl (fun bx10 => ⟨by exact Sub.d (.d (.k (.k (.k (.k (.k (.k .z))))))), ?_⟩))
     refine DO.loud rfl rfl (l_append 1 Try.underlying22 Try.underlying22 inf3 rfl rfl rfl rfl (by simp) (by decide) (Src.row (j := 0) rfl (by simp)) (by simp [oneB]) (by omega) (by decide) (by decide) (fun bx11 c12 => ⟨by exact Sub.d (.d (.k (.k (.k (.k (.k (.k .z))))))), ?_⟩))
     refine DO.q rfl (q_ix (i := k) Try.underlying24 inf22 rfl rfl (rowO (mG 1 rfl)) (by omega) (by simp [vals]; omega)) ?_
     refine DO.last rfl rfl (l_st (j := k) (v := (.slice bx11 (q2[k].xs.length + 1) c12)) (vs := [(.slice bx11 (q2[k].xs.length + 1) c12)]) (cs := vals q2) 3 inf22 rfl rfl rfl rfl rfl (by simp) rfl (by simp [vals]; omega) ?_)
     refine DO.sub (O' := ([rowI (aD bx10) 1 3 1 [.int .i64 (((s * b.states.toNat) + t : Nat) : Int)], rowI bx11 c12 3 1 ((ints q2[k].xs) ++ [.int .i64 (((s * b.states.toNat) + t : Nat) : Int)]), rowI pb2 pc2 3 1 (ints (pickI (stP a b) (s * b.states.toNat + t + 1))), rowI (aD zS) (a.sets.length + b.sets.length) 22 1 (vals (q2.set k ⟨bx11, c12, q2[k].xs ++ [((s * b.states.toNat + t : Nat) : Int)]⟩)), oI zO 26 [(.int .i64 a.vars), .int .i64 ((a.states.toNat * b.states.toNat : Nat) : Int), (.slice pb2 ((pickI (stP a b) (s * b.states.toNat + t + 1)).length) pc2), nS, (.slice (aD zS) (a.sets.length + b.sets.length) (a.sets.length + b.sets.length))], oI bx3 26 [(.int .i64 0), (.int .i64 0), nS, nS, nS], oI bx2 26 (buC b sb sc eb ec tb tc), oI bx1 26 (buC a sA sAc eA eAc tA tAc)] ++ (itms 3 (q2.eraseIdx k)))) (by rw [show putL (vals q2) k [(.slice bx11 (q2[k].xs.length + 1) c12)] = vals (q2.set k ⟨bx11, c12, q2[k].xs ++ [((s * b.states.toNat + t : Nat) : Int)]⟩) from (by simp [putL, Rec.val])]; exact Sub.of (List.Sublist.refl _)) ?_
     refine DO.sub (O' := [rowI bx11 c12 3 1 ((ints q2[k].xs) ++ [.int .i64 (((s * b.states.toNat) + t : Nat) : Int)]), rowI pb2 pc2 3 1 (ints (pickI (stP a b) (s * b.states.toNat + t + 1))), rowI (aD zS) (a.sets.length + b.sets.length) 22 1 (vals (q2.set k ⟨bx11, c12, q2[k].xs ++ [((s * b.states.toNat + t : Nat) : Int)]⟩)), oI zO 26 [(.int .i64 a.vars), .int .i64 ((a.states.toNat * b.states.toNat : Nat) : Int), (.slice pb2 ((pickI (stP a b) (s * b.states.toNat + t + 1)).length) pc2), nS, (.slice (aD zS) (a.sets.length + b.sets.length) (a.sets.length + b.sets.length))], oI bx3 26 [(.int .i64 0), (.int .i64 0), nS, nS, nS], oI bx2 26 (buC b sb sc eb ec tb tc), oI bx1 26 (buC a sA sAc eA eAc tA tAc)] ++ (itms 3 (q2.eraseIdx k))) (by exact Sub.d (.k (.k (.k (.k (.k (.k (.k .rf)))))))) ?_
     refine DO.sub (O' := [rowI pb2 pc2 3 1 (ints (pickI (stP a b) (s * b.states.toNat + t + 1))), rowI (aD zS) (a.sets.length + b.sets.length) 22 1 (vals (q2.set k ⟨bx11, c12, q2[k].xs ++ [((s * b.states.toNat + t : Nat) : Int)]⟩)), oI zO 26 [(.int .i64 a.vars), .int .i64 ((a.states.toNat * b.states.toNat : Nat) : Int), (.slice pb2 ((pickI (stP a b) (s * b.states.toNat + t + 1)).length) pc2), nS, (.slice (aD zS) (a.sets.length + b.sets.length) (a.sets.length + b.sets.length))], oI bx3 26 [(.int .i64 0), (.int .i64 0), nS, nS, nS], oI bx2 26 (buC b sb sc eb ec tb tc), oI bx1 26 (buC a sA sAc eA eAc tA tAc)] ++ (itms 3 (q2.set k ⟨bx11, c12, q2[k].xs ++ [((s * b.states.toNat + t : Nat) : Int)]⟩))) (sub_in hkq [rowI pb2 pc2 3 1 (ints (pickI (stP a b) (s * b.states.toNat + t + 1))), rowI (aD zS) (a.sets.length + b.sets.length) 22 1 (vals (q2.set k ⟨bx11, c12, q2[k].xs ++ [((s * b.states.toNat + t : Nat) : Int)]⟩)), oI zO 26 [(.int .i64 a.vars), .int .i64 ((a.states.toNat * b.states.toNat : Nat) : Int), (.slice pb2 ((pickI (stP a b) (s * b.states.toNat + t + 1)).length) pc2), nS, (.slice (aD zS) (a.sets.length + b.sets.length) (a.sets.length + b.sets.length))], oI bx3 26 [(.int .i64 0), (.int .i64 0), nS, nS, nS], oI bx2 26 (buC b sb sc eb ec tb tc), oI bx1 26 (buC a sA sAc eA eAc tA tAc)] ⟨bx11, c12, q2[k].xs ++ [((s * b.states.toNat + t : Nat) : Int)]⟩ (by simp)) ?_
     refine DO.done ?_
     refine T.rg (TO.qm rfl (TO.q (q_addN (a := k) (b := 1) rfl rfl (by omega)) (TO.qa rfl (TO.nil ?_))))
     have hpd := pair_div (n := b.states.toNat) (s := s) hlt65
     have hinp : inP a b (s * b.states.toNat + t) k = (if h : k < a.sets.length then decide (((s : Nat) : Int) ∈ a.sets[k]) else if h2 : k - a.sets.length < b.sets.length then decide (((t : Nat) : Int) ∈ b.sets[k - a.sets.length]) else false) := by unfold inP faP fbP; simp only [hpd.1, hpd.2]
     have hip : inP a b (s * b.states.toNat + t) k = true := by rw [hinp]; first | exact (by rw [dif_pos (by omega)]; first | assumption | simp_all) | exact (by rw [dif_neg (by omega), dif_pos (by omega)]; first | assumption | simp_all) | simp_all
     exact ⟨k + 1, by omega, ([rowI pb2 pc2 3 1 (ints (pickI (stP a b) (s * b.states.toNat + t + 1))), rowI (aD zS) (a.sets.length + b.sets.length) 22 1 (vals (q2.set k ⟨bx11, c12, q2[k].xs ++ [((s * b.states.toNat + t : Nat) : Int)]⟩)), oI zO 26 [(.int .i64 a.vars), .int .i64 ((a.states.toNat * b.states.toNat : Nat) : Int), (.slice pb2 ((pickI (stP a b) (s * b.states.toNat + t + 1)).length) pc2), nS, (.slice (aD zS) (a.sets.length + b.sets.length) (a.sets.length + b.sets.length))], oI bx3 26 [(.int .i64 0), (.int .i64 0), nS, nS, nS], oI bx2 26 (buC b sb sc eb ec tb tc), oI bx1 26 (buC a sA sAc eA eAc tA tAc)] ++ (itms 3 (q2.set k ⟨bx11, c12, q2[k].xs ++ [((s * b.states.toNat + t : Nat) : Int)]⟩))), (by exact Sub.rf), q2.set k ⟨bx11, c12, q2[k].xs ++ [((s * b.states.toNat + t : Nat) : Int)]⟩, rfl, by omega, mid_yes hlt94 hkq hq2 hip _ _, ⟨rfl, rfl, rfl, rfl, rfl, rfl, rfl, rfl, rfl, rfl, rfl, rfl, trivial⟩⟩
    refine T.skip (T.rg (TO.qm rfl (TO.q (q_addN (a := k) (b := 1) rfl rfl (by omega)) (TO.qa rfl (TO.nil ?_)))))
    have hpd := pair_div (n := b.states.toNat) (s := s) hlt65
    have hinp : inP a b (s * b.states.toNat + t) k = (if h : k < a.sets.length then decide (((s : Nat) : Int) ∈ a.sets[k]) else if h2 : k - a.sets.length < b.sets.length then decide (((t : Nat) : Int) ∈ b.sets[k - a.sets.length]) else false) := by unfold inP faP fbP; simp only [hpd.1, hpd.2]
    have hip : ¬ inP a b (s * b.states.toNat + t) k = true := by rw [hinp]; first | exact (by rw [dif_pos (by omega)]; first | assumption | simp_all) | exact (by rw [dif_neg (by omega), dif_pos (by omega)]; first | assumption | simp_all) | simp_all
    exact ⟨k + 1, by omega, ([rowI pb2 pc2 3 1 (ints (pickI (stP a b) (s * b.states.toNat + t + 1))), rowI (aD zS) (a.sets.length + b.sets.length) 22 1 (vals q2), oI zO 26 [(.int .i64 a.vars), .int .i64 ((a.states.toNat * b.states.toNat : Nat) : Int), (.slice pb2 ((pickI (stP a b) (s * b.states.toNat + t + 1)).length) pc2), nS, (.slice (aD zS) (a.sets.length + b.sets.length) (a.sets.length + b.sets.length))], oI bx3 26 [(.int .i64 0), (.int .i64 0), nS, nS, nS], oI bx2 26 (buC b sb sc eb ec tb tc), oI bx1 26 (buC a sA sAc eA eAc tA tAc)] ++ (itms 3 q2)), (by exact Sub.rf), q2, rfl, by omega, mid_no hlt94 hq2 hip, ⟨rfl, rfl, rfl, rfl, rfl, rfl, rfl, rfl, rfl, rfl, rfl, rfl, trivial⟩⟩
   have hge94 : ¬ k < (a.sets.length + b.sets.length) := by omega
   refine T.exit ?_
   refine T.rg (TO.qm rfl (TO.q (q_addN (a := t) (b := 1) rfl rfl (by omega)) (TO.qa rfl (TO.nil ?_))))
   have hke : k = (a.sets.length + b.sets.length) := by omega
   exact ⟨t + 1, by omega, ([rowI pb2 pc2 3 1 (ints (pickI (stP a b) (s * b.states.toNat + t + 1))), rowI (aD zS) (a.sets.length + b.sets.length) 22 1 (vals q2), oI zO 26 [(.int .i64 a.vars), .int .i64 ((a.states.toNat * b.states.toNat : Nat) : Int), (.slice pb2 ((pickI (stP a b) (s * b.states.toNat + t + 1)).length) pc2), nS, (.slice (aD zS) (a.sets.length + b.sets.length) (a.sets.length + b.sets.length))], oI bx3 26 [(.int .i64 0), (.int .i64 0), nS, nS, nS], oI bx2 26 (buC b sb sc eb ec tb tc), oI bx1 26 (buC a sA sAc eA eAc tA tAc)] ++ (itms 3 q2)), (by exact Sub.rf), pb2, pc2, q2, rfl, by omega, (by rw [hq2, hke]; exact mid_all a b (s * b.states.toNat + t)), ⟨rfl, rfl, rfl, rfl, rfl, rfl, rfl, rfl, rfl, rfl, trivial⟩⟩
  have hge65 : ¬ t < b.states.toNat := by omega
  refine T.exit ?_
  refine T.rg (TO.qm rfl (TO.q (q_addN (a := s) (b := 1) rfl rfl (by omega)) (TO.qa rfl (TO.nil ?_))))
  have hte : s * b.states.toNat + t = (s + 1) * b.states.toNat := by rw [Nat.succ_mul]; omega
  have hpp : (pickI (stP a b) (s * b.states.toNat + t)) = (pickI (stP a b) ((s + 1) * b.states.toNat)) := by rw [hte]
  exact ⟨s + 1, by omega, ([rowI pb1 pc1 3 1 (ints (pickI (stP a b) (s * b.states.toNat + t))), rowI (aD zS) (a.sets.length + b.sets.length) 22 1 (vals qs), oI zO 26 [(.int .i64 a.vars), .int .i64 ((a.states.toNat * b.states.toNat : Nat) : Int), (.slice pb1 ((pickI (stP a b) (s * b.states.toNat + t)).length) pc1), nS, (.slice (aD zS) (a.sets.length + b.sets.length) (a.sets.length + b.sets.length))], oI bx3 26 [(.int .i64 0), (.int .i64 0), nS, nS, nS], oI bx2 26 (buC b sb sc eb ec tb tc), oI bx1 26 (buC a sA sAc eA eAc tA tAc)] ++ (itms 3 qs)), (by exact Sub.rf), pb1, pc1, qs, (by rw [hpp]), by omega, (by rw [← hte]; exact hqs), ⟨rfl, rfl, rfl, rfl, rfl, rfl, rfl, rfl, rfl, trivial⟩⟩
 have hge59 : ¬ s < a.states.toNat := by omega
 refine T.exit ?_
 refine T.seq (T.seq ?_)
 have hall : inAll a b = s * b.states.toNat := by rw [show s = a.states.toNat by omega]; rfl
 refine T.rg (TO.qa rfl (TO.nil (T.block (T.nilRow 54 4 ?_))))
 refine T.loopS (fun (i : Nat) ρ O => ∃ (eb6 : Option Addr) (ec6 : Nat), O = ([rowI eb6 ec6 54 4 (edsC (inT a b i 0)), rowI pb1 pc1 3 1 (ints (pickI (stP a b) (s * b.states.toNat))), rowI (aD zS) (a.sets.length + b.sets.length) 22 1 (vals qs), oI zO 26 [(.int .i64 a.vars), .int .i64 ((a.states.toNat * b.states.toNat : Nat) : Int), (.slice pb1 ((pickI (stP a b) (s * b.states.toNat)).length) pc1), (.slice eb6 ((inT a b i 0).length) ec6), (.slice (aD zS) (a.sets.length + b.sets.length) (a.sets.length + b.sets.length))], oI bx3 26 [(.int .i64 0), (.int .i64 0), nS, nS, nS], oI bx2 26 (buC b sb sc eb ec tb tc), oI bx1 26 (buC a sA sAc eA eAc tA tAc)] ++ (itms 3 qs)) ∧ i ≤ a.edges.length ∧ Heads [(0, (.agg (buC a sA sAc eA eAc tA tAc).toArray)), (1, (.agg (buC b sb sc eb ec tb tc).toArray)), (2, (.pointer (aD bx1))), (3, (.pointer (aD bx2))), (4, (.pointer (aD bx3))), (5, .int .i64 0), (6, .int .i64 ((pairE a b : Nat) : Int)), (7, (.pointer (aD zO))), (8, .int .i64 (s : Int)), (12, .int .i64 (i : Int))] ρ) (fun i => a.edges.length - i) 0 ?_ ?_
 ·exact ⟨none, 0, by rw [inT_zero]; rfl, Nat.zero_le _, ⟨rfl, rfl, rfl, rfl, rfl, rfl, rfl, rfl, rfl, rfl, trivial⟩⟩
 rintro i ρ O ⟨eb6, ec6, rfl, hi, hH⟩
 obtain ⟨ρ0, rfl⟩ := hH.elim
 clear hH
 refine T.seq (T.seq (T.rg (TO.qm rfl (TO.q (q_fa Try.underlying26 rfl inf23 rfl rfl) (TO.q (q_lb 6 Try.underlying23 rfl rfl rfl rfl) (TO.q (q_len Try.underlying23 rfl) (TO.q (q_lss rfl rfl) (TO.nil (T.condP rfl (fun hc => ?_) (fun hc => ?_))))))))))
 ·have hlt147 : i < a.edges.length := by omega
  refine T.skip (T.seq (T.block (T.seq (T.rg (TO.qa rfl (TO.nil (T.block ?_)))))))
  refine T.sub (O' := [rowI eb6 ec6 54 4 (edsC (inT a b i 0)), rowI pb1 pc1 3 1 (ints (pickI (stP a b) (s * b.states.toNat))), rowI (aD zS) (a.sets.length + b.sets.length) 22 1 (vals qs), oI zO 26 [(.int .i64 a.vars), .int .i64 ((a.states.toNat * b.states.toNat : Nat) : Int), (.slice pb1 ((pickI (stP a b) (s * b.states.toNat)).length) pc1), (.slice eb6 ((inT a b i 0).length) ec6), (.slice (aD zS) (a.sets.length + b.sets.length) (a.sets.length + b.sets.length))], oI bx3 26 [(.int .i64 0), (.int .i64 0), nS, nS, nS], oI bx2 26 (buC b sb sc eb ec tb tc), oI bx1 26 (buC a sA sAc eA eAc tA tAc)] ++ itms 3 qs) (by exact Sub.rf) ?_
  refine T.loopS (fun (j : Nat) ρ O => ∃ (eb6 : Option Addr) (ec6 : Nat), O = ([rowI eb6 ec6 54 4 (edsC (inT a b i j)), rowI pb1 pc1 3 1 (ints (pickI (stP a b) (s * b.states.toNat))), rowI (aD zS) (a.sets.length + b.sets.length) 22 1 (vals qs), oI zO 26 [(.int .i64 a.vars), .int .i64 ((a.states.toNat * b.states.toNat : Nat) : Int), (.slice pb1 ((pickI (stP a b) (s * b.states.toNat)).length) pc1), (.slice eb6 ((inT a b i j).length) ec6), (.slice (aD zS) (a.sets.length + b.sets.length) (a.sets.length + b.sets.length))], oI bx3 26 [(.int .i64 0), (.int .i64 0), nS, nS, nS], oI bx2 26 (buC b sb sc eb ec tb tc), oI bx1 26 (buC a sA sAc eA eAc tA tAc)] ++ (itms 3 qs)) ∧ j ≤ b.edges.length ∧ Heads [(0, (.agg (buC a sA sAc eA eAc tA tAc).toArray)), (1, (.agg (buC b sb sc eb ec tb tc).toArray)), (2, (.pointer (aD bx1))), (3, (.pointer (aD bx2))), (4, (.pointer (aD bx3))), (5, .int .i64 0), (6, .int .i64 ((pairE a b : Nat) : Int)), (7, (.pointer (aD zO))), (8, .int .i64 (s : Int)), (12, .int .i64 (i : Int)), (13, .int .i64 (j : Int))] ρ) (fun j => b.edges.length - j) 0 ?_ ?_
  ·exact ⟨eb6, ec6, rfl, Nat.zero_le _, ⟨rfl, rfl, rfl, rfl, rfl, rfl, rfl, rfl, rfl, rfl, rfl, trivial⟩⟩
  rintro j ρ O ⟨eb6, ec6, rfl, hj, hH⟩
  obtain ⟨ρ0, rfl⟩ := hH.elim
  clear hH
  have hil := inT_len (i := i) (j := j) hAe hBe
  refine T.seq (T.seq (T.rg (TO.qm rfl (TO.q (q_fa Try.underlying26 rfl inf23 rfl rfl) (TO.q (q_lb 5 Try.underlying23 rfl rfl rfl rfl) (TO.q (q_len Try.underlying23 rfl) (TO.q (q_lss rfl rfl) (TO.nil (T.condP rfl (fun hc => ?_) (fun hc => ?_))))))))))
  ·have hlt154 : j < b.edges.length := by omega
   refine T.skip (T.seq (T.block ?_))
   refine T.cut (fun ρ O => ∃ (z14 z15 : Nat), O = ([oI z14 54 [.int .i64 a.edges[i].fr, .int .i64 a.edges[i].to, .int .u8 ((a.edges[i].pos : Nat) : Int), .int .u8 ((a.edges[i].neg : Nat) : Int)], oI z15 54 [.int .i64 b.edges[j].fr, .int .i64 b.edges[j].to, .int .u8 ((b.edges[j].pos : Nat) : Int), .int .u8 ((b.edges[j].neg : Nat) : Int)], rowI eb6 ec6 54 4 (edsC (inT a b i j)), rowI pb1 pc1 3 1 (ints (pickI (stP a b) (s * b.states.toNat))), rowI (aD zS) (a.sets.length + b.sets.length) 22 1 (vals qs), oI zO 26 [(.int .i64 a.vars), .int .i64 ((a.states.toNat * b.states.toNat : Nat) : Int), (.slice pb1 ((pickI (stP a b) (s * b.states.toNat)).length) pc1), (.slice eb6 ((inT a b i j).length) ec6), (.slice (aD zS) (a.sets.length + b.sets.length) (a.sets.length + b.sets.length))], oI bx3 26 [(.int .i64 0), (.int .i64 0), nS, nS, nS], oI bx2 26 (buC b sb sc eb ec tb tc), oI bx1 26 (buC a sA sAc eA eAc tA tAc)] ++ (itms 3 qs)) ∧ Heads [(0, (.agg (buC a sA sAc eA eAc tA tAc).toArray)), (1, (.agg (buC b sb sc eb ec tb tc).toArray)), (2, (.pointer (aD bx1))), (3, (.pointer (aD bx2))), (4, (.pointer (aD bx3))), (5, .int .i64 0), (6, .int .i64 ((pairE a b : Nat) : Int)), (7, (.pointer (aD zO))), (8, .int .i64 (s : Int)), (12, .int .i64 (i : Int)), (13, .int .i64 (j : Int)), (14, (.pointer (aD z14))), (15, (.pointer (aD z15)))] ρ) ?_ ?_
   ·refine T.tree [oI bx2 26 (buC b sb sc eb ec tb tc), oI bx1 26 (buC a sA sAc eA eAc tA tAc)] 14 mixed rfl (by exact Sub.d (.d (.d (.d (.d (.k (.k .z))))))) (fun _ _ _ h => h) ?_
    refine RO.quietT 0 rfl (by kernel_rfl) (q_fa Try.underlying26 rfl inf23 rfl rfl) ?_
    refine RO.quietT 1 rfl (by kernel_rfl) (q_lb 1 Try.underlying23 rfl rfl rfl rfl) ?_
    refine RO.quietT 2 rfl (by kernel_rfl) (q_move rfl) ?_
    refine RO.quietT 3 rfl (by kernel_rfl) (q_ixK (i := i) Try.underlying23 inf54 rfl rfl (Sl.o hA.ed) (by first | assumption | omega | (simp; omega) | simp_all) (by first | (rw [eds_len]; omega) | (simp [eds_len]; omega) | (simp_all [eds_len]; omega))) ?_
    refine RO.quietT 4 rfl (by kernel_rfl) (q_ldK (vs := [.int .i64 a.edges[i].fr, .int .i64 a.edges[i].to, .int .u8 ((a.edges[i].pos : Nat) : Int), .int .u8 ((a.edges[i].neg : Nat) : Int)]) Try.underlying54 rfl inf54 rfl rfl (Nat.succ_pos _) (Sl.o hA.ed) (eds_get (by first | assumption | omega | (simp; omega) | simp_all))) ?_
    refine RO.quietT 5 rfl (by kernel_rfl) (q_fa Try.underlying26 rfl inf23 rfl rfl) ?_
    refine RO.quietT 6 rfl (by kernel_rfl) (q_lb 0 Try.underlying23 rfl rfl rfl rfl) ?_
    refine RO.quietT 7 rfl (by kernel_rfl) (q_move rfl) ?_
    refine RO.quietT 8 rfl (by kernel_rfl) (q_ixK (i := j) Try.underlying23 inf54 rfl rfl (Sl.o h.ed) (by first | assumption | omega | (simp; omega) | simp_all) (by first | (rw [eds_len]; omega) | (simp [eds_len]; omega) | (simp_all [eds_len]; omega))) ?_
    refine RO.quietT 9 rfl (by kernel_rfl) (q_ldK (vs := [.int .i64 b.edges[j].fr, .int .i64 b.edges[j].to, .int .u8 ((b.edges[j].pos : Nat) : Int), .int .u8 ((b.edges[j].neg : Nat) : Int)]) Try.underlying54 rfl inf54 rfl rfl (Nat.succ_pos _) (Sl.o h.ed) (eds_get (by first | assumption | omega | (simp; omega) | simp_all))) ?_
    refine RO.fork [10, 11] (by kernel_rfl) rfl ⟨⟨_, rfl, rfl, l_alloc inf54 rfl (fun z14 => ⟨by exact Sub.d (.d (.d (.d (.d (.d (.k (.k .z))))))), ?_⟩)⟩, ⟨_, rfl, rfl, l_alloc inf54 rfl (fun z15 => ⟨by exact Sub.d (.d (.d (.d (.d (.d (.k (.k .z))))))), ?_⟩)⟩, trivial⟩
    ·refine RO.fork [11] (by kernel_rfl) rfl ⟨⟨_, rfl, rfl, l_alloc inf54 rfl (fun z15 => ⟨by exact Sub.d (.d (.d (.d (.d (.d (.d (.k (.k .z)))))))), ?_⟩)⟩, trivial⟩
     refine RO.fork [12] (by kernel_rfl) rfl ⟨⟨_, rfl, rfl, l_sb (v := (.agg #[.int .i64 a.edges[i].fr, .int .i64 a.edges[i].to, .int .u8 ((a.edges[i].pos : Nat) : Int), .int .u8 ((a.edges[i].neg : Nat) : Int)])) (vs := [.int .i64 a.edges[i].fr, .int .i64 a.edges[i].to, .int .u8 ((a.edges[i].pos : Nat) : Int), .int .u8 ((a.edges[i].neg : Nat) : Int)]) 1 inf54 rfl rfl rfl rfl rfl rfl (by simp [putL]) ⟨by exact Sub.d (.d (.d (.d (.d (.d (.d (.k (.k .z)))))))), ?_⟩⟩, trivial⟩
     refine RO.fork [13] (by kernel_rfl) rfl ⟨⟨_, rfl, rfl, l_sb (v := (.agg #[.int .i64 b.edges[j].fr, .int .i64 b.edges[j].to, .int .u8 ((b.edges[j].pos : Nat) : Int), .int .u8 ((b.edges[j].neg : Nat) : Int)])) (vs := [.int .i64 b.edges[j].fr, .int .i64 b.edges[j].to, .int .u8 ((b.edges[j].pos : Nat) : Int), .int .u8 ((b.edges[j].neg : Nat) : Int)]) 0 inf54 rfl rfl rfl rfl rfl rfl (by simp [putL]) ⟨by exact Sub.d (.d (.d (.d (.d (.d (.d (.k (.k .z)))))))), ?_⟩⟩, trivial⟩
     exact RO.fin (by kernel_rfl) ⟨z14, z15, rfl, ⟨rfl, rfl, rfl, rfl, rfl, rfl, rfl, rfl, rfl, rfl, rfl, rfl, rfl, trivial⟩⟩ (Sub.pickR [1, 0, 0, 0, 0, 0, 0, 0, 0] [oI z15 54 [.int .i64 b.edges[j].fr, .int .i64 b.edges[j].to, .int .u8 ((b.edges[j].pos : Nat) : Int), .int .u8 ((b.edges[j].neg : Nat) : Int)], oI z14 54 [.int .i64 a.edges[i].fr, .int .i64 a.edges[i].to, .int .u8 ((a.edges[i].pos : Nat) : Int), .int .u8 ((a.edges[i].neg : Nat) : Int)], rowI eb6 ec6 54 4 (edsC (inT a b i j)), rowI pb1 pc1 3 1 (ints (pickI (stP a b) (s * b.states.toNat))), rowI (aD zS) (a.sets.length + b.sets.length) 22 1 (vals qs), oI zO 26 [(.int .i64 a.vars), .int .i64 ((a.states.toNat * b.states.toNat : Nat) : Int), (.slice pb1 ((pickI (stP a b) (s * b.states.toNat)).length) pc1), (.slice eb6 ((inT a b i j).length) ec6), (.slice (aD zS) (a.sets.length + b.sets.length) (a.sets.length + b.sets.length))], oI bx3 26 [(.int .i64 0), (.int .i64 0), nS, nS, nS], oI bx2 26 (buC b sb sc eb ec tb tc), oI bx1 26 (buC a sA sAc eA eAc tA tAc)] (itms 3 qs) rfl rfl)
    refine RO.fork [10] (by kernel_rfl) rfl ⟨⟨_, rfl, rfl, l_alloc inf54 rfl (fun z14 => ⟨by exact Sub.d (.d (.d (.d (.d (.d (.d (.k (.k .z)))))))), ?_⟩)⟩, trivial⟩
    refine RO.fork [12] (by kernel_rfl) rfl ⟨⟨_, rfl, rfl, l_sb (v := (.agg #[.int .i64 a.edges[i].fr, .int .i64 a.edges[i].to, .int .u8 ((a.edges[i].pos : Nat) : Int), .int .u8 ((a.edges[i].neg : Nat) : Int)])) (vs := [.int .i64 a.edges[i].fr, .int .i64 a.edges[i].to, .int .u8 ((a.edges[i].pos : Nat) : Int), .int .u8 ((a.edges[i].neg : Nat) : Int)]) 0 inf54 rfl rfl rfl rfl rfl rfl (by simp [putL]) ⟨by exact Sub.d (.d (.d (.d (.d (.d (.d (.k (.k .z)))))))), ?_⟩⟩, trivial⟩
    refine RO.fork [13] (by kernel_rfl) rfl ⟨⟨_, rfl, rfl, l_sb (v := (.agg #[.int .i64 b.edges[j].fr, .int .i64 b.edges[j].to, .int .u8 ((b.edges[j].pos : Nat) : Int), .int .u8 ((b.edges[j].neg : Nat) : Int)])) (vs := [.int .i64 b.edges[j].fr, .int .i64 b.edges[j].to, .int .u8 ((b.edges[j].pos : Nat) : Int), .int .u8 ((b.edges[j].neg : Nat) : Int)]) 1 inf54 rfl rfl rfl rfl rfl rfl (by simp [putL]) ⟨by exact Sub.d (.d (.d (.d (.d (.d (.d (.k (.k .z)))))))), ?_⟩⟩, trivial⟩
    exact RO.fin (by kernel_rfl) ⟨z14, z15, rfl, ⟨rfl, rfl, rfl, rfl, rfl, rfl, rfl, rfl, rfl, rfl, rfl, rfl, rfl, trivial⟩⟩ (by exact Sub.rf)
   rintro ρ O ⟨z14, z15, rfl, hH⟩
   obtain ⟨ρ0, rfl⟩ := hH.elim
   clear hH
   refine T.seq ?_
   have hae := hva.ed _ (List.getElem_mem hlt147)
   have hbe := hvb.ed _ (List.getElem_mem hlt154)
   have hap := hAB.pn _ (List.getElem_mem hlt147)
   have hbp := hB.pn _ (List.getElem_mem hlt154)
   obtain ⟨f1, hf1⟩ : ∃ n : Nat, a.edges[i].fr = (n : Int) := ⟨a.edges[i].fr.toNat, by omega⟩
   obtain ⟨t1, ht1⟩ : ∃ n : Nat, a.edges[i].to = (n : Int) := ⟨a.edges[i].to.toNat, by omega⟩
   have hm1 : f1 * b.states.toNat ≤ 4096 * 4096 := Nat.mul_le_mul (by omega) (by omega)
   have hm2 : t1 * b.states.toNat ≤ 4096 * 4096 := Nat.mul_le_mul (by omega) (by omega)
   have hm3 : a.edges[i].fr * ((b.states.toNat : Nat) : Int) = ((f1 * b.states.toNat : Nat) : Int) := by rw [hf1, Int.natCast_mul]
   have hm4 : a.edges[i].to * ((b.states.toNat : Nat) : Int) = ((t1 * b.states.toNat : Nat) : Int) := by rw [ht1, Int.natCast_mul]
   have hpo : a.edges[i].pos ||| b.edges[j].pos < 256 := Nat.or_lt_two_pow (n := 8) hap.1 hbp.1
   have hno9 : a.edges[i].neg ||| b.edges[j].neg < 256 := Nat.or_lt_two_pow (n := 8) hap.2 hbp.2
   refine T.rg (TO.q (q_fa Try.underlying54 rfl inf3 rfl rfl) (TO.q (q_lb 0 Try.underlying3 rfl rfl rfl rfl) (TO.q (q_fa Try.underlying26 rfl inf3 rfl rfl) (TO.q (QT.cast (q_lb 7 Try.underlying3 rfl rfl rfl rfl) (v' := .int .i64 ((b.states.toNat : Nat) : Int)) (by show Value.int _ _ = _; rw [Int.toNat_of_nonneg hb0])) (TO.q (q_mul64 rfl rfl (by omega)) (TO.q (q_fa Try.underlying54 rfl inf3 rfl rfl) (TO.q (q_lb 1 Try.underlying3 rfl rfl rfl rfl) (TO.q (q_add64 rfl rfl (by omega)) (TO.q (q_fa Try.underlying54 rfl inf3 rfl rfl) (TO.q (q_lb 0 Try.underlying3 rfl rfl rfl rfl) (TO.q (q_fa Try.underlying26 rfl inf3 rfl rfl) (TO.q (QT.cast (q_lb 7 Try.underlying3 rfl rfl rfl rfl) (v' := .int .i64 ((b.states.toNat : Nat) : Int)) (by show Value.int _ _ = _; rw [Int.toNat_of_nonneg hb0])) (TO.q (q_mul64 rfl rfl (by omega)) (TO.q (q_fa Try.underlying54 rfl inf3 rfl rfl) (TO.q (q_lb 1 Try.underlying3 rfl rfl rfl rfl) (TO.q (q_add64 rfl rfl (by omega)) (TO.q (q_fa Try.underlying54 rfl inf5 rfl rfl) (TO.q (q_lb 0 Try.underlying5 rfl rfl rfl rfl) (TO.q (q_fa Try.underlying54 rfl inf5 rfl rfl) (TO.q (q_lb 1 Try.underlying5 rfl rfl rfl rfl) (TO.q (q_or (a := a.edges[i].pos) (b := b.edges[j].pos) .u8 rfl rfl (by show _ < 256; omega) (by show _ < 256; omega)) (TO.q (q_fa Try.underlying54 rfl inf5 rfl rfl) (TO.q (q_lb 0 Try.underlying5 rfl rfl rfl rfl) (TO.q (q_fa Try.underlying54 rfl inf5 rfl rfl) (TO.q (q_lb 1 Try.underlying5 rfl rfl rfl rfl) (TO.q (q_or (a := a.edges[i].neg) (b := b.edges[j].neg) .u8 rfl rfl (by show _ < 256; omega) (by show _ < 256; omega)) (TO.q (q_build (cs := [.int .i64 ((a.edges[i].fr * ((b.states.toNat : Nat) : Int)) + b.edges[j].fr), .int .i64 ((a.edges[i].to * ((b.states.toNat : Nat) : Int)) + b.edges[j].to), .int .u8 ((a.edges[i].pos ||| b.edges[j].pos : Nat) : Int), .int .u8 ((a.edges[i].neg ||| b.edges[j].neg : Nat) : Int)]) plan54 inf54 (by kernel_rfl)) (TO.l rfl (l_alloc inf54 rfl (fun bx13 => ?_))))))))))))))))))))))))))))))
   refine TO.l rfl (l_sb (v := (.agg #[.int .i64 ((a.edges[i].fr * ((b.states.toNat : Nat) : Int)) + b.edges[j].fr), .int .i64 ((a.edges[i].to * ((b.states.toNat : Nat) : Int)) + b.edges[j].to), .int .u8 ((a.edges[i].pos ||| b.edges[j].pos : Nat) : Int), .int .u8 ((a.edges[i].neg ||| b.edges[j].neg : Nat) : Int)])) (vs := [.int .i64 ((a.edges[i].fr * ((b.states.toNat : Nat) : Int)) + b.edges[j].fr), .int .i64 ((a.edges[i].to * ((b.states.toNat : Nat) : Int)) + b.edges[j].to), .int .u8 ((a.edges[i].pos ||| b.edges[j].pos : Nat) : Int), .int .u8 ((a.edges[i].neg ||| b.edges[j].neg : Nat) : Int)]) 0 inf54 rfl rfl rfl rfl rfl rfl (by simp [putL]) ?_)
   refine TO.nil (T.seq (T.rg (TO.q (q_fa Try.underlying54 rfl inf5 rfl rfl) (TO.q (q_lb 0 Try.underlying5 rfl rfl rfl rfl) (TO.q (q_fa Try.underlying54 rfl inf5 rfl rfl) (TO.q (q_lb 0 Try.underlying5 rfl rfl rfl rfl) (TO.q (q_and (a := (a.edges[i].pos ||| b.edges[j].pos)) (b := (a.edges[i].neg ||| b.edges[j].neg)) .u8 rfl rfl (by show _ < 256; omega) (by show _ < 256; omega)) (TO.q (q_eql rfl rfl) (TO.nil (T.condP rfl (fun hc => ?_) (fun hc => ?_)))))))))))
   ·have hlt199 : (a.edges[i].pos ||| b.edges[j].pos) &&& (a.edges[i].neg ||| b.edges[j].neg) = 0 := by omega
    have hok := hlt199
    refine T.rg (TO.q (q_fa Try.underlying26 rfl inf23 rfl rfl) (TO.q (q_lb 6 Try.underlying23 rfl rfl rfl rfl) (TO.q (q_la 0 Try.underlying54 rfl inf54 rfl rfl rfl) (TO.l rfl (l_buildSlice (m := 1) (parts := [(0, _)]) (cs := [.int .i64 ((a.edges[i].fr * ((b.states.toNat : Nat) : Int)) + b.edges[j].fr), .int .i64 ((a.edges[i].to * ((b.states.toNat : Nat) : Int)) + b.edges[j].to), .int .u8 ((a.edges[i].pos ||| b.edges[j].pos : Nat) : Int), .int .u8 ((a.edges[i].neg ||| b.edges[j].neg : Nat) : Int)]) Try.underlying23 inf54 (by decide) (by kernel_rfl) rfl (fun bx14 => ?_))))))
    refine TO.l rfl (l_append 4 Try.underlying23 Try.underlying23 inf54 rfl rfl rfl rfl (by rw [eds_len]) (by decide) (Src.row (j := 0) rfl (by simp)) (by simp [oneB]) (by omega) (by decide) (by decide) (fun bx15 c16 => ?_))
    refine TO.q (q_fa Try.underlying26 rfl inf23 rfl rfl) (TO.l rfl (l_sb (v := (.slice bx15 (((inT a b i j).length) + 1) c16)) (vs := [(.slice bx15 (((inT a b i j).length) + 1) c16)]) 7 inf23 rfl rfl rfl rfl rfl rfl (by simp [putL]) ?_))
    refine TO.nil (T.rg (TO.qm rfl (TO.q (q_addN (a := j) (b := 1) rfl rfl (by omega)) (TO.qa rfl (TO.nil ?_)))))
    refine ⟨j + 1, by omega, ([rowI bx15 c16 54 4 ((edsC (inT a b i j)) ++ [.int .i64 ((a.edges[i].fr * ((b.states.toNat : Nat) : Int)) + b.edges[j].fr), .int .i64 ((a.edges[i].to * ((b.states.toNat : Nat) : Int)) + b.edges[j].to), .int .u8 ((a.edges[i].pos ||| b.edges[j].pos : Nat) : Int), .int .u8 ((a.edges[i].neg ||| b.edges[j].neg : Nat) : Int)]), rowI pb1 pc1 3 1 (ints (pickI (stP a b) (s * b.states.toNat))), rowI (aD zS) (a.sets.length + b.sets.length) 22 1 (vals qs), oI zO 26 [(.int .i64 a.vars), .int .i64 ((a.states.toNat * b.states.toNat : Nat) : Int), (.slice pb1 ((pickI (stP a b) (s * b.states.toNat)).length) pc1), (.slice bx15 (((inT a b i j).length) + 1) c16), (.slice (aD zS) (a.sets.length + b.sets.length) (a.sets.length + b.sets.length))], oI bx3 26 [(.int .i64 0), (.int .i64 0), nS, nS, nS], oI bx2 26 (buC b sb sc eb ec tb tc), oI bx1 26 (buC a sA sAc eA eAc tA tAc)] ++ (itms 3 qs)), (by exact Sub.d (.d (.d (.d (.k (.k (.k (.k (.k (.k (.k .rf))))))))))), bx15, c16, ?_, by omega, ⟨rfl, rfl, rfl, rfl, rfl, rfl, rfl, rfl, rfl, rfl, rfl, trivial⟩⟩
    rw [inT_yes hlt147 hlt154 (by unfold okE; exact decide_eq_true hok), eds_append, show ((inT a b i j) ++ [inE1 b.states.toNat a.edges[i] b.edges[j]]).length = (inT a b i j).length + 1 by simp] <;> rfl
   have hge199 : ¬ (a.edges[i].pos ||| b.edges[j].pos) &&& (a.edges[i].neg ||| b.edges[j].neg) = 0 := by omega
   have hno := hge199
   refine T.skip (T.rg (TO.qm rfl (TO.q (q_addN (a := j) (b := 1) rfl rfl (by omega)) (TO.qa rfl (TO.nil ?_)))))
   refine ⟨j + 1, by omega, ([rowI eb6 ec6 54 4 (edsC (inT a b i j)), rowI pb1 pc1 3 1 (ints (pickI (stP a b) (s * b.states.toNat))), rowI (aD zS) (a.sets.length + b.sets.length) 22 1 (vals qs), oI zO 26 [(.int .i64 a.vars), .int .i64 ((a.states.toNat * b.states.toNat : Nat) : Int), (.slice pb1 ((pickI (stP a b) (s * b.states.toNat)).length) pc1), (.slice eb6 ((inT a b i j).length) ec6), (.slice (aD zS) (a.sets.length + b.sets.length) (a.sets.length + b.sets.length))], oI bx3 26 [(.int .i64 0), (.int .i64 0), nS, nS, nS], oI bx2 26 (buC b sb sc eb ec tb tc), oI bx1 26 (buC a sA sAc eA eAc tA tAc)] ++ (itms 3 qs)), (by exact Sub.d (.d (.d (.k (.k (.k (.k (.k (.k (.k .rf)))))))))), eb6, ec6, ?_, by omega, ⟨rfl, rfl, rfl, rfl, rfl, rfl, rfl, rfl, rfl, rfl, rfl, trivial⟩⟩
   rw [inT_no hlt147 hlt154 (by unfold okE; rw [decide_eq_true_iff]; exact hno)]
  have hge154 : ¬ j < b.edges.length := by omega
  refine T.exit ?_
  refine T.rg (TO.qm rfl (TO.q (q_addN (a := i) (b := 1) rfl rfl (by omega)) (TO.qa rfl (TO.nil ?_))))
  have hje : j = b.edges.length := by omega
  refine ⟨i + 1, by omega, ([rowI eb6 ec6 54 4 (edsC (inT a b i j)), rowI pb1 pc1 3 1 (ints (pickI (stP a b) (s * b.states.toNat))), rowI (aD zS) (a.sets.length + b.sets.length) 22 1 (vals qs), oI zO 26 [(.int .i64 a.vars), .int .i64 ((a.states.toNat * b.states.toNat : Nat) : Int), (.slice pb1 ((pickI (stP a b) (s * b.states.toNat)).length) pc1), (.slice eb6 ((inT a b i j).length) ec6), (.slice (aD zS) (a.sets.length + b.sets.length) (a.sets.length + b.sets.length))], oI bx3 26 [(.int .i64 0), (.int .i64 0), nS, nS, nS], oI bx2 26 (buC b sb sc eb ec tb tc), oI bx1 26 (buC a sA sAc eA eAc tA tAc)] ++ (itms 3 qs)), (by exact Sub.rf), eb6, ec6, ?_, by omega, ⟨rfl, rfl, rfl, rfl, rfl, rfl, rfl, rfl, rfl, rfl, trivial⟩⟩
  rw [← inT_row hlt147, hje]
 have hge147 : ¬ i < a.edges.length := by omega
 refine T.exit ?_
 refine T.seq (T.rg (TO.q (q_la 3 Try.underlying26 rfl inf26 rfl rfl rfl) (TO.l rfl (l_sb (v := (.agg #[(.int .i64 a.vars), .int .i64 ((a.states.toNat * b.states.toNat : Nat) : Int), (.slice pb1 ((pickI (stP a b) (s * b.states.toNat)).length) pc1), (.slice eb6 ((inT a b i 0).length) ec6), (.slice (aD zS) (a.sets.length + b.sets.length) (a.sets.length + b.sets.length))])) (vs := [(.int .i64 a.vars), .int .i64 ((a.states.toNat * b.states.toNat : Nat) : Int), (.slice pb1 ((pickI (stP a b) (s * b.states.toNat)).length) pc1), (.slice eb6 ((inT a b i 0).length) ec6), (.slice (aD zS) (a.sets.length + b.sets.length) (a.sets.length + b.sets.length))]) 4 inf26 rfl rfl rfl rfl rfl rfl (by simp [putL]) ?_))))
 refine TO.qa rfl (TO.nil (T.ret (Res.drop ?_)))
 refine Res.cell1b (.int .i64 0) (i := 4) Try.results43 Try.underlying26 rfl inf26 rfl rfl rfl rfl ?_
 have hE0 : inE a b = 0 := by unfold inE; rw [if_neg (by omega), if_neg (by unfold inAll; omega), if_neg (by omega)]
 have hin : inrB a b = interB a b := by unfold inrB; rw [if_pos hE0]
 have hie9 : i = a.edges.length := by omega
 have hde : (interB a b).edges = inT a b i 0 := by rw [hie9]; exact (inT_all a b).symm
 have hset : nums qs = (interB a b).sets := by rw [hqs, ← hall]; rfl
 have hsl : (interB a b).sets.length = (a.sets.length + b.sets.length) := by show (inSets a b (inAll a b)).length = _; exact inSets_len _ _ _
 have hst9 : (interB a b).start = (pickI (stP a b) (s * b.states.toNat)) := by show pickI _ (inAll a b) = _; rw [hall]
 refine ⟨[rowI pb1 pc1 3 1 (ints (pickI (stP a b) (s * b.states.toNat))), rowI eb6 ec6 54 4 (edsC (inT a b i 0)), rowI (aD zS) (a.sets.length + b.sets.length) 22 1 (vals qs)] ++ itms 3 qs, Sub.ca [oI zO 26 [(.int .i64 a.vars), .int .i64 ((a.states.toNat * b.states.toNat : Nat) : Int), (.slice pb1 ((pickI (stP a b) (s * b.states.toNat)).length) pc1), (.slice eb6 ((inT a b i 0).length) ec6), (.slice (aD zS) (a.sets.length + b.sets.length) (a.sets.length + b.sets.length))], oI bx3 26 [(.int .i64 a.vars), .int .i64 ((a.states.toNat * b.states.toNat : Nat) : Int), (.slice pb1 ((pickI (stP a b) (s * b.states.toNat)).length) pc1), (.slice eb6 ((inT a b i 0).length) ec6), (.slice (aD zS) (a.sets.length + b.sets.length) (a.sets.length + b.sets.length))], oI bx2 26 (buC b sb sc eb ec tb tc), oI bx1 26 (buC a sA sAc eA eAc tA tAc)], pb1, eb6, (aD zS), pc1, ec6, (a.sets.length + b.sets.length), qs, ?_, ?_, ?_⟩
 ·rw [hin, hE0]; simp only [buC, hde, hsl, hst9]; rfl
 ·rw [hin, hde, hst9]
 ·rw [hin]; exact hset
end Go.Proofs.Ytnamoapbienooaa
