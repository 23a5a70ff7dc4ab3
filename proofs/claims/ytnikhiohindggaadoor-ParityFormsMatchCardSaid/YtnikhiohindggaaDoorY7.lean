/- Contracts of functions of the program (Y7): what each call answers and that it leaves memory as it was. Conditions: those each theorem names. -/
import Derived.Test.YtnikhiohindggaaDoorCoreL
import Derived.Test.YtnikhiohindggaaDoorY6
set_option linter.unusedSectionVars false
set_option linter.unusedSimpArgs false
set_option linter.unusedVariables false
set_option linter.unnecessarySimpa false
set_option maxHeartbeats 8000000
set_option maxRecDepth 20000
namespace Go.Proofs.YtnikhiohindggaaDoor
open Go.Lx Go.RowKit _root_.Go.Proofs.Tryd
theorem refParRd0 (w : World) [Tab Tryd.prog w] (p : Par) (k : DK) (h : AtP w p k) (hB : ParC p) (hS : ParS p) :
  PureT Tryd.prog 26 [pV p k] w fun v N => ∃ nb nc fb fc qs, v = .tuple #[.agg (parCells (rdV p) nb nc fb fc).toArray, vI (checkP p : Int)] ∧ N = [rowI nb nc 23 1 (vals qs), rowI fb fc 3 1 (ints (rdV p).prio)] ++ itms 3 qs ∧ nums qs = (rdV p).next := by
 refine CallT.enter func26 rfl ntmps26 rfl ?_
 have hBn := hB.n; have hBf := hB.f
 refine T.s (T.rg (TO.l rfl (l_box (v := (pV p k)) (cs := (pC p k)) rfl rfl (fun z1 => ?_))))
 refine TO.l rfl (l_alloc inf25 rfl (fun z2 => ?_))
 refine TO.qa rfl (TO.nl (T.s (T.s (T.rg (TO.q (q_la 1 uT25 rfl inf25 rfl rfl rfl) ?_)))))
 have hk9 := fun (w1 : World) (hI : Inv w [oI z2 25 [(vI 0), (vI 0), nS, nS], oI z1 25 (pC p k)] w1) => (haveI := tbz hI; refParCheck w1 p k (hI.atQ h) hB)
 refine TO.l rfl (l_call ent21 (CallT.op hk9) rfl ?_)
 clear hk9
 rintro vr O' ⟨N, rfl, rfl, rfl⟩
 refine TO.qa rfl (TO.nl (T.s (T.rg (TO.qm rfl (TO.q (q_neq rfl rfl) (TO.nl (T.condP rfl (fun hc => ?_) (fun hc => ?_))))))))
 ·have hlt11 : checkP p ≠ 0 := by omega
  refine T.s (T.nilRow 23 1 (T.nilRow 3 1 ?_))
  refine T.rg (TO.q (q_build plan25 inf25 rfl) (TO.qm rfl (TO.l rfl (l_sb (v := (.agg #[(vI 0), (vI 0), nS, nS])) (vs := [(vI 0), (vI 0), nS, nS]) 2 inf25 rfl rfl rfl rfl rfl rfl (by simp [putL]) ?_))))
  refine TO.qa rfl (TO.nl (T.ret (Res.drop ?_)))
  refine Res.cell1b (vI (checkP p : Int)) (i := 2) Tryd.results26 uT25 rfl inf25 rfl rfl rfl rfl ?_
  rw [rdV_no (by omega)]
  exact ⟨[rowI none 0 23 1 [], rowI none 0 3 1 []] ++ itms 3 [], (by exact Sub.k (.k .z)), none, 0, none, 0, [], rfl, rfl, rfl⟩
 have hge11 : ¬ checkP p ≠ 0 := by omega
 have he0 : checkP p = 0 := by omega
 have hv : ValidP p := checkP_zero.1 he0
 have hn4 := hv.n4
 refine T.skip (T.s (T.rg (TO.q (q_fa uT25 rfl inf22 rfl rfl) (TO.q (q_lb 1 uT22 rfl rfl rfl rfl) (TO.q (q_len uT22 rfl) (TO.l rfl (l_makeSlice (m := p.next.length) uT81 inf4 rfl rfl (by omega) (by omega) (fun z3 => ?_))))))))
 refine TO.qa rfl (TO.nl (T.s (T.s (T.rg (TO.qa rfl (TO.nl (T.block ?_)))))))
 have eA : bools (tabB p.next.length (fun v => decide (v < 0))) = List.replicate p.next.length (.bool false) := by rw [← bools_rep, tabB_rep]; rfl
 refine T.loop (fun (u : Nat) ρ O => O = [rowI (aD z3) p.next.length 4 1 (bools (tabB p.next.length (fun v => decide (v < u)))), oI z2 25 [(vI 0), (vI 0), nS, nS], oI z1 25 (pC p k)] ∧ u ≤ p.next.length ∧ Heads [(0, (pV p k)), (1, (.pointer (aD z1))), (2, (.pointer (aD z2))), (3, vI 0), (4, vI (checkP p : Int)), (5, (.slice (aD z3) p.next.length p.next.length)), (6, vI ((u : Nat) : Int))] ρ) (fun u => p.next.length - u) 0 ?_ ?_
 ·exact ⟨(by rw [eA]; first | done | rfl), Nat.zero_le _, (.of rfl)⟩
 rintro u ρ O ⟨rfl, hu, hH⟩
 obtain ⟨ρ0, rfl⟩ := hH.elim
 clear hH
 refine T.s (T.s (T.rg (TO.qm rfl (TO.qm rfl (TO.q (q_len uT81 rfl) (TO.q (q_lss rfl rfl) (TO.nl (T.condP rfl (fun hc => ?_) (fun hc => ?_)))))))))
 ·have hlt21 : u < p.next.length := by omega
  have hun : u < p.next.length := by omega
  have eS9 : (tabB p.next.length (fun v => decide (v < u))).set u true = tabB p.next.length (fun v => decide (v < (u + 1))) := by rw [tabB_set hun]; exact tabB_ext fun v _ => (lt_step v u).symm
  refine T.skip (T.s (T.block (T.rg (TO.qm rfl (TO.qm rfl (TO.q (q_ix (i := u) uT81 inf4 rfl rfl (rowO (mG 0 rfl)) hun (by rw [List.length_map, tabB_len]; exact hun)) (TO.l rfl (l_st (j := u) (v := .bool true) (vs := [(.bool true)]) (cs := bools (tabB p.next.length (fun v => decide (v < u)))) 0 inf4 rfl rfl rfl rfl rfl (by simp) rfl (by rw [List.length_map, tabB_len]; exact hun) ?_))))))))
  refine TO.sub (O' := [rowI (aD z3) p.next.length 4 1 (bools ((tabB p.next.length (fun v => decide (v < u))).set u true)), oI z2 25 [(vI 0), (vI 0), nS, nS], oI z1 25 (pC p k)]) (by rw [show putL (bools (tabB p.next.length (fun v => decide (v < u)))) u [(.bool true)] = bools ((tabB p.next.length (fun v => decide (v < u))).set u true) from (by simp [putL])]; exact Sub.of (List.Sublist.refl _)) ?_
  refine TO.nl (T.rg (TO.qm rfl (TO.q (q_addN (a := u) (b := 1) rfl rfl (by omega)) (TO.qa rfl (TO.nl ?_)))))
  exact ⟨u + 1, by omega, (by rw [← eS9]; first | done | rfl), by omega, (.of rfl)⟩
 have hge21 : ¬ u < p.next.length := by omega
 have hue : u = p.next.length := by omega
 refine T.exit ?_
 refine T.s ?_
 have eU : tabB p.next.length (fun v => decide (v < u)) = tabB p.next.length (fun v => decide (v < p.next.length)) := by rw [hue]
 refine T.sub (O' := [rowI (aD z3) p.next.length 4 1 (bools (tabB p.next.length (fun v => decide (v < p.next.length)))), oI z2 25 [(vI 0), (vI 0), nS, nS], oI z1 25 (pC p k)]) (by rw [← eU]; exact Sub.rf) ?_
 refine T.rg (TO.q (q_la 2 uT25 rfl inf25 rfl rfl rfl) ?_)
 have hk28 := fun (w1 : World) (hI : Inv w [rowI (aD z3) p.next.length 4 1 (bools (tabB p.next.length (fun v => decide (v < p.next.length)))), oI z2 25 [(vI 0), (vI 0), nS, nS], oI z1 25 (pC p k)] w1) => (haveI := tbz hI; copyPar0 w1 p k (hI.atQ h) hS)
 refine TO.l rfl (l_call ent13 (CallT.op hk28) rfl ?_)
 clear hk28
 rintro vr O' ⟨N, rfl, nb2, nc2, fb2, fc2, qs, rfl, rfl, hqs⟩
 refine TO.sub (O' := ([rowI nb2 nc2 23 1 (vals qs), rowI fb2 fc2 3 1 (ints p.prio), rowI (aD z3) p.next.length 4 1 (bools (tabB p.next.length (fun v => decide (v < p.next.length)))), oI z2 25 [(vI 0), (vI 0), nS, nS], oI z1 25 (pC p k)] ++ (itms 3 qs))) (by exact Sub.swap3 [rowI nb2 nc2 23 1 (vals qs), rowI fb2 fc2 3 1 (ints p.prio)] _ (itms 3 qs)) ?_
 refine TO.l rfl (l_alloc inf25 rfl (fun z4 => ?_))
 refine TO.l rfl (l_sb (v := (.agg #[(vI p.vars), (vI p.start), (.slice nb2 p.next.length nc2), (.slice fb2 p.prio.length fc2)])) (vs := [(vI p.vars), (vI p.start), (.slice nb2 p.next.length nc2), (.slice fb2 p.prio.length fc2)]) 0 inf25 rfl rfl rfl rfl rfl rfl (by simp [putL]) ?_)
 refine TO.nl (T.s ?_)
 refine T.sub (O' := [oI z4 25 [(vI p.vars), (vI p.start), (.slice nb2 p.next.length nc2), (.slice fb2 p.prio.length fc2)], rowI nb2 nc2 23 1 (vals qs), rowI fb2 fc2 3 1 (nats (p.prio.map Int.toNat)), rowI (aD z3) p.next.length 4 1 (bools (tabB p.next.length (fun v => decide (v < p.next.length)))), oI z2 25 [(vI 0), (vI 0), nS, nS], oI z1 25 (pC p k)] ++ ((itms 3 qs))) (by rw [prio_nats hv]; exact Sub.rf) ?_
 refine T.rg (TO.q (q_la 5 uT25 rfl inf25 rfl rfl rfl) (TO.qm rfl (TO.q (q_fa uT25 rfl inf23 rfl rfl) (TO.q (q_lb 0 uT23 rfl rfl rfl rfl) ?_))))
 have hk33 := CallT.under (A := [rowI (aD z3) p.next.length 4 1 (bools (tabB p.next.length (fun v => decide (v < p.next.length)))), rowI fb2 fc2 3 1 (nats (p.prio.map Int.toNat))]) (B := [oI z4 25 [(vI p.vars), (vI p.start), (.slice nb2 p.next.length nc2), (.slice fb2 p.prio.length fc2)], rowI nb2 nc2 23 1 (vals qs), oI z2 25 [(vI 0), (vI 0), nS, nS], oI z1 25 (pC p k)] ++ ((itms 3 qs))) (O := ([oI z4 25 [(vI p.vars), (vI p.start), (.slice nb2 p.next.length nc2), (.slice fb2 p.prio.length fc2)], rowI nb2 nc2 23 1 (vals qs), rowI fb2 fc2 3 1 (nats (p.prio.map Int.toNat)), rowI (aD z3) p.next.length 4 1 (bools (tabB p.next.length (fun v => decide (v < p.next.length)))), oI z2 25 [(vI 0), (vI 0), nS, nS], oI z1 25 (pC p k)] ++ (itms 3 qs))) (show CallT _ _ _ _ _ _ from by
   have h9 := reduceR w p k h hv _ (tabB p.next.length (fun v => decide (v < p.next.length))) (aD z3) (p.next.length) fb2 fc2 (p.prio.map Int.toNat) rfl (tabB_len _ _) (by rw [List.length_map]; exact hv.pl)
   rw [show Value.slice fb2 p.next.length fc2 = Value.slice fb2 p.prio.length fc2 by rw [hv.pl]] at h9
   exact h9) (by exact Sub.pull [oI z4 25 [(vI p.vars), (vI p.start), (.slice nb2 p.next.length nc2), (.slice fb2 p.prio.length fc2)], rowI nb2 nc2 23 1 (vals qs), rowI fb2 fc2 3 1 (nats (p.prio.map Int.toNat))] _ (.pull [oI z4 25 [(vI p.vars), (vI p.start), (.slice nb2 p.next.length nc2), (.slice fb2 p.prio.length fc2)], rowI nb2 nc2 23 1 (vals qs)] _ (.k (.k (.k (.k .rf))))))
 refine TO.l rfl (l_call ent56 hk33 rfl ?_)
 clear hk33
 rintro vr O' ⟨A1, rfl, o2, rfl, hol2, hred, hout⟩
 refine TO.nl (T.s (T.rg (TO.q (q_la 2 uT25 rfl inf25 rfl rfl rfl) (TO.l rfl (l_sb (v := (.agg #[(vI p.vars), (vI p.start), (.slice nb2 p.next.length nc2), (.slice fb2 p.prio.length fc2)])) (vs := [(vI p.vars), (vI p.start), (.slice nb2 p.next.length nc2), (.slice fb2 p.prio.length fc2)]) 4 inf25 rfl rfl rfl rfl rfl rfl (by simp [putL]) ?_)))))
 refine TO.qa rfl (TO.nl (T.ret (Res.drop ?_)))
 refine Res.cell1b (vI 0) (i := 4) Tryd.results26 uT25 rfl inf25 rfl rfl rfl rfl ?_
 have hS8 : sB (tabB p.next.length (fun v => decide (v < p.next.length))) = StS p := funext fun v => propext ⟨fun h9 => sB_lt (tabB_len _ _) h9, fun h9 => (tabB_at h9).trans (decide_eq_true h9)⟩
 rw [hS8] at hred
 rw [rdV_of he0 ⟨hred⟩, he0]
 have hOP : ints (rdP p (fn o2)).prio = nats o2 := by
  apply List.ext_getElem?
  intro i
  unfold rdP withP
  rw [List.getElem?_map, List.getElem?_map, List.getElem?_map]
  by_cases hi : i < p.next.length
  ·have hi2 : i < o2.length := by omega
   rw [List.getElem?_range hi, List.getElem?_eq_getElem hi2]
   show some (Value.int .i64 ((fn o2 i : Nat) : Int)) = some (Value.int .i64 ((o2[i] : Nat) : Int))
   rw [fn_get hi2]
  ·rw [List.getElem?_eq_none (by simp; omega), List.getElem?_eq_none (by omega)]; rfl
 exact ⟨[rowI nb2 nc2 23 1 (vals qs), rowI fb2 fc2 3 1 (nats o2)] ++ itms 3 qs, (by exact Sub.d (.pull [rowI fb2 fc2 3 1 (nats o2), oI z4 25 [(vI p.vars), (vI p.start), (.slice nb2 p.next.length nc2), (.slice fb2 p.prio.length fc2)]] _ (.k (.d (.d (.d .rf)))))), nb2, nc2, fb2, fc2, qs, (by
   show _ = Value.tuple #[Value.agg #[vI p.vars, vI p.start, .slice nb2 p.next.length nc2, .slice fb2 (rdP p (fn o2)).prio.length fc2], vI 0]
   rw [show (rdP p (fn o2)).prio.length = p.prio.length by simp [rdP, withP, hv.pl]]
   first | done | rfl), (by rw [hOP]; first | done | rfl), hqs⟩
theorem refParRd (w : World) [Tab Tryd.prog w] [Tab Tryd.prog w] (p : Par) (k : DK) (h : AtP w p k) (hB : ParC p) (hS : ParS p) :
  PureT Tryd.prog 26 [pV p k] w fun v N => ∃ k9 : DK, v = .tuple #[pV (rdV p) k9, vI (checkP p : Int)] ∧ N = [pI 23 3 (rdV p) k9] :=
 (refParRd0 w p k h hB hS).packR fun v O' hR => by
  obtain ⟨nb, nc, fb, fc, qs, rfl, rfl, hq9⟩ := hR
  exact ⟨nums qs = (rdV p).next, _, [], hq9, (List.append_nil _).symm, ⟨nb, nc, fb, fc, qs⟩, rfl, rfl⟩
end Go.Proofs.YtnikhiohindggaaDoor

