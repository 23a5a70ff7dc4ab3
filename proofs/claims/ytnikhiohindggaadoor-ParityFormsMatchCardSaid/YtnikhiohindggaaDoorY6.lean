/- Contracts of functions of the program (Y6): what each call answers and that it leaves memory as it was. Conditions: those each theorem names. -/
import Derived.Test.YtnikhiohindggaaDoorCoreL
import Derived.Test.YtnikhiohindggaaDoorY4
import Derived.Test.YtnikhiohindggaaDoorY5
set_option linter.unusedSectionVars false
set_option linter.unusedSimpArgs false
set_option linter.unusedVariables false
set_option linter.unnecessarySimpa false
set_option maxHeartbeats 8000000
set_option maxRecDepth 20000
namespace Go.Proofs.YtnikhiohindggaaDoor
open Go.Lx Go.RowKit _root_.Go.Proofs.Tryd
theorem reduceR (base : World) [Tab Tryd.prog base] (p : Par) (k : DK) (h : AtP base p k) (hv : ValidP p) :
  ∀ (N : Nat) (ss : List Bool) (sb : Option Addr) (sc : Nat) (ob : Option Addr) (oc : Nat) (o : List Nat) (hN : cardS p.next.length (sB ss) = N) (hsl : ss.length = p.next.length) (hol : o.length = p.next.length),
  CallT Tryd.prog base 56 [pV p k, .slice sb p.next.length sc, .slice ob p.next.length oc] [rowI sb sc 4 1 (bools ss), rowI ob oc 3 1 (nats o)] (fun _ O' => ∃ o2, O' = [rowI sb sc 4 1 (bools ss), rowI ob oc 3 1 (nats o2)] ∧ o2.length = p.next.length ∧ IsRed (DE p.d) (prN p) (fn o2) (sB ss) ∧ ∀ v, ¬ sB ss v → fn o2 v = fn o v) := by
 intro N
 induction N using Nat.strongRecOn with
 | _ N ih => ?_
 intro ss sb sc ob oc o hN hsl hol
 refine CallT.enter func56 rfl ntmps56 rfl ?_
 have hn4 := hv.n4
 have hSlt : ∀ v, sB ss v → v < p.next.length := fun v h9 => sB_lt hsl h9
 refine T.s (T.rg (TO.l rfl (l_box (v := (pV p k)) (cs := (pC p k)) rfl rfl (fun z1 => ?_))))
 refine TO.nl (T.s (T.rg (TO.q (q_fa uT25 rfl inf22 rfl rfl) (TO.q (q_lb 0 uT22 rfl rfl rfl rfl) (TO.q (q_len uT22 rfl) (TO.qa rfl (TO.nl (T.s (T.rg (TO.q (q_la 0 uT25 rfl inf25 rfl rfl rfl) (TO.qm rfl ?_)))))))))))
 have hk24 := fun (w1 : World) (hI : Inv base [oI z1 25 (pC p k), rowI sb sc 4 1 (bools ss), rowI ob oc 3 1 (nats o)] w1) => (haveI := tbz hI; reachC w1 p k (hI.atQ h) hv sb sc ss (hI.slOf (mG 1 rfl)) hsl)
 refine TO.l rfl (l_call ent71 (CallT.op hk24) rfl ?_)
 clear hk24
 rintro vr O' ⟨N, rfl, mb, mc, qs, rfl, rfl, hSq, hrc⟩
 refine TO.sub (O' := ([rowI mb mc 81 1 (bvals qs), oI z1 25 (pC p k), rowI sb sc 4 1 (bools ss), rowI ob oc 3 1 (nats o)] ++ (bitms 4 qs))) (by exact Sub.swap3 [rowI mb mc 81 1 (bvals qs)] _ (bitms 4 qs)) ?_
 refine TO.qa rfl (TO.nl (T.s (T.rg (TO.qm rfl (TO.l rfl (l_makeSlice (m := p.next.length) uT81 inf4 rfl rfl (by omega) (by omega) (fun z2 => ?_)))))))
 refine TO.qa rfl (TO.nl (T.s (T.rg (TO.qa rfl (TO.nl (T.block ?_))))))
 refine T.loop (fun (s : Nat) ρ O => ∃ (o2 : List Nat) (ds : List Bool), O = ([rowI (aD z2) p.next.length 4 1 (bools ds), rowI mb mc 81 1 (bvals qs), oI z1 25 (pC p k), rowI sb sc 4 1 (bools ss), rowI ob oc 3 1 (nats o2)] ++ (bitms 4 qs)) ∧ s ≤ p.next.length ∧ o2.length = p.next.length ∧ ds.length = p.next.length ∧ RefI (DE p.d) (prN p) (sB ss) (fn o) (fn o2) (sB ds) ∧ (∀ v, v < s → sB ss v → sB ds v) ∧ Heads [(0, (pV p k)), (1, (.slice sb p.next.length sc)), (2, (.slice ob p.next.length oc)), (3, (.pointer (aD z1))), (6, vI (p.next.length : Int)), (7, (.slice mb p.next.length mc)), (8, (.slice (aD z2) p.next.length p.next.length)), (9, vI ((s : Nat) : Int))] ρ) (fun s => p.next.length - s) 0 ?_ ?_
 ·exact ⟨o, List.replicate p.next.length false, (by rw [bools_rep]; first | done | rfl), Nat.zero_le _, hol, by simp, (by rw [sB_none]; exact RefI.start _ _ _ _), (fun v h9 => absurd h9 (Nat.not_lt_zero v)), (.of rfl)⟩
 rintro s ρ O ⟨o2, ds, rfl, hs9, hol2, hdl, hRI, hdn, hH⟩
 obtain ⟨ρ0, rfl⟩ := hH.elim
 clear hH
 refine T.s (T.s (T.rg (TO.qm rfl (TO.qm rfl (TO.q (q_lss rfl rfl) (TO.nl (T.condP rfl (fun hc => ?_) (fun hc => ?_))))))))
 ·have hlt29 : s < p.next.length := by omega
  have hsn : s < p.next.length := by omega
  have hss : s < ss.length := by omega
  have hdd : s < ds.length := by omega
  have hsq : s < qs.length := by rw [hSq.len]; exact hsn
  have hsx : s < qs[s].xs.length := by rw [hSq.row _ (List.getElem_mem hsq)]; exact hsn
  have hso : s < o2.length := by omega
  refine T.skip (T.s (T.block (T.s (T.s (T.rg (TO.qm rfl (TO.qm rfl (TO.q (q_ix (i := s) uT81 inf4 rfl rfl (rowO (mG 3 rfl)) hsn (by rw [List.length_map]; exact hss)) ?_))))))))
  by_cases h35 : ss.getD s false = true
  ·refine TO.q (QT.toB (q_ld uT4 rfl rfl (rowO (mG 3 rfl)) (bools_atD hss)) (h35)) ?_
   refine TO.q (q_not rfl) (TO.qm rfl (TO.gq rfl rfl (q_move rfl) (TO.gq rfl rfl (q_move rfl) (TO.gq rfl rfl (q_ix (i := s) uT81 inf4 rfl rfl (rowO (mG 0 rfl)) hsn (by rw [List.length_map]; exact hdd)) (TO.gq rfl rfl (q_ld uT4 rfl rfl (rowO (mG 0 rfl)) (bools_atD hdd)) (TO.q (q_pick0 rfl rfl) (TO.nl (T.condP (p := ds.getD s false = true) (congrArg Value.bool Bool.decide_eq_true.symm) (fun hc => ?_) (fun hc => ?_)))))))))
   ·have hskip : sB ss s → sB ds s := fun _ => hc
    refine T.exit ?_
    
    refine T.rg (TO.qm rfl (TO.q (q_addN (a := s) (b := 1) rfl rfl (by omega)) (TO.qa rfl (TO.nl ?_))))
    exact ⟨s + 1, by omega, o2, ds, rfl, by omega, hol2, hdl, hRI, (fun v h8 h9 => by
      by_cases e : v = s
      ·rw [e] at h9 ⊢; first | exact hskip h9 | exact absurd h9 h35
      ·exact hdn v (by omega) h9), (.of rfl)⟩
   have hnd : ¬ sB ds s := hc
   have hS9 : sB ss s := h35
   refine T.skip (T.s (T.s (T.rg (TO.qm rfl (TO.qm rfl (TO.q (q_ix (i := s) uT87 inf81 rfl rfl (rowO (mG 1 rfl)) hsn (by rw [List.length_map]; exact hsq)) (TO.q (q_ld uT81 rfl rfl (rowO (mG 1 rfl)) (bvalsK_at hsq)) (TO.qm rfl (TO.q (q_ix (i := s) uT81 inf4 rfl rfl (fun w9 hI9 => hI9.slOf (brow_at (E := 4) hsq)) hsx (by rw [List.length_map]; exact hsx)) (TO.q (q_ld uT4 rfl rfl (fun w9 hI9 => hI9.slOf (brow_at (E := 4) hsq)) (bools_gB hsq hsx)) (TO.q (q_not rfl) (TO.nl (T.condP (p := ¬ gB qs s s = true) (congrArg Value.bool (by cases gB qs s s <;> rfl)) (fun hc => ?_) (fun hc => ?_))))))))))))))
   ·have hncy : ¬ Cyc (DE p.d) (sB ss) s := fun g => hc ((cyc_gB hrc hsn).2 g)
    refine T.s (T.rg (TO.qm rfl (TO.qm rfl (TO.q (q_ix (i := s) uT81 inf4 rfl rfl (rowO (mG 0 rfl)) hsn (by rw [List.length_map]; exact hdd)) (TO.l rfl (l_st (j := s) (v := .bool true) (vs := [(.bool true)]) (cs := bools ds) 0 inf4 rfl rfl rfl rfl rfl (by simp) rfl (by rw [List.length_map]; exact hdd) ?_))))))
    refine TO.sub (O' := ([rowI (aD z2) p.next.length 4 1 (bools (ds.set s true)), rowI mb mc 81 1 (bvals qs), oI z1 25 (pC p k), rowI sb sc 4 1 (bools ss), rowI ob oc 3 1 (nats o2)] ++ (bitms 4 qs))) (by rw [show putL (bools ds) s [(.bool true)] = bools (ds.set s true) from (by simp [putL])]; exact Sub.of (List.Sublist.refl _)) ?_
    refine TO.nl (T.s (T.rg (TO.qm rfl (TO.qm rfl (TO.q (q_ix (i := s) uT23 inf3 rfl rfl (rowO (mG 4 rfl)) hsn (by rw [List.length_map]; exact hso)) (TO.l rfl (l_st (j := s) (v := vI 0) (vs := [(vI 0)]) (cs := nats o2) 4 inf3 rfl rfl rfl rfl rfl (by simp) rfl (by rw [List.length_map]; exact hso) ?_)))))))
    refine TO.sub (O' := ([rowI (aD z2) p.next.length 4 1 (bools (ds.set s true)), rowI mb mc 81 1 (bvals qs), oI z1 25 (pC p k), rowI sb sc 4 1 (bools ss), rowI ob oc 3 1 (nats (o2.set s 0))] ++ (bitms 4 qs))) (by rw [show putL (nats o2) s [(vI 0)] = nats (o2.set s 0) from (by simp [putL])]; exact Sub.of (List.Sublist.refl _)) ?_
    refine TO.nl ?_
    refine T.exit ?_
    
    refine T.rg (TO.qm rfl (TO.q (q_addN (a := s) (b := 1) rfl rfl (by omega)) (TO.qa rfl (TO.nl ?_))))
    exact ⟨s + 1, by omega, o2.set s 0, ds.set s true, rfl, by omega, by rw [List.length_set]; exact hol2, by rw [List.length_set]; exact hdl, hRI.lone hdl hol2 hsn hS9 hnd hncy, (fun v h8 h9 => by
       by_cases e : v = s
       ·rw [e]; exact (sB_set hdd s).2 (.inl rfl)
       ·exact (sB_set hdd v).2 <| .inr <| (hdn v (by omega) h9)), (.of rfl)⟩
   have hcy : Cyc (DE p.d) (sB ss) s := (cyc_gB hrc hsn).1 (Classical.not_not.1 hc)
   refine T.skip (T.s (T.rg (TO.qa rfl (TO.nl (T.s (T.rg (TO.qm rfl (TO.l rfl (l_makeSlice (m := p.next.length) uT81 inf4 rfl rfl (by omega) (by omega) (fun z3 => ?_))))))))))
   refine TO.qa rfl (TO.nl (T.s (T.s (T.rg (TO.qa rfl (TO.nl (T.block ?_)))))))
   have eA : bools (paF p.next.length qs s 0) = List.replicate p.next.length (.bool false) := by rw [paF_zero, bools_rep]
   have eB : dnF p.next.length ds qs s 0 = ds := dnF_zero hdl
   refine T.loop (fun (u2 : Nat) ρ O => O = ([rowI (aD z3) p.next.length 4 1 (bools (paF p.next.length qs s u2)), rowI (aD z2) p.next.length 4 1 (bools (dnF p.next.length ds qs s u2)), rowI mb mc 81 1 (bvals qs), oI z1 25 (pC p k), rowI sb sc 4 1 (bools ss), rowI ob oc 3 1 (nats o2)] ++ (bitms 4 qs)) ∧ u2 ≤ p.next.length ∧ Heads [(0, (pV p k)), (1, (.slice sb p.next.length sc)), (2, (.slice ob p.next.length oc)), (3, (.pointer (aD z1))), (6, vI (p.next.length : Int)), (7, (.slice mb p.next.length mc)), (8, (.slice (aD z2) p.next.length p.next.length)), (9, vI ((s : Nat) : Int)), (10, vI ((mxN (prN p) (cmS qs s) u2 : Nat) : Int)), (11, (.slice (aD z3) p.next.length p.next.length)), (12, vI ((u2 : Nat) : Int))] ρ) (fun u2 => p.next.length - u2) 0 ?_ ?_
   ·exact ⟨(by rw [eA, eB]; first | done | rfl), Nat.zero_le _, (.of rfl)⟩
   rintro u2 ρ O ⟨rfl, hu2, hH⟩
   obtain ⟨ρ0, rfl⟩ := hH.elim
   clear hH
   refine T.s (T.s (T.rg (TO.qm rfl (TO.qm rfl (TO.q (q_lss rfl rfl) (TO.nl (T.condP rfl (fun hc => ?_) (fun hc => ?_))))))))
   ·have hlt61 : u2 < p.next.length := by omega
    have hun : u2 < p.next.length := by omega
    have huq : u2 < qs.length := by rw [hSq.len]; exact hun
    have hux : s < qs[u2].xs.length := by rw [hSq.row _ (List.getElem_mem huq)]; exact hsn
    have hsu : u2 < qs[s].xs.length := by rw [hSq.row _ (List.getElem_mem hsq)]; exact hun
    have hup : u2 < p.prio.length := by rw [hv.pl]; exact hun
    refine T.skip (T.s (T.block (T.s (T.rg (TO.qm rfl (TO.qm rfl (TO.q (q_ix (i := s) uT87 inf81 rfl rfl (rowO (mG 2 rfl)) hsn (by rw [List.length_map]; exact hsq)) (TO.q (q_ld uT81 rfl rfl (rowO (mG 2 rfl)) (bvalsK_at hsq)) (TO.qm rfl (TO.q (q_ix (i := u2) uT81 inf4 rfl rfl (fun w9 hI9 => hI9.slOf (brow_at (E := 4) hsq)) hsu (by rw [List.length_map]; exact hsu)) ?_))))))))))
    by_cases h70 : gB qs s u2 = true
    ·refine TO.q (QT.toB (q_ld uT4 rfl rfl (fun w9 hI9 => hI9.slOf (brow_at (E := 4) hsq)) (bools_gB hsq hsu)) (h70)) ?_
     refine TO.qm rfl (TO.gq rfl rfl (q_move rfl) (TO.gq rfl rfl (q_move rfl) (TO.gq rfl rfl (q_ix (i := u2) uT87 inf81 rfl rfl (rowO (mG 2 rfl)) hun (by rw [List.length_map]; exact huq)) (TO.gq rfl rfl (q_ld uT81 rfl rfl (rowO (mG 2 rfl)) (bvalsK_at huq)) (TO.gq rfl rfl (q_move rfl) (TO.gq rfl rfl (q_ix (i := s) uT81 inf4 rfl rfl (fun w9 hI9 => hI9.slOf (brow_at (E := 4) huq)) hux (by rw [List.length_map]; exact hux)) (TO.gq rfl rfl (q_ld uT4 rfl rfl (fun w9 hI9 => hI9.slOf (brow_at (E := 4) huq)) (bools_gB huq hux)) ?_)))))))
     refine TO.q (q_pick1 rfl rfl) (TO.nl (T.condP (p := gB qs u2 s = true) (congrArg Value.bool Bool.decide_eq_true.symm) (fun hc => ?_) (fun hc => ?_)))
     ·have hcu : cmS qs s u2 = true := by unfold cmS; rw [h70, hc]; rfl
      refine T.s (T.rg (TO.qm rfl (TO.qm rfl (TO.qm rfl (TO.qm rfl (TO.q (q_ix (i := u2) uT81 inf4 rfl rfl (rowO (mG 0 rfl)) hun (by rw [List.length_map, paF_len]; exact hun)) (TO.l rfl (l_st (j := u2) (v := .bool true) (vs := [(.bool true)]) (cs := bools (paF p.next.length qs s u2)) 0 inf4 rfl rfl rfl rfl rfl (by simp) rfl (by rw [List.length_map, paF_len]; exact hun) ?_))))))))
      refine TO.sub (O' := ([rowI (aD z3) p.next.length 4 1 (bools ((paF p.next.length qs s u2).set u2 true)), rowI (aD z2) p.next.length 4 1 (bools (dnF p.next.length ds qs s u2)), rowI mb mc 81 1 (bvals qs), oI z1 25 (pC p k), rowI sb sc 4 1 (bools ss), rowI ob oc 3 1 (nats o2)] ++ (bitms 4 qs))) (by rw [show putL (bools (paF p.next.length qs s u2)) u2 [(.bool true)] = bools ((paF p.next.length qs s u2).set u2 true) from (by simp [putL])]; exact Sub.of (List.Sublist.refl _)) ?_
      refine TO.q (q_ix (i := u2) uT81 inf4 rfl rfl (rowO (mG 1 rfl)) hun (by rw [List.length_map, dnF_len]; exact hun)) (TO.l rfl (l_st (j := u2) (v := .bool true) (vs := [(.bool true)]) (cs := bools (dnF p.next.length ds qs s u2)) 1 inf4 rfl rfl rfl rfl rfl (by simp) rfl (by rw [List.length_map, dnF_len]; exact hun) ?_))
      refine TO.sub (O' := ([rowI (aD z3) p.next.length 4 1 (bools ((paF p.next.length qs s u2).set u2 true)), rowI (aD z2) p.next.length 4 1 (bools ((dnF p.next.length ds qs s u2).set u2 true)), rowI mb mc 81 1 (bvals qs), oI z1 25 (pC p k), rowI sb sc 4 1 (bools ss), rowI ob oc 3 1 (nats o2)] ++ (bitms 4 qs))) (by rw [show putL (bools (dnF p.next.length ds qs s u2)) u2 [(.bool true)] = bools ((dnF p.next.length ds qs s u2).set u2 true) from (by simp [putL])]; exact Sub.of (List.Sublist.refl _)) ?_
      refine TO.nl (T.rg (TO.qm rfl (TO.q (q_fa uT25 rfl inf23 rfl rfl) (TO.q (q_lb 3 uT23 rfl rfl rfl rfl) (TO.qm rfl ?_)))))
      refine TO.q (q_ix (i := u2) uT23 inf3 rfl rfl (Sl.o h.prio) hup (by rw [List.length_map]; exact hup)) (TO.q (q_ld uT3 rfl rfl (Sl.o h.prio) (by rw [ints, List.getElem?_map, hv.prAt hun]; rfl)) (TO.q (q_maxN (a := (mxN (prN p) (cmS qs s) u2)) (b := (prN p u2)) rfl rfl) (TO.qa rfl ?_)))
      refine TO.nl (T.rg (TO.qm rfl (TO.q (q_addN (a := u2) (b := 1) rfl rfl (by omega)) (TO.qa rfl (TO.nl ?_)))))
      exact ⟨u2 + 1, by omega, (by rw [← paF_yes hun hcu, ← dnF_yes hun hcu]; first | done | rfl), by omega, ⟨rfl, rfl, rfl, rfl, rfl, rfl, rfl, rfl, (congrArg (fun n9 : Nat => Value.int .i64 ((n9 : Nat) : Int)) (mxN_yes hcu).symm), rfl, rfl, trivial⟩⟩
     have hcu : ¬ cmS qs s u2 = true := fun g => by
      unfold cmS at g; rw [Bool.and_eq_true] at g; exact hc g.2
     refine T.skip (T.rg (TO.qm rfl (TO.q (q_addN (a := u2) (b := 1) rfl rfl (by omega)) (TO.qa rfl (TO.nl ?_)))))
     have hnc2 : ¬ cmS qs s u2 = true := by first | exact hcu | exact fun g => h70 (by unfold cmS at g; rw [Bool.and_eq_true] at g; exact g.1)
     exact ⟨u2 + 1, by omega, (by rw [paF_no hnc2, dnF_no hnc2]; first | done | rfl), by omega, ⟨rfl, rfl, rfl, rfl, rfl, rfl, rfl, rfl, (congrArg (fun n9 : Nat => Value.int .i64 ((n9 : Nat) : Int)) (mxN_no hnc2).symm), rfl, rfl, trivial⟩⟩
    refine TO.q (QT.toB (q_ld uT4 rfl rfl (fun w9 hI9 => hI9.slOf (brow_at (E := 4) hsq)) (bools_gB hsq hsu)) (Bool.eq_false_iff.2 h70)) (TO.qm rfl (TO.pd rfl rfl (TO.pd rfl rfl (TO.pd rfl rfl (TO.pd rfl rfl (TO.pd rfl rfl (TO.pd rfl rfl (TO.pd rfl rfl ?_))))))))
    refine TO.q (q_pick0 rfl rfl) (TO.nl (T.cond0 rfl (T.skip (T.rg (TO.qm rfl (TO.q (q_addN (a := u2) (b := 1) rfl rfl (by omega)) (TO.qa rfl (TO.nl ?_))))))))
    have hnc2 : ¬ cmS qs s u2 = true := by first | exact hcu | exact fun g => h70 (by unfold cmS at g; rw [Bool.and_eq_true] at g; exact g.1)
    exact ⟨u2 + 1, by omega, (by rw [paF_no hnc2, dnF_no hnc2]; first | done | rfl), by omega, ⟨rfl, rfl, rfl, rfl, rfl, rfl, rfl, rfl, (congrArg (fun n9 : Nat => Value.int .i64 ((n9 : Nat) : Int)) (mxN_no hnc2).symm), rfl, rfl, trivial⟩⟩
   have hge61 : ¬ u2 < p.next.length := by omega
   refine T.exit ?_
   refine T.s (T.rg (TO.qm rfl (TO.l rfl (l_makeSlice (m := p.next.length) uT81 inf4 rfl rfl (by omega) (by omega) (fun z4 => ?_)))))
   refine TO.qa rfl (TO.nl (T.s (T.rg (TO.qa rfl (TO.nl (T.s (T.s (T.rg (TO.qa rfl (TO.nl (T.block ?_)))))))))))
   have hu2e : u2 = p.next.length := by omega
   obtain ⟨M, eM⟩ : ∃ z, mxN (prN p) (cmS qs s) p.next.length = z := ⟨_, rfl⟩
   have eM2 : mxN (prN p) (cmS qs s) u2 = M := by rw [hu2e]; exact eM
   have eP : paF p.next.length qs s u2 = reF p.next.length (prN p) M qs s 0 := by rw [reF_zero, hu2e]
   have eD : dnF p.next.length ds qs s u2 = dnF p.next.length ds qs s p.next.length := by rw [hu2e]
   have eT : (List.replicate p.next.length (Value.bool false)) = bools (toF p.next.length (prN p) M qs s 0) := by rw [toF_zero, bools_rep]
   refine T.loop (fun (u3 : Nat) ρ O => O = ([rowI (aD z4) p.next.length 4 1 (bools (toF p.next.length (prN p) M qs s u3)), rowI (aD z3) p.next.length 4 1 (bools (reF p.next.length (prN p) M qs s u3)), rowI (aD z2) p.next.length 4 1 (bools (dnF p.next.length ds qs s p.next.length)), rowI mb mc 81 1 (bvals qs), oI z1 25 (pC p k), rowI sb sc 4 1 (bools ss), rowI ob oc 3 1 (nats o2)] ++ (bitms 4 qs)) ∧ u3 ≤ p.next.length ∧ Heads [(0, (pV p k)), (1, (.slice sb p.next.length sc)), (2, (.slice ob p.next.length oc)), (3, (.pointer (aD z1))), (6, vI (p.next.length : Int)), (7, (.slice mb p.next.length mc)), (8, (.slice (aD z2) p.next.length p.next.length)), (9, vI ((s : Nat) : Int)), (10, vI ((M : Nat) : Int)), (11, (.slice (aD z3) p.next.length p.next.length)), (13, (.slice (aD z4) p.next.length p.next.length)), (14, .bool (anF (prN p) M qs s u3)), (15, vI ((u3 : Nat) : Int))] ρ) (fun u3 => p.next.length - u3) 0 ?_ ?_
   ·exact ⟨(by rw [eP, eD, eT]; first | done | rfl), Nat.zero_le _, ⟨rfl, rfl, rfl, rfl, rfl, rfl, rfl, rfl, (congrArg (fun n9 : Nat => Value.int .i64 ((n9 : Nat) : Int)) eM2), rfl, rfl, rfl, rfl, trivial⟩⟩
   rintro u3 ρ O ⟨rfl, hu3, hH⟩
   obtain ⟨ρ0, rfl⟩ := hH.elim
   clear hH
   refine T.s (T.s (T.rg (TO.qm rfl (TO.qm rfl (TO.q (q_lss rfl rfl) (TO.nl (T.condP rfl (fun hc => ?_) (fun hc => ?_))))))))
   ·have hlt97 : u3 < p.next.length := by omega
    have hun3 : u3 < p.next.length := by omega
    have hup3 : u3 < p.prio.length := by rw [hv.pl]; exact hun3
    refine T.skip (T.s (T.block (T.s (T.s (T.rg (TO.qm rfl (TO.qm rfl (TO.q (q_ix (i := u3) uT81 inf4 rfl rfl (rowO (mG 1 rfl)) hun3 (by rw [List.length_map, reF_len]; exact hun3)) ?_))))))))
    by_cases h103 : cmS qs s u3 = true
    ·refine TO.q (QT.toB (q_ld uT4 rfl rfl (rowO (mG 1 rfl)) (reF_get hun3)) (h103)) ?_
     refine TO.qm rfl (TO.gq rfl rfl (q_fa uT25 rfl inf23 rfl rfl) (TO.gq rfl rfl (q_lb 4 uT23 rfl rfl rfl rfl) (TO.gq rfl rfl (q_move rfl) (TO.gq rfl rfl (q_ix (i := u3) uT23 inf3 rfl rfl (Sl.o h.prio) hup3 (by rw [List.length_map]; exact hup3)) ?_))))
     refine TO.gq rfl rfl (q_ld uT3 rfl rfl (Sl.o h.prio) (by rw [ints, List.getElem?_map, hv.prAt hun3]; rfl)) ?_
     refine TO.gq rfl rfl (q_move rfl) (TO.gq rfl rfl (q_eql rfl rfl) (TO.q (q_pick1 rfl rfl) (TO.nl (T.condP rfl (fun hc => ?_) (fun hc => ?_)))))
     ·have hlt112 : prN p u3 = M := by omega
      have hpm : prN p u3 = M := by omega
      refine T.rg (TO.qm rfl (TO.qm rfl (TO.qm rfl (TO.qm rfl (TO.q (q_ix (i := u3) uT81 inf4 rfl rfl (rowO (mG 0 rfl)) hun3 (by rw [List.length_map, toF_len]; exact hun3)) (TO.l rfl (l_st (j := u3) (v := .bool true) (vs := [(.bool true)]) (cs := bools (toF p.next.length (prN p) M qs s u3)) 0 inf4 rfl rfl rfl rfl rfl (by simp) rfl (by rw [List.length_map, toF_len]; exact hun3) ?_)))))))
      refine TO.sub (O' := ([rowI (aD z4) p.next.length 4 1 (bools ((toF p.next.length (prN p) M qs s u3).set u3 true)), rowI (aD z3) p.next.length 4 1 (bools (reF p.next.length (prN p) M qs s u3)), rowI (aD z2) p.next.length 4 1 (bools (dnF p.next.length ds qs s p.next.length)), rowI mb mc 81 1 (bvals qs), oI z1 25 (pC p k), rowI sb sc 4 1 (bools ss), rowI ob oc 3 1 (nats o2)] ++ (bitms 4 qs))) (by rw [show putL (bools (toF p.next.length (prN p) M qs s u3)) u3 [(.bool true)] = bools ((toF p.next.length (prN p) M qs s u3).set u3 true) from (by simp [putL])]; exact Sub.of (List.Sublist.refl _)) ?_
      refine TO.q (q_ix (i := u3) uT81 inf4 rfl rfl (rowO (mG 1 rfl)) hun3 (by rw [List.length_map, reF_len]; exact hun3)) (TO.l rfl (l_st (j := u3) (v := .bool false) (vs := [(.bool false)]) (cs := bools (reF p.next.length (prN p) M qs s u3)) 1 inf4 rfl rfl rfl rfl rfl (by simp) rfl (by rw [List.length_map, reF_len]; exact hun3) ?_))
      refine TO.sub (O' := ([rowI (aD z4) p.next.length 4 1 (bools ((toF p.next.length (prN p) M qs s u3).set u3 true)), rowI (aD z3) p.next.length 4 1 (bools ((reF p.next.length (prN p) M qs s u3).set u3 false)), rowI (aD z2) p.next.length 4 1 (bools (dnF p.next.length ds qs s p.next.length)), rowI mb mc 81 1 (bvals qs), oI z1 25 (pC p k), rowI sb sc 4 1 (bools ss), rowI ob oc 3 1 (nats o2)] ++ (bitms 4 qs))) (by rw [show putL (bools (reF p.next.length (prN p) M qs s u3)) u3 [(.bool false)] = bools ((reF p.next.length (prN p) M qs s u3).set u3 false) from (by simp [putL])]; exact Sub.of (List.Sublist.refl _)) ?_
      refine TO.nl ?_
      refine T.sub (O' := [rowI (aD z4) p.next.length 4 1 (bools (toF p.next.length (prN p) M qs s (u3 + 1))), rowI (aD z3) p.next.length 4 1 (bools (reF p.next.length (prN p) M qs s (u3 + 1))), rowI (aD z2) p.next.length 4 1 (bools (dnF p.next.length ds qs s p.next.length)), rowI mb mc 81 1 (bvals qs), oI z1 25 (pC p k), rowI sb sc 4 1 (bools ss), rowI ob oc 3 1 (nats o2)] ++ ((bitms 4 qs))) (by rw [← toF_yes hun3 h103 hpm, ← reF_yes hun3 h103 hpm]; exact Sub.rf) ?_
      refine T.rg (TO.qm rfl ?_)
      by_cases h120 : anF (prN p) M qs s u3 = true
      ·refine TO.q (QT.toB (q_move rfl) (h120)) ?_
       refine TO.pd rfl rfl (TO.pd rfl rfl (TO.pd rfl rfl (TO.pd rfl rfl (TO.q (q_pick1 rfl rfl) (TO.qa rfl (TO.nl (T.rg (TO.qm rfl (TO.q (q_addN (a := u3) (b := 1) rfl rfl (by omega)) (TO.qa rfl (TO.nl ?_)))))))))))
       exact ⟨u3 + 1, by omega, rfl, by omega, ⟨rfl, rfl, rfl, rfl, rfl, rfl, rfl, rfl, rfl, rfl, rfl, (congrArg Value.bool (by rw [anF_step, h120]; rfl)), rfl, trivial⟩⟩
      refine TO.q (QT.toB (q_move rfl) (Bool.eq_false_iff.2 h120)) (TO.gq rfl rfl (q_move rfl) (TO.gq rfl rfl (q_move rfl) (TO.gq rfl rfl (q_ix (i := u3) uT81 inf4 rfl rfl (rowO (mG 1 rfl)) hun3 (by rw [List.length_map, reF_len]; exact hun3)) (TO.gq rfl rfl (q_ld uT4 rfl rfl (rowO (mG 1 rfl)) (reF_get2 hun3)) (TO.q (q_pick0 rfl rfl) (TO.qa rfl (TO.nl (T.rg (TO.qm rfl (TO.q (q_addN (a := u3) (b := 1) rfl rfl (by omega)) (TO.qa rfl ?_)))))))))))
      refine TO.nl ?_
      exact ⟨u3 + 1, by omega, rfl, by omega, ⟨rfl, rfl, rfl, rfl, rfl, rfl, rfl, rfl, rfl, rfl, rfl, (congrArg Value.bool (by rw [anF_step, Bool.eq_false_iff.2 h120]; rfl)), rfl, trivial⟩⟩
     have hge112 : ¬ prN p u3 = M := by omega
     have hpm : ¬ prN p u3 = M := by omega
     refine T.skip ?_
     have hnc3 : ¬ (cmS qs s u3 = true ∧ prN p u3 = M) := by first | exact fun g => hpm g.2 | exact fun g => h103 g.1
     refine T.sub (O' := [rowI (aD z4) p.next.length 4 1 (bools (toF p.next.length (prN p) M qs s (u3 + 1))), rowI (aD z3) p.next.length 4 1 (bools (reF p.next.length (prN p) M qs s (u3 + 1))), rowI (aD z2) p.next.length 4 1 (bools (dnF p.next.length ds qs s p.next.length)), rowI mb mc 81 1 (bvals qs), oI z1 25 (pC p k), rowI sb sc 4 1 (bools ss), rowI ob oc 3 1 (nats o2)] ++ ((bitms 4 qs))) (by rw [toF_no hnc3, reF_no hnc3]; exact Sub.rf) ?_
     refine T.rg (TO.qm rfl ?_)
     by_cases h120 : anF (prN p) M qs s u3 = true
     ·refine TO.q (QT.toB (q_move rfl) (h120)) ?_
      refine TO.pd rfl rfl (TO.pd rfl rfl (TO.pd rfl rfl (TO.pd rfl rfl (TO.q (q_pick1 rfl rfl) (TO.qa rfl (TO.nl (T.rg (TO.qm rfl (TO.q (q_addN (a := u3) (b := 1) rfl rfl (by omega)) (TO.qa rfl (TO.nl ?_)))))))))))
      exact ⟨u3 + 1, by omega, rfl, by omega, ⟨rfl, rfl, rfl, rfl, rfl, rfl, rfl, rfl, rfl, rfl, rfl, (congrArg Value.bool (by rw [anF_step, h120]; rfl)), rfl, trivial⟩⟩
     refine TO.q (QT.toB (q_move rfl) (Bool.eq_false_iff.2 h120)) (TO.gq rfl rfl (q_move rfl) (TO.gq rfl rfl (q_move rfl) (TO.gq rfl rfl (q_ix (i := u3) uT81 inf4 rfl rfl (rowO (mG 1 rfl)) hun3 (by rw [List.length_map, reF_len]; exact hun3)) (TO.gq rfl rfl (q_ld uT4 rfl rfl (rowO (mG 1 rfl)) (reF_get2 hun3)) (TO.q (q_pick0 rfl rfl) (TO.qa rfl (TO.nl (T.rg (TO.qm rfl (TO.q (q_addN (a := u3) (b := 1) rfl rfl (by omega)) (TO.qa rfl ?_)))))))))))
     refine TO.nl ?_
     exact ⟨u3 + 1, by omega, rfl, by omega, ⟨rfl, rfl, rfl, rfl, rfl, rfl, rfl, rfl, rfl, rfl, rfl, (congrArg Value.bool (by rw [anF_step, Bool.eq_false_iff.2 h120]; rfl)), rfl, trivial⟩⟩
    refine TO.q (QT.toB (q_ld uT4 rfl rfl (rowO (mG 1 rfl)) (reF_get hun3)) (Bool.eq_false_iff.2 h103)) (TO.qm rfl (TO.pd rfl rfl (TO.pd rfl rfl (TO.pd rfl rfl (TO.pd rfl rfl (TO.pd rfl rfl (TO.pd rfl rfl (TO.pd rfl rfl ?_))))))))
    refine TO.q (q_pick0 rfl rfl) (TO.nl (T.cond0 rfl (T.skip ?_)))
    have hnc3 : ¬ (cmS qs s u3 = true ∧ prN p u3 = M) := by first | exact fun g => hpm g.2 | exact fun g => h103 g.1
    refine T.sub (O' := [rowI (aD z4) p.next.length 4 1 (bools (toF p.next.length (prN p) M qs s (u3 + 1))), rowI (aD z3) p.next.length 4 1 (bools (reF p.next.length (prN p) M qs s (u3 + 1))), rowI (aD z2) p.next.length 4 1 (bools (dnF p.next.length ds qs s p.next.length)), rowI mb mc 81 1 (bvals qs), oI z1 25 (pC p k), rowI sb sc 4 1 (bools ss), rowI ob oc 3 1 (nats o2)] ++ ((bitms 4 qs))) (by rw [toF_no hnc3, reF_no hnc3]; exact Sub.rf) ?_
    refine T.rg (TO.qm rfl ?_)
    by_cases h120 : anF (prN p) M qs s u3 = true
    ·refine TO.q (QT.toB (q_move rfl) (h120)) ?_
     refine TO.pd rfl rfl (TO.pd rfl rfl (TO.pd rfl rfl (TO.pd rfl rfl (TO.q (q_pick1 rfl rfl) (TO.qa rfl (TO.nl (T.rg (TO.qm rfl (TO.q (q_addN (a := u3) (b := 1) rfl rfl (by omega)) (TO.qa rfl (TO.nl ?_)))))))))))
     exact ⟨u3 + 1, by omega, rfl, by omega, ⟨rfl, rfl, rfl, rfl, rfl, rfl, rfl, rfl, rfl, rfl, rfl, (congrArg Value.bool (by rw [anF_step, h120]; rfl)), rfl, trivial⟩⟩
    refine TO.q (QT.toB (q_move rfl) (Bool.eq_false_iff.2 h120)) (TO.gq rfl rfl (q_move rfl) (TO.gq rfl rfl (q_move rfl) (TO.gq rfl rfl (q_ix (i := u3) uT81 inf4 rfl rfl (rowO (mG 1 rfl)) hun3 (by rw [List.length_map, reF_len]; exact hun3)) (TO.gq rfl rfl (q_ld uT4 rfl rfl (rowO (mG 1 rfl)) (reF_get2 hun3)) (TO.q (q_pick0 rfl rfl) (TO.qa rfl (TO.nl (T.rg (TO.qm rfl (TO.q (q_addN (a := u3) (b := 1) rfl rfl (by omega)) (TO.qa rfl ?_)))))))))))
    refine TO.nl ?_
    exact ⟨u3 + 1, by omega, rfl, by omega, ⟨rfl, rfl, rfl, rfl, rfl, rfl, rfl, rfl, rfl, rfl, rfl, (congrArg Value.bool (by rw [anF_step, Bool.eq_false_iff.2 h120]; rfl)), rfl, trivial⟩⟩
   have hge97 : ¬ u3 < p.next.length := by omega
   refine T.exit ?_
   refine T.s ?_
   have hu3e : u3 = p.next.length := by omega
   have eR3 : reF p.next.length (prN p) M qs s u3 = reF p.next.length (prN p) M qs s p.next.length := by rw [hu3e]
   have eT3 : toF p.next.length (prN p) M qs s u3 = toF p.next.length (prN p) M qs s p.next.length := by rw [hu3e]
   have eA3 : anF (prN p) M qs s u3 = anF (prN p) M qs s p.next.length := by rw [hu3e]
   refine T.sub (O' := [rowI (aD z4) p.next.length 4 1 (bools (toF p.next.length (prN p) M qs s p.next.length)), rowI (aD z3) p.next.length 4 1 (bools (reF p.next.length (prN p) M qs s p.next.length)), rowI (aD z2) p.next.length 4 1 (bools (dnF p.next.length ds qs s p.next.length)), rowI mb mc 81 1 (bvals qs), oI z1 25 (pC p k), rowI sb sc 4 1 (bools ss), rowI ob oc 3 1 (nats o2)] ++ ((bitms 4 qs))) (by rw [← eR3, ← eT3]; exact Sub.rf) ?_
   refine T.rg (TO.qa rfl (TO.nl (T.s (T.s (T.rg (TO.qm rfl (TO.nl (T.condP (p := anF (prN p) M qs s u3 = true) (congrArg Value.bool Bool.decide_eq_true.symm) (fun hc => ?_) (fun hc => ?_)))))))))
   ·have hless : cardS p.next.length (sB (reF p.next.length (prN p) M qs s p.next.length)) < N := by rw [← hN, ← eM]; exact part_card hSq hrc hSlt hS9 hcy
    refine T.s (T.rg (TO.q (q_la 4 uT25 rfl inf25 rfl rfl rfl) (TO.qm rfl (TO.qm rfl ?_))))
    have hk130 := CallT.under (A := [rowI (aD z3) p.next.length 4 1 (bools (reF p.next.length (prN p) M qs s p.next.length)), rowI ob oc 3 1 (nats o2)]) (B := [rowI (aD z4) p.next.length 4 1 (bools (toF p.next.length (prN p) M qs s p.next.length)), rowI (aD z2) p.next.length 4 1 (bools (dnF p.next.length ds qs s p.next.length)), rowI mb mc 81 1 (bvals qs), oI z1 25 (pC p k), rowI sb sc 4 1 (bools ss)] ++ ((bitms 4 qs))) (O := ([rowI (aD z4) p.next.length 4 1 (bools (toF p.next.length (prN p) M qs s p.next.length)), rowI (aD z3) p.next.length 4 1 (bools (reF p.next.length (prN p) M qs s p.next.length)), rowI (aD z2) p.next.length 4 1 (bools (dnF p.next.length ds qs s p.next.length)), rowI mb mc 81 1 (bvals qs), oI z1 25 (pC p k), rowI sb sc 4 1 (bools ss), rowI ob oc 3 1 (nats o2)] ++ (bitms 4 qs))) (ih _ hless (reF p.next.length (prN p) M qs s p.next.length) (aD z3) (p.next.length) ob oc o2 rfl reF_len hol2) (by exact Sub.pull [rowI (aD z4) p.next.length 4 1 (bools (toF p.next.length (prN p) M qs s p.next.length))] _ (.pull [rowI (aD z4) p.next.length 4 1 (bools (toF p.next.length (prN p) M qs s p.next.length)), rowI (aD z2) p.next.length 4 1 (bools (dnF p.next.length ds qs s p.next.length)), rowI mb mc 81 1 (bvals qs), oI z1 25 (pC p k), rowI sb sc 4 1 (bools ss)] _ (.k (.k (.k (.k (.k .rf)))))))
    refine TO.l rfl (l_call ent56 hk130 rfl ?_)
    clear hk130
    rintro vr O' ⟨A1, rfl, o3, rfl, hol3, hred, hout3⟩
    refine TO.nl (T.s (T.rg (TO.qa rfl (TO.nl (T.block ?_)))))
    refine T.loop (fun (u4 : Nat) ρ O => O = ([rowI (aD z3) p.next.length 4 1 (bools (reF p.next.length (prN p) M qs s p.next.length)), rowI ob oc 3 1 (nats o3), rowI (aD z4) p.next.length 4 1 (bools (toF p.next.length (prN p) M qs s p.next.length)), rowI (aD z2) p.next.length 4 1 (bools (dnF p.next.length ds qs s p.next.length)), rowI mb mc 81 1 (bvals qs), oI z1 25 (pC p k), rowI sb sc 4 1 (bools ss)] ++ (bitms 4 qs)) ∧ u4 ≤ p.next.length ∧ Heads [(0, (pV p k)), (1, (.slice sb p.next.length sc)), (2, (.slice ob p.next.length oc)), (3, (.pointer (aD z1))), (6, vI (p.next.length : Int)), (7, (.slice mb p.next.length mc)), (8, (.slice (aD z2) p.next.length p.next.length)), (9, vI ((s : Nat) : Int)), (10, vI ((M : Nat) : Int)), (11, (.slice (aD z3) p.next.length p.next.length)), (13, (.slice (aD z4) p.next.length p.next.length)), (14, .bool (anF (prN p) M qs s u3)), (15, vI ((u3 : Nat) : Int)), (16, vI ((mxN (fn o3) (fun v => cmS qs s v && !decide (prN p v = M)) u4 : Nat) : Int)), (17, vI ((u4 : Nat) : Int))] ρ) (fun u4 => p.next.length - u4) 0 ?_ ?_
    ·exact ⟨rfl, Nat.zero_le _, (.of rfl)⟩
    rintro u4 ρ O ⟨rfl, hu4, hH⟩
    obtain ⟨ρ0, rfl⟩ := hH.elim
    clear hH
    refine T.s (T.s (T.rg (TO.qm rfl (TO.qm rfl (TO.q (q_lss rfl rfl) (TO.nl (T.condP rfl (fun hc => ?_) (fun hc => ?_))))))))
    ·have hlt133 : u4 < p.next.length := by omega
     have hun4 : u4 < p.next.length := by omega
     have huo4 : u4 < o3.length := by omega
     have hgv4 : (nats o3)[u4]? = some (vI ((fn o3 u4 : Nat) : Int)) := by rw [fn_get huo4]; exact nats_get huo4
     refine T.skip (T.s (T.block (T.s (T.rg (TO.qm rfl (TO.qm rfl (TO.q (q_ix (i := u4) uT81 inf4 rfl rfl (rowO (mG 0 rfl)) hun4 (by rw [List.length_map, reF_len]; exact hun4)) (TO.q (q_ld uT4 rfl rfl (rowO (mG 0 rfl)) (reF_getE hun4)) (TO.nl (T.condP (p := (cmS qs s u4 && !decide (prN p u4 = M)) = true) (congrArg Value.bool Bool.decide_eq_true.symm) (fun hc => ?_) (fun hc => ?_)))))))))))
     ·have hc4 : (fun v => cmS qs s v && !decide (prN p v = M)) u4 = true := hc
      refine T.rg (TO.qm rfl (TO.qm rfl (TO.qm rfl (TO.q (q_ix (i := u4) uT23 inf3 rfl rfl (rowO (mG 1 rfl)) hun4 (by rw [List.length_map]; exact huo4)) (TO.q (q_ld uT3 rfl rfl (rowO (mG 1 rfl)) hgv4) (TO.q (q_maxN (a := (mxN (fn o3) (fun v => cmS qs s v && !decide (prN p v = M)) u4)) (b := (fn o3 u4)) rfl rfl) (TO.qa rfl (TO.nl (T.rg (TO.qm rfl (TO.q (q_addN (a := u4) (b := 1) rfl rfl (by omega)) (TO.qa rfl (TO.nl ?_)))))))))))))
      exact ⟨u4 + 1, by omega, rfl, by omega, ⟨rfl, rfl, rfl, rfl, rfl, rfl, rfl, rfl, rfl, rfl, rfl, rfl, rfl, (congrArg (fun n9 : Nat => Value.int .i64 ((n9 : Nat) : Int)) (mxN_yes hc4).symm), rfl, trivial⟩⟩
     have hc4 : ¬ (fun v => cmS qs s v && !decide (prN p v = M)) u4 = true := hc
     refine T.skip (T.rg (TO.qm rfl (TO.q (q_addN (a := u4) (b := 1) rfl rfl (by omega)) (TO.qa rfl (TO.nl ?_)))))
     exact ⟨u4 + 1, by omega, rfl, by omega, ⟨rfl, rfl, rfl, rfl, rfl, rfl, rfl, rfl, rfl, rfl, rfl, rfl, rfl, (congrArg (fun n9 : Nat => Value.int .i64 ((n9 : Nat) : Int)) (mxN_no hc4).symm), rfl, trivial⟩⟩
    have hge133 : ¬ u4 < p.next.length := by omega
    have hu4e : u4 = p.next.length := by omega
    have hk16 : mxN (fn o3) (fun v => cmS qs s v && !decide (prN p v = M)) u4 ≤ 16 := mxN_leP u4 (fun v h8 h9 => Nat.le_trans (hred.le (n := p.next.length) (fun v9 h7 => ((reF_end v9).1 h7).1) v ((reF_end v).2 ⟨by omega, h9⟩)) (hv.prLe v))
    refine T.exit ?_
    refine T.s (T.s (T.rg (TO.qm rfl (TO.q (q_remN (a := (mxN (fn o3) (fun v => cmS qs s v && !decide (prN p v = M)) u4)) (b := 2) rfl rfl (by omega)) (TO.qm rfl (TO.q (q_remN (a := M) (b := 2) rfl rfl (by omega)) (TO.q (q_neq rfl rfl) (TO.nl (T.condP rfl (fun hc => ?_) (fun hc => ?_))))))))))
    ·have hlt150 : (mxN (fn o3) (fun v => cmS qs s v && !decide (prN p v = M)) u4) % 2 ≠ M % 2 := by omega
     refine T.rg (TO.qm rfl (TO.q (q_addN (a := (mxN (fn o3) (fun v => cmS qs s v && !decide (prN p v = M)) u4)) (b := 1) rfl rfl (by omega)) (TO.qa rfl (TO.nl (T.s (T.rg (TO.qa rfl (TO.nl (T.block ?_)))))))))
     refine T.loop (fun (u5 : Nat) ρ O => ∃ (o5 : List Nat), O = ([rowI (aD z3) p.next.length 4 1 (bools (reF p.next.length (prN p) M qs s p.next.length)), rowI ob oc 3 1 (nats o5), rowI (aD z4) p.next.length 4 1 (bools (toF p.next.length (prN p) M qs s p.next.length)), rowI (aD z2) p.next.length 4 1 (bools (dnF p.next.length ds qs s p.next.length)), rowI mb mc 81 1 (bvals qs), oI z1 25 (pC p k), rowI sb sc 4 1 (bools ss)] ++ (bitms 4 qs)) ∧ u5 ≤ p.next.length ∧ o5.length = p.next.length ∧ (∀ v, fn o5 v = if v < u5 ∧ (cmS qs s v && decide (prN p v = M)) = true then (mxN (fn o3) (fun v => cmS qs s v && !decide (prN p v = M)) u4) + 1 else fn o3 v) ∧ Heads [(0, (pV p k)), (1, (.slice sb p.next.length sc)), (2, (.slice ob p.next.length oc)), (3, (.pointer (aD z1))), (6, vI (p.next.length : Int)), (7, (.slice mb p.next.length mc)), (8, (.slice (aD z2) p.next.length p.next.length)), (9, vI ((s : Nat) : Int)), (10, vI ((M : Nat) : Int)), (11, (.slice (aD z3) p.next.length p.next.length)), (13, (.slice (aD z4) p.next.length p.next.length)), (14, .bool (anF (prN p) M qs s u3)), (15, vI ((u3 : Nat) : Int)), (16, vI (((mxN (fn o3) (fun v => cmS qs s v && !decide (prN p v = M)) u4) + 1 : Nat) : Int)), (17, vI ((u4 : Nat) : Int)), (18, vI ((u5 : Nat) : Int))] ρ) (fun u5 => p.next.length - u5) 0 ?_ ?_
     ·exact ⟨o3, rfl, Nat.zero_le _, hol3, (fun v => by simp), (.of rfl)⟩
     rintro u5 ρ O ⟨o5, rfl, hu5, hol5, hs5, hH⟩
     obtain ⟨ρ0, rfl⟩ := hH.elim
     clear hH
     refine T.s (T.s (T.rg (TO.qm rfl (TO.qm rfl (TO.q (q_lss rfl rfl) (TO.nl (T.condP rfl (fun hc => ?_) (fun hc => ?_))))))))
     ·have hlt155 : u5 < p.next.length := by omega
      have hun5 : u5 < p.next.length := by omega
      have huo5 : u5 < o5.length := by omega
      refine T.skip (T.s (T.block (T.s (T.rg (TO.qm rfl (TO.qm rfl (TO.q (q_ix (i := u5) uT81 inf4 rfl rfl (rowO (mG 2 rfl)) hun5 (by rw [List.length_map, toF_len]; exact hun5)) (TO.q (q_ld uT4 rfl rfl (rowO (mG 2 rfl)) (toF_getE hun5)) (TO.nl (T.condP (p := (cmS qs s u5 && decide (prN p u5 = M)) = true) (congrArg Value.bool Bool.decide_eq_true.symm) (fun hc => ?_) (fun hc => ?_)))))))))))
      ·have hc5 : (fun v => (cmS qs s v && decide (prN p v = M))) u5 = true := hc
       refine T.rg (TO.qm rfl (TO.qm rfl (TO.qm rfl (TO.q (q_ix (i := u5) uT23 inf3 rfl rfl (rowO (mG 1 rfl)) hun5 (by rw [List.length_map]; exact huo5)) (TO.l rfl (l_st (j := u5) (v := vI (((mxN (fn o3) (fun v => cmS qs s v && !decide (prN p v = M)) u4) + 1 : Nat) : Int)) (vs := [(vI (((mxN (fn o3) (fun v => cmS qs s v && !decide (prN p v = M)) u4) + 1 : Nat) : Int))]) (cs := nats o5) 1 inf3 rfl rfl rfl rfl rfl (by simp) rfl (by rw [List.length_map]; exact huo5) ?_))))))
       refine TO.sub (O' := ([rowI (aD z3) p.next.length 4 1 (bools (reF p.next.length (prN p) M qs s p.next.length)), rowI ob oc 3 1 (nats (o5.set u5 ((mxN (fn o3) (fun v => cmS qs s v && !decide (prN p v = M)) u4) + 1))), rowI (aD z4) p.next.length 4 1 (bools (toF p.next.length (prN p) M qs s p.next.length)), rowI (aD z2) p.next.length 4 1 (bools (dnF p.next.length ds qs s p.next.length)), rowI mb mc 81 1 (bvals qs), oI z1 25 (pC p k), rowI sb sc 4 1 (bools ss)] ++ (bitms 4 qs))) (by rw [show putL (nats o5) u5 [(vI (((mxN (fn o3) (fun v => cmS qs s v && !decide (prN p v = M)) u4) + 1 : Nat) : Int))] = nats (o5.set u5 ((mxN (fn o3) (fun v => cmS qs s v && !decide (prN p v = M)) u4) + 1)) from (by simp [putL])]; exact Sub.of (List.Sublist.refl _)) ?_
       refine TO.nl (T.rg (TO.qm rfl (TO.q (q_addN (a := u5) (b := 1) rfl rfl (by omega)) (TO.qa rfl (TO.nl ?_)))))
       exact ⟨u5 + 1, by omega, o5.set u5 ((mxN (fn o3) (fun v => cmS qs s v && !decide (prN p v = M)) u4) + 1), rfl, by omega, by rw [List.length_set]; exact hol5, setK_yes (f := fun v => (cmS qs s v && decide (prN p v = M))) (by omega) hs5 hc5, (.of rfl)⟩
      have hc5 : ¬ (fun v => (cmS qs s v && decide (prN p v = M))) u5 = true := hc
      refine T.skip (T.rg (TO.qm rfl (TO.q (q_addN (a := u5) (b := 1) rfl rfl (by omega)) (TO.qa rfl (TO.nl ?_)))))
      exact ⟨u5 + 1, by omega, o5, rfl, by omega, hol5, setK_no (f := fun v => (cmS qs s v && decide (prN p v = M))) hs5 hc5, (.of rfl)⟩
     have hge155 : ¬ u5 < p.next.length := by omega
     refine T.exit ?_
     have eSS : sB (reF p.next.length (prN p) M qs s p.next.length) = fun u => u < p.next.length ∧ (cmS qs s u && !decide (prN p u = M)) = true := funext fun v => propext (reF_end v)
     have hIS : IsRed (DE p.d) (prN p) (fn o3) (fun u => u < p.next.length ∧ (cmS qs s u && !decide (prN p u = M)) = true) := eSS ▸ hred
     have hOU : ∀ v, ¬ (v < p.next.length ∧ (cmS qs s v && !decide (prN p v = M)) = true) → fn o3 v = fn o2 v := fun v h9 => hout3 v (fun g9 => h9 ((reF_end v).1 g9))
     have hKN : mxN (fn o3) (fun v => cmS qs s v && !decide (prN p v = M)) u4 = mxN (fn o3) (fun v => cmS qs s v && !decide (prN p v = M)) p.next.length := by rw [hu4e]
     have hKK : (mxN (fn o3) (fun v => cmS qs s v && !decide (prN p v = M)) u4) + 1 = mxN (fn o3) (fun v => cmS qs s v && !decide (prN p v = M)) p.next.length + (mxN (fn o3) (fun v => cmS qs s v && !decide (prN p v = M)) p.next.length + M) % 2 := by rw [← hKN]; omega
     have hu5e : u5 = p.next.length := by omega
     have hFIN : RefI (DE p.d) (prN p) (sB ss) (fn o) (fn o5) (sB (dnF p.next.length ds qs s p.next.length)) := by
      subst eM
      rw [dnF_end]
      refine hRI.comp hSq hrc hSlt hS9 hnd hcy hIS hOU (fun v => ?_)
      rw [hs5 v, hu5e, hKK]
     have hFIN2 : ∀ v, v < s + 1 → sB ss v → sB (dnF p.next.length ds qs s p.next.length) v := fun v h8 h9 => by
      rw [dnF_end]
      show (tabB p.next.length _).getD v false = true
      rw [tabB_at (hSlt v h9), Bool.or_eq_true]
      by_cases e : v = s
      ·subst e; exact .inr ((cmS_iff hSq hrc hSlt hS9 hcy _).1 (.refl hS9)).2
      ·exact .inl (hdn v (by omega) h9)
     refine T.sub (O' := [rowI (aD z2) p.next.length 4 1 (bools (dnF p.next.length ds qs s p.next.length)), rowI mb mc 81 1 (bvals qs), oI z1 25 (pC p k), rowI sb sc 4 1 (bools ss), rowI ob oc 3 1 (nats o5)] ++ ((bitms 4 qs))) (by exact Sub.d (.pull [rowI ob oc 3 1 (nats o5), rowI (aD z4) p.next.length 4 1 (bools (toF p.next.length (prN p) M qs s p.next.length))] _ (.pull [rowI ob oc 3 1 (nats o5), rowI (aD z4) p.next.length 4 1 (bools (toF p.next.length (prN p) M qs s p.next.length))] _ (.pull [rowI ob oc 3 1 (nats o5), rowI (aD z4) p.next.length 4 1 (bools (toF p.next.length (prN p) M qs s p.next.length))] _ (.pull [rowI ob oc 3 1 (nats o5), rowI (aD z4) p.next.length 4 1 (bools (toF p.next.length (prN p) M qs s p.next.length))] _ (.k (.d .rf))))))) ?_
     refine T.rg (TO.qm rfl (TO.q (q_addN (a := s) (b := 1) rfl rfl (by omega)) (TO.qa rfl (TO.nl ?_))))
     exact ⟨s + 1, by omega, o5, dnF p.next.length ds qs s p.next.length, rfl, by omega, hol5, dnF_len, hFIN, hFIN2, (.of rfl)⟩
    have hge150 : ¬ (mxN (fn o3) (fun v => cmS qs s v && !decide (prN p v = M)) u4) % 2 ≠ M % 2 := by omega
    refine T.skip (T.s (T.rg (TO.qa rfl (TO.nl (T.block ?_)))))
    refine T.loop (fun (u5 : Nat) ρ O => ∃ (o5 : List Nat), O = ([rowI (aD z3) p.next.length 4 1 (bools (reF p.next.length (prN p) M qs s p.next.length)), rowI ob oc 3 1 (nats o5), rowI (aD z4) p.next.length 4 1 (bools (toF p.next.length (prN p) M qs s p.next.length)), rowI (aD z2) p.next.length 4 1 (bools (dnF p.next.length ds qs s p.next.length)), rowI mb mc 81 1 (bvals qs), oI z1 25 (pC p k), rowI sb sc 4 1 (bools ss)] ++ (bitms 4 qs)) ∧ u5 ≤ p.next.length ∧ o5.length = p.next.length ∧ (∀ v, fn o5 v = if v < u5 ∧ (cmS qs s v && decide (prN p v = M)) = true then mxN (fn o3) (fun v => cmS qs s v && !decide (prN p v = M)) u4 else fn o3 v) ∧ Heads [(0, (pV p k)), (1, (.slice sb p.next.length sc)), (2, (.slice ob p.next.length oc)), (3, (.pointer (aD z1))), (6, vI (p.next.length : Int)), (7, (.slice mb p.next.length mc)), (8, (.slice (aD z2) p.next.length p.next.length)), (9, vI ((s : Nat) : Int)), (10, vI ((M : Nat) : Int)), (11, (.slice (aD z3) p.next.length p.next.length)), (13, (.slice (aD z4) p.next.length p.next.length)), (14, .bool (anF (prN p) M qs s u3)), (15, vI ((u3 : Nat) : Int)), (16, vI ((mxN (fn o3) (fun v => cmS qs s v && !decide (prN p v = M)) u4 : Nat) : Int)), (17, vI ((u4 : Nat) : Int)), (18, vI ((u5 : Nat) : Int))] ρ) (fun u5 => p.next.length - u5) 0 ?_ ?_
    ·exact ⟨o3, rfl, Nat.zero_le _, hol3, (fun v => by simp), (.of rfl)⟩
    rintro u5 ρ O ⟨o5, rfl, hu5, hol5, hs5, hH⟩
    obtain ⟨ρ0, rfl⟩ := hH.elim
    clear hH
    refine T.s (T.s (T.rg (TO.qm rfl (TO.qm rfl (TO.q (q_lss rfl rfl) (TO.nl (T.condP rfl (fun hc => ?_) (fun hc => ?_))))))))
    ·have hlt155 : u5 < p.next.length := by omega
     have hun5 : u5 < p.next.length := by omega
     have huo5 : u5 < o5.length := by omega
     refine T.skip (T.s (T.block (T.s (T.rg (TO.qm rfl (TO.qm rfl (TO.q (q_ix (i := u5) uT81 inf4 rfl rfl (rowO (mG 2 rfl)) hun5 (by rw [List.length_map, toF_len]; exact hun5)) (TO.q (q_ld uT4 rfl rfl (rowO (mG 2 rfl)) (toF_getE hun5)) (TO.nl (T.condP (p := (cmS qs s u5 && decide (prN p u5 = M)) = true) (congrArg Value.bool Bool.decide_eq_true.symm) (fun hc => ?_) (fun hc => ?_)))))))))))
     ·have hc5 : (fun v => (cmS qs s v && decide (prN p v = M))) u5 = true := hc
      refine T.rg (TO.qm rfl (TO.qm rfl (TO.qm rfl (TO.q (q_ix (i := u5) uT23 inf3 rfl rfl (rowO (mG 1 rfl)) hun5 (by rw [List.length_map]; exact huo5)) (TO.l rfl (l_st (j := u5) (v := vI ((mxN (fn o3) (fun v => cmS qs s v && !decide (prN p v = M)) u4 : Nat) : Int)) (vs := [(vI ((mxN (fn o3) (fun v => cmS qs s v && !decide (prN p v = M)) u4 : Nat) : Int))]) (cs := nats o5) 1 inf3 rfl rfl rfl rfl rfl (by simp) rfl (by rw [List.length_map]; exact huo5) ?_))))))
      refine TO.sub (O' := ([rowI (aD z3) p.next.length 4 1 (bools (reF p.next.length (prN p) M qs s p.next.length)), rowI ob oc 3 1 (nats (o5.set u5 (mxN (fn o3) (fun v => cmS qs s v && !decide (prN p v = M)) u4))), rowI (aD z4) p.next.length 4 1 (bools (toF p.next.length (prN p) M qs s p.next.length)), rowI (aD z2) p.next.length 4 1 (bools (dnF p.next.length ds qs s p.next.length)), rowI mb mc 81 1 (bvals qs), oI z1 25 (pC p k), rowI sb sc 4 1 (bools ss)] ++ (bitms 4 qs))) (by rw [show putL (nats o5) u5 [(vI ((mxN (fn o3) (fun v => cmS qs s v && !decide (prN p v = M)) u4 : Nat) : Int))] = nats (o5.set u5 (mxN (fn o3) (fun v => cmS qs s v && !decide (prN p v = M)) u4)) from (by simp [putL])]; exact Sub.of (List.Sublist.refl _)) ?_
      refine TO.nl (T.rg (TO.qm rfl (TO.q (q_addN (a := u5) (b := 1) rfl rfl (by omega)) (TO.qa rfl (TO.nl ?_)))))
      exact ⟨u5 + 1, by omega, o5.set u5 (mxN (fn o3) (fun v => cmS qs s v && !decide (prN p v = M)) u4), rfl, by omega, by rw [List.length_set]; exact hol5, setK_yes (f := fun v => (cmS qs s v && decide (prN p v = M))) (by omega) hs5 hc5, (.of rfl)⟩
     have hc5 : ¬ (fun v => (cmS qs s v && decide (prN p v = M))) u5 = true := hc
     refine T.skip (T.rg (TO.qm rfl (TO.q (q_addN (a := u5) (b := 1) rfl rfl (by omega)) (TO.qa rfl (TO.nl ?_)))))
     exact ⟨u5 + 1, by omega, o5, rfl, by omega, hol5, setK_no (f := fun v => (cmS qs s v && decide (prN p v = M))) hs5 hc5, (.of rfl)⟩
    have hge155 : ¬ u5 < p.next.length := by omega
    refine T.exit ?_
    have eSS : sB (reF p.next.length (prN p) M qs s p.next.length) = fun u => u < p.next.length ∧ (cmS qs s u && !decide (prN p u = M)) = true := funext fun v => propext (reF_end v)
    have hIS : IsRed (DE p.d) (prN p) (fn o3) (fun u => u < p.next.length ∧ (cmS qs s u && !decide (prN p u = M)) = true) := eSS ▸ hred
    have hOU : ∀ v, ¬ (v < p.next.length ∧ (cmS qs s v && !decide (prN p v = M)) = true) → fn o3 v = fn o2 v := fun v h9 => hout3 v (fun g9 => h9 ((reF_end v).1 g9))
    have hKN : mxN (fn o3) (fun v => cmS qs s v && !decide (prN p v = M)) u4 = mxN (fn o3) (fun v => cmS qs s v && !decide (prN p v = M)) p.next.length := by rw [hu4e]
    have hKK : mxN (fn o3) (fun v => cmS qs s v && !decide (prN p v = M)) u4 = mxN (fn o3) (fun v => cmS qs s v && !decide (prN p v = M)) p.next.length + (mxN (fn o3) (fun v => cmS qs s v && !decide (prN p v = M)) p.next.length + M) % 2 := by rw [← hKN]; omega
    have hu5e : u5 = p.next.length := by omega
    have hFIN : RefI (DE p.d) (prN p) (sB ss) (fn o) (fn o5) (sB (dnF p.next.length ds qs s p.next.length)) := by
     subst eM
     rw [dnF_end]
     refine hRI.comp hSq hrc hSlt hS9 hnd hcy hIS hOU (fun v => ?_)
     rw [hs5 v, hu5e, hKK]
    have hFIN2 : ∀ v, v < s + 1 → sB ss v → sB (dnF p.next.length ds qs s p.next.length) v := fun v h8 h9 => by
     rw [dnF_end]
     show (tabB p.next.length _).getD v false = true
     rw [tabB_at (hSlt v h9), Bool.or_eq_true]
     by_cases e : v = s
     ·subst e; exact .inr ((cmS_iff hSq hrc hSlt hS9 hcy _).1 (.refl hS9)).2
     ·exact .inl (hdn v (by omega) h9)
    refine T.sub (O' := [rowI (aD z2) p.next.length 4 1 (bools (dnF p.next.length ds qs s p.next.length)), rowI mb mc 81 1 (bvals qs), oI z1 25 (pC p k), rowI sb sc 4 1 (bools ss), rowI ob oc 3 1 (nats o5)] ++ ((bitms 4 qs))) (by exact Sub.d (.pull [rowI ob oc 3 1 (nats o5), rowI (aD z4) p.next.length 4 1 (bools (toF p.next.length (prN p) M qs s p.next.length))] _ (.pull [rowI ob oc 3 1 (nats o5), rowI (aD z4) p.next.length 4 1 (bools (toF p.next.length (prN p) M qs s p.next.length))] _ (.pull [rowI ob oc 3 1 (nats o5), rowI (aD z4) p.next.length 4 1 (bools (toF p.next.length (prN p) M qs s p.next.length))] _ (.pull [rowI ob oc 3 1 (nats o5), rowI (aD z4) p.next.length 4 1 (bools (toF p.next.length (prN p) M qs s p.next.length))] _ (.k (.d .rf))))))) ?_
    refine T.rg (TO.qm rfl (TO.q (q_addN (a := s) (b := 1) rfl rfl (by omega)) (TO.qa rfl (TO.nl ?_))))
    exact ⟨s + 1, by omega, o5, dnF p.next.length ds qs s p.next.length, rfl, by omega, hol5, dnF_len, hFIN, hFIN2, (.of rfl)⟩
   have hnoP : ∀ v, ¬ sB (reF p.next.length (prN p) M qs s p.next.length) v := anF_no (by rw [← eA3]; exact hc)
   refine T.skip (T.s (T.s (T.rg (TO.qm rfl (TO.q (q_remN (a := 0) (b := 2) rfl rfl (by omega)) (TO.qm rfl (TO.q (q_remN (a := M) (b := 2) rfl rfl (by omega)) (TO.q (q_neq rfl rfl) (TO.nl (T.condP rfl (fun hc => ?_) (fun hc => ?_)))))))))))
   ·have hlt150 : 0 % 2 ≠ M % 2 := by omega
    refine T.rg (TO.qm rfl (TO.q (q_addN (a := 0) (b := 1) rfl rfl (by omega)) (TO.qa rfl (TO.nl (T.s (T.rg (TO.qa rfl (TO.nl (T.block ?_)))))))))
    refine T.loop (fun (u5 : Nat) ρ O => ∃ (o5 : List Nat), O = ([rowI (aD z4) p.next.length 4 1 (bools (toF p.next.length (prN p) M qs s p.next.length)), rowI (aD z3) p.next.length 4 1 (bools (reF p.next.length (prN p) M qs s p.next.length)), rowI (aD z2) p.next.length 4 1 (bools (dnF p.next.length ds qs s p.next.length)), rowI mb mc 81 1 (bvals qs), oI z1 25 (pC p k), rowI sb sc 4 1 (bools ss), rowI ob oc 3 1 (nats o5)] ++ (bitms 4 qs)) ∧ u5 ≤ p.next.length ∧ o5.length = p.next.length ∧ (∀ v, fn o5 v = if v < u5 ∧ (cmS qs s v && decide (prN p v = M)) = true then 0 + 1 else fn o2 v) ∧ Heads [(0, (pV p k)), (1, (.slice sb p.next.length sc)), (2, (.slice ob p.next.length oc)), (3, (.pointer (aD z1))), (6, vI (p.next.length : Int)), (7, (.slice mb p.next.length mc)), (8, (.slice (aD z2) p.next.length p.next.length)), (9, vI ((s : Nat) : Int)), (10, vI ((M : Nat) : Int)), (11, (.slice (aD z3) p.next.length p.next.length)), (13, (.slice (aD z4) p.next.length p.next.length)), (14, .bool (anF (prN p) M qs s u3)), (15, vI ((u3 : Nat) : Int)), (16, vI ((0 + 1 : Nat) : Int)), (18, vI ((u5 : Nat) : Int))] ρ) (fun u5 => p.next.length - u5) 0 ?_ ?_
    ·exact ⟨o2, rfl, Nat.zero_le _, hol2, (fun v => by simp), (.of rfl)⟩
    rintro u5 ρ O ⟨o5, rfl, hu5, hol5, hs5, hH⟩
    obtain ⟨ρ0, rfl⟩ := hH.elim
    clear hH
    refine T.s (T.s (T.rg (TO.qm rfl (TO.qm rfl (TO.q (q_lss rfl rfl) (TO.nl (T.condP rfl (fun hc => ?_) (fun hc => ?_))))))))
    ·have hlt155 : u5 < p.next.length := by omega
     have hun5 : u5 < p.next.length := by omega
     have huo5 : u5 < o5.length := by omega
     refine T.skip (T.s (T.block (T.s (T.rg (TO.qm rfl (TO.qm rfl (TO.q (q_ix (i := u5) uT81 inf4 rfl rfl (rowO (mG 0 rfl)) hun5 (by rw [List.length_map, toF_len]; exact hun5)) (TO.q (q_ld uT4 rfl rfl (rowO (mG 0 rfl)) (toF_getE hun5)) (TO.nl (T.condP (p := (cmS qs s u5 && decide (prN p u5 = M)) = true) (congrArg Value.bool Bool.decide_eq_true.symm) (fun hc => ?_) (fun hc => ?_)))))))))))
     ·have hc5 : (fun v => (cmS qs s v && decide (prN p v = M))) u5 = true := hc
      refine T.rg (TO.qm rfl (TO.qm rfl (TO.qm rfl (TO.q (q_ix (i := u5) uT23 inf3 rfl rfl (rowO (mG 6 rfl)) hun5 (by rw [List.length_map]; exact huo5)) (TO.l rfl (l_st (j := u5) (v := vI ((0 + 1 : Nat) : Int)) (vs := [(vI ((0 + 1 : Nat) : Int))]) (cs := nats o5) 6 inf3 rfl rfl rfl rfl rfl (by simp) rfl (by rw [List.length_map]; exact huo5) ?_))))))
      refine TO.sub (O' := ([rowI (aD z4) p.next.length 4 1 (bools (toF p.next.length (prN p) M qs s p.next.length)), rowI (aD z3) p.next.length 4 1 (bools (reF p.next.length (prN p) M qs s p.next.length)), rowI (aD z2) p.next.length 4 1 (bools (dnF p.next.length ds qs s p.next.length)), rowI mb mc 81 1 (bvals qs), oI z1 25 (pC p k), rowI sb sc 4 1 (bools ss), rowI ob oc 3 1 (nats (o5.set u5 (0 + 1)))] ++ (bitms 4 qs))) (by rw [show putL (nats o5) u5 [(vI ((0 + 1 : Nat) : Int))] = nats (o5.set u5 (0 + 1)) from (by simp [putL])]; exact Sub.of (List.Sublist.refl _)) ?_
      refine TO.nl (T.rg (TO.qm rfl (TO.q (q_addN (a := u5) (b := 1) rfl rfl (by omega)) (TO.qa rfl (TO.nl ?_)))))
      exact ⟨u5 + 1, by omega, o5.set u5 (0 + 1), rfl, by omega, by rw [List.length_set]; exact hol5, setK_yes (f := fun v => (cmS qs s v && decide (prN p v = M))) (by omega) hs5 hc5, (.of rfl)⟩
     have hc5 : ¬ (fun v => (cmS qs s v && decide (prN p v = M))) u5 = true := hc
     refine T.skip (T.rg (TO.qm rfl (TO.q (q_addN (a := u5) (b := 1) rfl rfl (by omega)) (TO.qa rfl (TO.nl ?_)))))
     exact ⟨u5 + 1, by omega, o5, rfl, by omega, hol5, setK_no (f := fun v => (cmS qs s v && decide (prN p v = M))) hs5 hc5, (.of rfl)⟩
    have hge155 : ¬ u5 < p.next.length := by omega
    refine T.exit ?_
    have eSS : sB (reF p.next.length (prN p) M qs s p.next.length) = fun u => u < p.next.length ∧ (cmS qs s u && !decide (prN p u = M)) = true := funext fun v => propext (reF_end v)
    have hIS : IsRed (DE p.d) (prN p) (fn o2) (fun u => u < p.next.length ∧ (cmS qs s u && !decide (prN p u = M)) = true) := red_none (fun v h9 => hnoP v ((reF_end v).2 h9))
    have hOU : ∀ v, ¬ (v < p.next.length ∧ (cmS qs s v && !decide (prN p v = M)) = true) → fn o2 v = fn o2 v := fun _ _ => rfl
    have hKN : 0 = mxN (fn o2) (fun v => cmS qs s v && !decide (prN p v = M)) p.next.length := (mxN_max0 (fun v => Iff.rfl) : Max0 (fn o2) (fun v => v < p.next.length ∧ (fun v => cmS qs s v && !decide (prN p v = M)) v = true) _).2.elim Eq.symm (fun ⟨v9, h8, h9⟩ => absurd ((reF_end v9).2 h8) (hnoP v9))
    have hKK : 0 + 1 = mxN (fn o2) (fun v => cmS qs s v && !decide (prN p v = M)) p.next.length + (mxN (fn o2) (fun v => cmS qs s v && !decide (prN p v = M)) p.next.length + M) % 2 := by rw [← hKN]; omega
    have hu5e : u5 = p.next.length := by omega
    have hFIN : RefI (DE p.d) (prN p) (sB ss) (fn o) (fn o5) (sB (dnF p.next.length ds qs s p.next.length)) := by
     subst eM
     rw [dnF_end]
     refine hRI.comp hSq hrc hSlt hS9 hnd hcy hIS hOU (fun v => ?_)
     rw [hs5 v, hu5e, hKK]
    have hFIN2 : ∀ v, v < s + 1 → sB ss v → sB (dnF p.next.length ds qs s p.next.length) v := fun v h8 h9 => by
     rw [dnF_end]
     show (tabB p.next.length _).getD v false = true
     rw [tabB_at (hSlt v h9), Bool.or_eq_true]
     by_cases e : v = s
     ·subst e; exact .inr ((cmS_iff hSq hrc hSlt hS9 hcy _).1 (.refl hS9)).2
     ·exact .inl (hdn v (by omega) h9)
    refine T.sub (O' := [rowI (aD z2) p.next.length 4 1 (bools (dnF p.next.length ds qs s p.next.length)), rowI mb mc 81 1 (bvals qs), oI z1 25 (pC p k), rowI sb sc 4 1 (bools ss), rowI ob oc 3 1 (nats o5)] ++ ((bitms 4 qs))) (by exact Sub.d (.d (.k (.k (.k (.k (.k .rf))))))) ?_
    refine T.rg (TO.qm rfl (TO.q (q_addN (a := s) (b := 1) rfl rfl (by omega)) (TO.qa rfl (TO.nl ?_))))
    exact ⟨s + 1, by omega, o5, dnF p.next.length ds qs s p.next.length, rfl, by omega, hol5, dnF_len, hFIN, hFIN2, (.of rfl)⟩
   have hge150 : ¬ 0 % 2 ≠ M % 2 := by omega
   refine T.skip (T.s (T.rg (TO.qa rfl (TO.nl (T.block ?_)))))
   refine T.loop (fun (u5 : Nat) ρ O => ∃ (o5 : List Nat), O = ([rowI (aD z4) p.next.length 4 1 (bools (toF p.next.length (prN p) M qs s p.next.length)), rowI (aD z3) p.next.length 4 1 (bools (reF p.next.length (prN p) M qs s p.next.length)), rowI (aD z2) p.next.length 4 1 (bools (dnF p.next.length ds qs s p.next.length)), rowI mb mc 81 1 (bvals qs), oI z1 25 (pC p k), rowI sb sc 4 1 (bools ss), rowI ob oc 3 1 (nats o5)] ++ (bitms 4 qs)) ∧ u5 ≤ p.next.length ∧ o5.length = p.next.length ∧ (∀ v, fn o5 v = if v < u5 ∧ (cmS qs s v && decide (prN p v = M)) = true then 0 else fn o2 v) ∧ Heads [(0, (pV p k)), (1, (.slice sb p.next.length sc)), (2, (.slice ob p.next.length oc)), (3, (.pointer (aD z1))), (6, vI (p.next.length : Int)), (7, (.slice mb p.next.length mc)), (8, (.slice (aD z2) p.next.length p.next.length)), (9, vI ((s : Nat) : Int)), (10, vI ((M : Nat) : Int)), (11, (.slice (aD z3) p.next.length p.next.length)), (13, (.slice (aD z4) p.next.length p.next.length)), (14, .bool (anF (prN p) M qs s u3)), (15, vI ((u3 : Nat) : Int)), (16, vI 0), (18, vI ((u5 : Nat) : Int))] ρ) (fun u5 => p.next.length - u5) 0 ?_ ?_
   ·exact ⟨o2, rfl, Nat.zero_le _, hol2, (fun v => by simp), (.of rfl)⟩
   rintro u5 ρ O ⟨o5, rfl, hu5, hol5, hs5, hH⟩
   obtain ⟨ρ0, rfl⟩ := hH.elim
   clear hH
   refine T.s (T.s (T.rg (TO.qm rfl (TO.qm rfl (TO.q (q_lss rfl rfl) (TO.nl (T.condP rfl (fun hc => ?_) (fun hc => ?_))))))))
   ·have hlt155 : u5 < p.next.length := by omega
    have hun5 : u5 < p.next.length := by omega
    have huo5 : u5 < o5.length := by omega
    refine T.skip (T.s (T.block (T.s (T.rg (TO.qm rfl (TO.qm rfl (TO.q (q_ix (i := u5) uT81 inf4 rfl rfl (rowO (mG 0 rfl)) hun5 (by rw [List.length_map, toF_len]; exact hun5)) (TO.q (q_ld uT4 rfl rfl (rowO (mG 0 rfl)) (toF_getE hun5)) (TO.nl (T.condP (p := (cmS qs s u5 && decide (prN p u5 = M)) = true) (congrArg Value.bool Bool.decide_eq_true.symm) (fun hc => ?_) (fun hc => ?_)))))))))))
    ·have hc5 : (fun v => (cmS qs s v && decide (prN p v = M))) u5 = true := hc
     refine T.rg (TO.qm rfl (TO.qm rfl (TO.qm rfl (TO.q (q_ix (i := u5) uT23 inf3 rfl rfl (rowO (mG 6 rfl)) hun5 (by rw [List.length_map]; exact huo5)) (TO.l rfl (l_st (j := u5) (v := vI 0) (vs := [(vI 0)]) (cs := nats o5) 6 inf3 rfl rfl rfl rfl rfl (by simp) rfl (by rw [List.length_map]; exact huo5) ?_))))))
     refine TO.sub (O' := ([rowI (aD z4) p.next.length 4 1 (bools (toF p.next.length (prN p) M qs s p.next.length)), rowI (aD z3) p.next.length 4 1 (bools (reF p.next.length (prN p) M qs s p.next.length)), rowI (aD z2) p.next.length 4 1 (bools (dnF p.next.length ds qs s p.next.length)), rowI mb mc 81 1 (bvals qs), oI z1 25 (pC p k), rowI sb sc 4 1 (bools ss), rowI ob oc 3 1 (nats (o5.set u5 (0)))] ++ (bitms 4 qs))) (by rw [show putL (nats o5) u5 [(vI 0)] = nats (o5.set u5 (0)) from (by simp [putL])]; exact Sub.of (List.Sublist.refl _)) ?_
     refine TO.nl (T.rg (TO.qm rfl (TO.q (q_addN (a := u5) (b := 1) rfl rfl (by omega)) (TO.qa rfl (TO.nl ?_)))))
     exact ⟨u5 + 1, by omega, o5.set u5 (0), rfl, by omega, by rw [List.length_set]; exact hol5, setK_yes (f := fun v => (cmS qs s v && decide (prN p v = M))) (by omega) hs5 hc5, (.of rfl)⟩
    have hc5 : ¬ (fun v => (cmS qs s v && decide (prN p v = M))) u5 = true := hc
    refine T.skip (T.rg (TO.qm rfl (TO.q (q_addN (a := u5) (b := 1) rfl rfl (by omega)) (TO.qa rfl (TO.nl ?_)))))
    exact ⟨u5 + 1, by omega, o5, rfl, by omega, hol5, setK_no (f := fun v => (cmS qs s v && decide (prN p v = M))) hs5 hc5, (.of rfl)⟩
   have hge155 : ¬ u5 < p.next.length := by omega
   refine T.exit ?_
   have eSS : sB (reF p.next.length (prN p) M qs s p.next.length) = fun u => u < p.next.length ∧ (cmS qs s u && !decide (prN p u = M)) = true := funext fun v => propext (reF_end v)
   have hIS : IsRed (DE p.d) (prN p) (fn o2) (fun u => u < p.next.length ∧ (cmS qs s u && !decide (prN p u = M)) = true) := red_none (fun v h9 => hnoP v ((reF_end v).2 h9))
   have hOU : ∀ v, ¬ (v < p.next.length ∧ (cmS qs s v && !decide (prN p v = M)) = true) → fn o2 v = fn o2 v := fun _ _ => rfl
   have hKN : 0 = mxN (fn o2) (fun v => cmS qs s v && !decide (prN p v = M)) p.next.length := (mxN_max0 (fun v => Iff.rfl) : Max0 (fn o2) (fun v => v < p.next.length ∧ (fun v => cmS qs s v && !decide (prN p v = M)) v = true) _).2.elim Eq.symm (fun ⟨v9, h8, h9⟩ => absurd ((reF_end v9).2 h8) (hnoP v9))
   have hKK : 0 = mxN (fn o2) (fun v => cmS qs s v && !decide (prN p v = M)) p.next.length + (mxN (fn o2) (fun v => cmS qs s v && !decide (prN p v = M)) p.next.length + M) % 2 := by rw [← hKN]; omega
   have hu5e : u5 = p.next.length := by omega
   have hFIN : RefI (DE p.d) (prN p) (sB ss) (fn o) (fn o5) (sB (dnF p.next.length ds qs s p.next.length)) := by
    subst eM
    rw [dnF_end]
    refine hRI.comp hSq hrc hSlt hS9 hnd hcy hIS hOU (fun v => ?_)
    rw [hs5 v, hu5e, hKK]
   have hFIN2 : ∀ v, v < s + 1 → sB ss v → sB (dnF p.next.length ds qs s p.next.length) v := fun v h8 h9 => by
    rw [dnF_end]
    show (tabB p.next.length _).getD v false = true
    rw [tabB_at (hSlt v h9), Bool.or_eq_true]
    by_cases e : v = s
    ·subst e; exact .inr ((cmS_iff hSq hrc hSlt hS9 hcy _).1 (.refl hS9)).2
    ·exact .inl (hdn v (by omega) h9)
   refine T.sub (O' := [rowI (aD z2) p.next.length 4 1 (bools (dnF p.next.length ds qs s p.next.length)), rowI mb mc 81 1 (bvals qs), oI z1 25 (pC p k), rowI sb sc 4 1 (bools ss), rowI ob oc 3 1 (nats o5)] ++ ((bitms 4 qs))) (by exact Sub.d (.d (.k (.k (.k (.k (.k .rf))))))) ?_
   refine T.rg (TO.qm rfl (TO.q (q_addN (a := s) (b := 1) rfl rfl (by omega)) (TO.qa rfl (TO.nl ?_))))
   exact ⟨s + 1, by omega, o5, dnF p.next.length ds qs s p.next.length, rfl, by omega, hol5, dnF_len, hFIN, hFIN2, (.of rfl)⟩
  refine TO.q (QT.toB (q_ld uT4 rfl rfl (rowO (mG 3 rfl)) (bools_atD hss)) (Bool.eq_false_iff.2 h35)) (TO.q (q_not rfl) (TO.qm rfl (TO.pd rfl rfl (TO.pd rfl rfl (TO.pd rfl rfl (TO.pd rfl rfl (TO.q (q_pick1 rfl rfl) (TO.nl ?_))))))))
  refine T.cond1 rfl ?_
  refine T.exit ?_
  
  refine T.rg (TO.qm rfl (TO.q (q_addN (a := s) (b := 1) rfl rfl (by omega)) (TO.qa rfl (TO.nl ?_))))
  exact ⟨s + 1, by omega, o2, ds, rfl, by omega, hol2, hdl, hRI, (fun v h8 h9 => by
    by_cases e : v = s
    ·rw [e] at h9 ⊢; first | exact hskip h9 | exact absurd h9 h35
    ·exact hdn v (by omega) h9), (.of rfl)⟩
 have hge29 : ¬ s < p.next.length := by omega
 refine T.exit ?_
 refine Res.drop ?_
 refine Res.zero Tryd.results56 ?_
 obtain ⟨hr8, hr9⟩ := hRI.done (n := p.next.length) (fun v h9 => hdn v (by have := hSlt v h9; omega) h9)
 exact ⟨[rowI sb sc 4 1 (bools ss), rowI ob oc 3 1 (nats o2)], (by exact Sub.d (.d (.d (.k (.k .z))))), o2, rfl, hol2, hr8, hr9⟩
end Go.Proofs.YtnikhiohindggaaDoor

