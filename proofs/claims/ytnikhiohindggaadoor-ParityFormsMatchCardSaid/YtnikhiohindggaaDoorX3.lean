/- Contracts of functions of the program (X3): what each call answers and that it leaves memory as it was. Conditions: those each theorem names. -/
import Derived.Test.YtnikhiohindggaaDoorCoreL
import Derived.Test.YtnikhiohindggaaDoorTar
import Derived.Test.YtnikhiohindggaaDoorX2
import Derived.Test.YtnikhiohindggaaDoorZb
set_option linter.unusedSectionVars false
set_option linter.unusedSimpArgs false
set_option linter.unusedVariables false
set_option linter.unnecessarySimpa false
set_option maxHeartbeats 8000000
set_option maxRecDepth 20000
namespace Go.Proofs.YtnikhiohindggaaDoor
open Go.Lx Go.RowKit _root_.Go.Proofs.Tryd
theorem refParQuo0 (w : World) [Tab Tryd.prog w] (p : Par) (k : DK) (h : AtP w p k) (hB : ParC p) :
  PureT Tryd.prog 28 [pV p k] w fun v N => ∃ nb nc fb fc qs, v = .tuple #[.agg (parCells (quoV p) nb nc fb fc).toArray, vI (checkP p : Int)] ∧ N = [rowI nb nc 23 1 (vals qs), rowI fb fc 3 1 (ints (quoV p).prio)] ++ itms 3 qs ∧ nums qs = (quoV p).next := by
 refine CallT.enter func28 rfl ntmps28 rfl ?_
 have hBn := hB.n; have hBf := hB.f
 have hvl := h.rows.1
 refine T.s (T.rg (TO.l rfl (l_box (v := (pV p k)) (cs := (pC p k)) rfl rfl (fun z1 => ?_))))
 refine TO.l rfl (l_alloc inf25 rfl (fun z2 => ?_))
 refine TO.qa rfl (TO.nl (T.s (T.s (T.rg (TO.q (q_la 1 uT25 rfl inf25 rfl rfl rfl) ?_)))))
 have hk14 := fun (w1 : World) (hI : Inv w [oI z2 25 [(vI 0), (vI 0), nS, nS], oI z1 25 (pC p k)] w1) => (haveI := tbz hI; refParCheck w1 p k (hI.atQ h) hB)
 refine TO.l rfl (l_call ent21 (CallT.op hk14) rfl ?_)
 clear hk14
 rintro vr O' ⟨N, rfl, rfl, rfl⟩
 refine TO.qa rfl (TO.nl (T.s (T.rg (TO.qm rfl (TO.q (q_neq rfl rfl) (TO.nl (T.condP rfl (fun hc => ?_) (fun hc => ?_))))))))
 ·have hlt16 : checkP p ≠ 0 := by omega
  refine T.s (T.nilRow 23 1 (T.nilRow 3 1 ?_))
  refine T.rg (TO.q (q_build plan25 inf25 rfl) (TO.qm rfl (TO.l rfl (l_sb (v := (.agg #[(vI 0), (vI 0), nS, nS])) (vs := [(vI 0), (vI 0), nS, nS]) 2 inf25 rfl rfl rfl rfl rfl rfl (by simp [putL]) ?_))))
  refine TO.qa rfl (TO.nl (T.ret (Res.drop ?_)))
  refine Res.cell1b (vI (checkP p : Int)) (i := 2) Tryd.results28 uT25 rfl inf25 rfl rfl rfl rfl ?_
  rw [quoV_no (by omega)]
  exact ⟨[rowI none 0 23 1 [], rowI none 0 3 1 []] ++ itms 3 [], (Sub.pick [0, 0] rfl), none, 0, none, 0, [], rfl, rfl, rfl⟩
 have hge16 : ¬ checkP p ≠ 0 := by omega
 have he0 : checkP p = 0 := by omega
 have hv : ValidP p := checkP_zero.1 he0
 have hn4 := hv.n4
 have h6 := hv.letN6
 have hs0 : Value.int .i64 p.start = vI ((p.start.toNat : Nat) : Int) := congrArg (Value.int .i64) (Int.toNat_of_nonneg hv.val.s0).symm
 refine T.skip (T.s (T.rg (TO.q (q_la 1 uT25 rfl inf25 rfl rfl rfl) ?_)))
 have hk20 := fun (w1 : World) (hI : Inv w [oI z2 25 [(vI 0), (vI 0), nS, nS], oI z1 25 (pC p k)] w1) => (haveI := tbz hI; bisimC w1 p k (hI.atQ h) hv)
 refine TO.l rfl (l_call ent59 (CallT.op hk20) rfl ?_)
 clear hk20
 rintro vr O' ⟨N, rfl, mb, mc, qs, rfl, rfl, hSq, hBB⟩
 refine TO.sub (O' := ([rowI mb mc 81 1 (bvals qs), oI z2 25 [(vI 0), (vI 0), nS, nS], oI z1 25 (pC p k)] ++ (bitms 4 qs))) (Sub.ca []) ?_
 refine TO.qa rfl (TO.nl (T.s (T.rg (TO.q (q_fa uT25 rfl inf3 rfl rfl) (TO.q (QT.cast (q_lb 2 uT3 rfl rfl rfl rfl) (v' := vI ((p.start.toNat : Nat) : Int)) hs0) (TO.l rfl (l_build1 (v := vI ((p.start.toNat : Nat) : Int)) uT23 inf3 rfl rfl rfl (fun z3 => ?_))))))))
 refine TO.qa rfl (TO.nl ?_)
 refine T.reset ([rowI (aD z3) 1 3 1 [vI ((p.start.toNat : Nat) : Int)], rowI mb mc 81 1 (bvals qs), oI z2 25 [(vI 0), (vI 0), nS, nS], oI z1 25 (pC p k)] ++ (bitms 4 qs)) [(0, (pV p k)), (1, (.pointer (aD z1))), (2, (.pointer (aD z2))), (3, vI 0), (4, vI (checkP p : Int)), (5, (.slice mb p.next.length mc)), (6, (.slice (aD z3) 1 1))] rfl (.of rfl) (fun ρ0 => ?_)
 refine T.s (T.rg (TO.q (q_fa uT25 rfl inf3 rfl rfl) (TO.q (q_lb 3 uT3 rfl rfl rfl rfl) (TO.q (q_build (cs := [(vI p.vars), (vI 0), nS, nS]) plan25 inf25 (by kernel_rfl)) (TO.l rfl (l_alloc inf25 rfl (fun z4 => ?_)))))))
 refine TO.l rfl (l_sb (v := (.agg #[(vI p.vars), (vI 0), nS, nS])) (vs := [(vI p.vars), (vI 0), nS, nS]) 0 inf25 rfl rfl rfl rfl rfl rfl (by simp [putL]) ?_)
 refine TO.nl (T.s (T.s (T.rg (TO.qa rfl (TO.nl (T.block (T.nilRow 23 1 (T.nilRow 3 1 ?_))))))))
 refine T.sub (O' := [rowI (aD z3) 1 3 1 [vI ((p.start.toNat : Nat) : Int)], rowI none 0 23 1 [], rowI none 0 3 1 [], rowI mb mc 81 1 (bvals qs), oI z4 25 [(vI p.vars), (vI 0), nS, nS], oI z2 25 [(vI 0), (vI 0), nS, nS], oI z1 25 (pC p k)] ++ ((bitms 4 qs) ++ (itms 3 []))) (Sub.cnt [] (by intro a; simp only [itms, bitms, oI, List.set_cons_zero, List.set_cons_succ, putL, List.cons_append, List.nil_append, List.append_nil, List.append_assoc, List.map_append, List.map_cons, List.map_nil, cnt_append, cnt_cons, cnt_nil, vI, nS, aD] <;> omega)) ?_
 refine T.loop (fun (i : Nat) ρ O => ∃ (lb : Option Addr) (lc : Nat) (xb : Option Addr) (xc : Nat) (fb : Option Addr) (fc : Nat) (rs : List Rec) (ps : List Int), O = ([rowI lb lc 3 1 (nats (qN (gB qs) p.d i)), rowI xb xc 23 1 (vals rs), rowI fb fc 3 1 (ints ps), rowI mb mc 81 1 (bvals qs), oI z4 25 [(vI p.vars), (vI 0), (.slice xb i xc), (.slice fb i fc)], oI z2 25 [(vI 0), (vI 0), nS, nS], oI z1 25 (pC p k)] ++ ((bitms 4 qs) ++ (itms 3 rs))) ∧ RqI p (gB qs) i (nums rs) ps ∧ Heads [(0, (pV p k)), (1, (.pointer (aD z1))), (2, (.pointer (aD z2))), (3, vI 0), (4, vI (checkP p : Int)), (5, (.slice mb p.next.length mc)), (6, (.slice lb ((qN (gB qs) p.d i).length) lc)), (7, (.pointer (aD z4))), (8, vI ((i : Nat) : Int))] ρ) (fun i => p.next.length - i) 0 ?_ ?_
 ·exact ⟨(aD z3), 1, none, 0, none, 0, [], [], rfl, RqI.start _ _, (.of rfl)⟩
 rintro i ρ O ⟨lb, lc, xb, xc, fb, fc, rs, ps, rfl, hR, hH⟩
 obtain ⟨ρ0, rfl⟩ := hH.elim
 clear hH
 have hrl := (RqI.len hv hBB hR).1
 have hpl := (RqI.len hv hBB hR).2
 have hrs : rs.length = i := by rw [← hrl, nums, List.length_map]
 refine T.s (T.s (T.rg (TO.qm rfl (TO.qm rfl (TO.q (q_len uT23 rfl) (TO.q (q_lss rfl rfl) (TO.nl (T.condP rfl (fun hc => ?_) (fun hc => ?_)))))))))
 ·have hlt30 : i < (qN (gB qs) p.d i).length := by omega
  have hi : i < (qN (gB qs) p.d i).length := by omega
  obtain ⟨s, hs⟩ : ∃ z, (qN (gB qs) p.d i)[i]? = some z := ⟨_, List.getElem?_eq_getElem hi⟩
  have hsn := RqI.sn hv hs
  have hin := RqI.lt hv hBB hi
  obtain ⟨v1, c1, g1, s1⟩ := h.rows.get hsn
  have hr1 : p.next[s].length = letN p.d := hv.val.len _ (List.getElem_mem hsn)
  have hsp : s < p.prio.length := by rw [hv.pl]; exact hsn
  refine T.skip (T.s (T.block (T.s (T.rg (TO.qa rfl (TO.nl (T.s (T.s (T.rg (TO.qa rfl (TO.nl (T.block (T.nilRow 3 1 ?_)))))))))))))
  refine T.loop (fun (x : Nat) ρ O => ∃ (lb2 : Option Addr) (lc2 : Nat) (rb : Option Addr) (rc : Nat), O = ([rowI rb rc 3 1 (ints (qRr p (gB qs) s x)), rowI lb2 lc2 3 1 (nats (qM (gB qs) p.d (qN (gB qs) p.d i) s x)), rowI xb xc 23 1 (vals rs), rowI fb fc 3 1 (ints ps), rowI mb mc 81 1 (bvals qs), oI z4 25 [(vI p.vars), (vI 0), (.slice xb i xc), (.slice fb i fc)], oI z2 25 [(vI 0), (vI 0), nS, nS], oI z1 25 (pC p k)] ++ ((bitms 4 qs) ++ (itms 3 rs))) ∧ x ≤ letN p.d ∧ Heads [(0, (pV p k)), (1, (.pointer (aD z1))), (2, (.pointer (aD z2))), (3, vI 0), (4, vI (checkP p : Int)), (5, (.slice mb p.next.length mc)), (6, (.slice lb2 ((qM (gB qs) p.d (qN (gB qs) p.d i) s x).length) lc2)), (7, (.pointer (aD z4))), (8, vI ((i : Nat) : Int)), (9, (.slice rb x rc)), (10, vI ((x : Nat) : Int))] ρ) (fun x => letN p.d - x) 0 ?_ ?_
  ·exact ⟨lb, lc, none, 0, rfl, Nat.zero_le _, (.of rfl)⟩
  rintro x ρ O ⟨lb2, lc2, rb, rc, rfl, hx, hH⟩
  obtain ⟨ρ0, rfl⟩ := hH.elim
  clear hH
  have hml := RqI.mlen hv hBB hs hx
  have hgs := natsM_at (p := p) (e := (gB qs)) (x := x) hs
  have hgl := natsM_lt (p := p) (e := (gB qs)) (x := x) hs
  refine T.s (T.s ?_)
  refine T.draws _ [(0, 0), (1, 0), (2, 0), (3, 0), (4, 0), (5, 0), (6, 0), (7, 0), (8, 0), (9, 0), (10, 0)] mixed (by kernel_rfl) (Sub.of (List.Sublist.refl _)) (fun _ _ _ h => h) ?_
  refine DO.q rfl (q_move rfl) (DO.q rfl (q_fa uT25 rfl inf22 rfl rfl) (DO.q rfl (q_lb 7 uT22 rfl rfl rfl rfl) (DO.q rfl (q_move rfl) (DO.q rfl (q_move rfl) (DO.q rfl (q_ix (i := i) uT23 inf3 rfl rfl (rowO (mG 1 rfl)) hgl (by rw [List.length_map]; exact hgl)) (DO.q rfl (q_ld uT3 rfl rfl (rowO (mG 1 rfl)) hgs) (DO.q rfl (q_ix (i := s) uT22 inf23 rfl rfl (Sl.o h.outer) hsn (hvl ▸ hsn)) (DO.q rfl (q_ld uT23 rfl rfl (Sl.o h.outer) g1) (DO.q rfl (q_len uT23 rfl) (DO.q rfl (q_lss rfl rfl) ?_))))))))))
  refine DO.done ?_
  refine T.condP rfl (fun hc => ?_) (fun hc => ?_)
  ·have hlt43 : x < p.next[s].length := by omega
   have hxl : x < letN p.d := by omega
   obtain ⟨hto, hxk, hx1, _⟩ := hv.to hsn hxl
   have hlt := RqI.letter hv hBB hs hxl
   refine T.skip (T.s (T.block (T.s ?_)))
   refine T.draws _ [(0, 0), (1, 0), (2, 0), (3, 0), (4, 0), (5, 0), (6, 0), (7, 0), (8, 0), (9, 0), (10, 0), (11, 0)] mixed (drawF_ok (by kernel_rfl)) (Sub.of (List.Sublist.refl _)) (fun _ _ _ h => h) ?_
   refine DO.q rfl (q_fa uT25 rfl inf22 rfl rfl) (DO.q rfl (q_lb 7 uT22 rfl rfl rfl rfl) (DO.q rfl (q_move rfl) (DO.q rfl (q_move rfl) (DO.q rfl (q_ix (i := i) uT23 inf3 rfl rfl (rowO (mG 1 rfl)) hgl (by rw [List.length_map]; exact hgl)) (DO.q rfl (q_ld uT3 rfl rfl (rowO (mG 1 rfl)) hgs) (DO.q rfl (q_ix (i := s) uT22 inf23 rfl rfl (Sl.o h.outer) hsn (hvl ▸ hsn)) (DO.q rfl (q_ld uT23 rfl rfl (Sl.o h.outer) g1) (DO.q rfl (q_move rfl) (DO.q rfl (q_ix (i := x) uT23 inf3 rfl rfl (Sl.o s1) hxk (by rw [List.length_map]; exact hxk)) (DO.q rfl (q_ld uT3 rfl rfl (Sl.o s1) hx1) (DO.q rfl (q_assign rfl) ?_)))))))))))
   refine DO.done ?_
   refine T.reset ([rowI rb rc 3 1 (ints (qRr p (gB qs) s x)), rowI lb2 lc2 3 1 (nats (qM (gB qs) p.d (qN (gB qs) p.d i) s x)), rowI xb xc 23 1 (vals rs), rowI fb fc 3 1 (ints ps), rowI mb mc 81 1 (bvals qs), oI z4 25 [(vI p.vars), (vI 0), (.slice xb i xc), (.slice fb i fc)], oI z2 25 [(vI 0), (vI 0), nS, nS], oI z1 25 (pC p k)] ++ ((bitms 4 qs) ++ (itms 3 rs))) [(0, (pV p k)), (1, (.pointer (aD z1))), (2, (.pointer (aD z2))), (3, vI 0), (4, vI (checkP p : Int)), (5, (.slice mb p.next.length mc)), (6, (.slice lb2 ((qM (gB qs) p.d (qN (gB qs) p.d i) s x).length) lc2)), (7, (.pointer (aD z4))), (8, vI ((i : Nat) : Int)), (9, (.slice rb x rc)), (10, vI ((x : Nat) : Int)), (11, vI ((toN p.d s x : Nat) : Int))] rfl (.of rfl) (fun ρ0 => ?_)
   refine T.s (T.rg (TO.qa rfl (TO.nl (T.s (T.block ?_)))))
   refine T.loop (fun (kk : Nat) ρ O => O = ([rowI rb rc 3 1 (ints (qRr p (gB qs) s x)), rowI lb2 lc2 3 1 (nats (qM (gB qs) p.d (qN (gB qs) p.d i) s x)), rowI xb xc 23 1 (vals rs), rowI fb fc 3 1 (ints ps), rowI mb mc 81 1 (bvals qs), oI z4 25 [(vI p.vars), (vI 0), (.slice xb i xc), (.slice fb i fc)], oI z2 25 [(vI 0), (vI 0), nS, nS], oI z1 25 (pC p k)] ++ ((bitms 4 qs) ++ (itms 3 rs))) ∧ kk ≤ qfind (gB qs) (toN p.d s x) (qM (gB qs) p.d (qN (gB qs) p.d i) s x) ∧ Heads [(0, (pV p k)), (1, (.pointer (aD z1))), (2, (.pointer (aD z2))), (3, vI 0), (4, vI (checkP p : Int)), (5, (.slice mb p.next.length mc)), (6, (.slice lb2 ((qM (gB qs) p.d (qN (gB qs) p.d i) s x).length) lc2)), (7, (.pointer (aD z4))), (8, vI ((i : Nat) : Int)), (9, (.slice rb x rc)), (10, vI ((x : Nat) : Int)), (11, vI ((toN p.d s x : Nat) : Int)), (12, vI ((kk : Nat) : Int))] ρ) (fun kk => (qM (gB qs) p.d (qN (gB qs) p.d i) s x).length - kk) 0 ?_ ?_
   ·exact ⟨rfl, Nat.zero_le _, (.of rfl)⟩
   rintro kk ρ O ⟨rfl, hkk, hH⟩
   obtain ⟨ρ0, rfl⟩ := hH.elim
   clear hH
   refine T.s (T.s (T.rg (TO.qm rfl (TO.qm rfl (TO.q (q_len uT23 rfl) ?_)))))
   by_cases h60 : ((kk : Nat) : Int) < ((qM (gB qs) p.d (qN (gB qs) p.d i) s x).length : Int)
   ·refine TO.q (QT.toB (q_lss rfl rfl) (decide_eq_true h60)) ?_
    refine TO.qm rfl ?_
    have hkl : kk < (qM (gB qs) p.d (qN (gB qs) p.d i) s x).length := by omega
    obtain ⟨c, hc9⟩ : ∃ z, (qM (gB qs) p.d (qN (gB qs) p.d i) s x)[kk] = z := ⟨_, rfl⟩
    have hcn : c < p.next.length := hc9 ▸ qM_lt hv (gB qs) (qN_lt hv (gB qs) i) hsn x hx _ (List.getElem_mem hkl)
    have hcq : c < qs.length := by rw [hSq.len]; exact hcn
    have htq : toN p.d s x < qs[c].xs.length := by rw [hSq.row _ (List.getElem_mem hcq)]; exact hto
    refine TO.gq rfl rfl (q_move rfl) (TO.gq rfl rfl (q_move rfl) (TO.gq rfl rfl (q_move rfl) (TO.gq rfl rfl (q_ix (i := kk) uT23 inf3 rfl rfl (rowO (mG 1 rfl)) hkl (by rw [List.length_map]; exact hkl)) (TO.gq rfl rfl (q_ld uT3 rfl rfl (rowO (mG 1 rfl)) (by rw [nats_get hkl, hc9])) (TO.gq rfl rfl (q_ix (i := c) uT87 inf81 rfl rfl (rowO (mG 4 rfl)) hcn (by rw [List.length_map]; exact hcq)) (TO.gq rfl rfl (q_ld uT81 rfl rfl (rowO (mG 4 rfl)) (bvalsK_at hcq)) (TO.gq rfl rfl (q_move rfl) ?_)))))))
    refine TO.gq rfl rfl (q_ix (i := (toN p.d s x)) uT81 inf4 rfl rfl (fun w9 hI9 => hI9.slOf (List.mem_append_right _ (List.mem_append_left _ (List.mem_map.2 ⟨qs[c], List.getElem_mem hcq, rfl⟩)))) htq (by rw [List.length_map]; exact htq)) (TO.gq rfl rfl (q_ld uT4 rfl rfl (fun w9 hI9 => hI9.slOf (List.mem_append_right _ (List.mem_append_left _ (List.mem_map.2 ⟨qs[c], List.getElem_mem hcq, rfl⟩)))) (bools_gB hcq htq)) (TO.gq rfl rfl (q_not rfl) (TO.q (q_pick1 rfl rfl) (TO.nl (T.condP (p := ¬ gB qs c (toN p.d s x) = true) (congrArg Value.bool (by cases gB qs c (toN p.d s x) <;> rfl)) (fun hc => ?_) (fun hc => ?_))))))
    ·have hst := qfind_step (e := (gB qs)) hkk hkl (by rw [hc9]; exact hc)
     refine T.skip (T.block (T.rg (TO.qm rfl (TO.q (q_addN (a := kk) (b := 1) rfl rfl (by omega)) (TO.qa rfl (TO.nl ?_))))))
     exact ⟨kk + 1, by omega, rfl, hst, (.of rfl)⟩
    have hfd := qfind_hit (e := (gB qs)) hkk hkl (by rw [hc9]; exact Decidable.not_not.1 hc)
    refine T.exit ?_
    refine T.s (T.s (T.rg (TO.qm rfl (TO.qm rfl (TO.q (q_len uT23 rfl) (TO.q (q_eql rfl rfl) (TO.nl (T.condP rfl (fun hc => ?_) (fun hc => ?_)))))))))
    ·have hlt79 : kk = (qM (gB qs) p.d (qN (gB qs) p.d i) s x).length := by omega
     have hfd : qfind (gB qs) (toN p.d s x) (qM (gB qs) p.d (qN (gB qs) p.d i) s x) = kk := by first | assumption | exact qfind_end hkk (by omega)
     have hE7 : qM (gB qs) p.d (qN (gB qs) p.d i) s (x + 1) = qM (gB qs) p.d (qN (gB qs) p.d i) s x ++ [toN p.d s x] := qadd_end (by omega)
     have hE8 : (qM (gB qs) p.d (qN (gB qs) p.d i) s x).length + 1 = (qM (gB qs) p.d (qN (gB qs) p.d i) s (x + 1)).length := by rw [hE7]; simp
     have hE2 : ints (qRr p (gB qs) s x) ++ [vI ((kk : Nat) : Int)] = ints (qRr p (gB qs) s (x + 1)) := qRr_app (hlt.trans hfd)
     have hE1 : nats (qM (gB qs) p.d (qN (gB qs) p.d i) s x) ++ [vI ((toN p.d s x : Nat) : Int)] = nats (qM (gB qs) p.d (qN (gB qs) p.d i) s (x + 1)) := by rw [hE7]; simp
     refine T.rg (TO.qm rfl (TO.qm rfl (TO.l rfl (l_build1 (v := vI ((toN p.d s x : Nat) : Int)) uT23 inf3 rfl rfl rfl (fun z5 => ?_)))))
     refine TO.l rfl (l_append 2 uT23 uT23 inf3 rfl rfl rfl rfl (by simp [qRr_len]) (by decide) (Src.row (j := 0) rfl (by simp)) (by simp [oneB]) (by omega) (by decide) (by decide) (fun z6 zc7 => ?_))
     refine TO.qa rfl ?_
     refine TO.sub (O' := ([rowI rb rc 3 1 (ints (qRr p (gB qs) s x)), rowI z6 zc7 3 1 ((nats (qM (gB qs) p.d (qN (gB qs) p.d i) s x)) ++ [vI ((toN p.d s x : Nat) : Int)]), rowI xb xc 23 1 (vals rs), rowI fb fc 3 1 (ints ps), rowI mb mc 81 1 (bvals qs), oI z4 25 [(vI p.vars), (vI 0), (.slice xb i xc), (.slice fb i fc)], oI z2 25 [(vI 0), (vI 0), nS, nS], oI z1 25 (pC p k)] ++ ((bitms 4 qs) ++ (itms 3 rs)))) (Sub.pickR [1, 1, 1, 1, 1, 1, 1, 1] [rowI (aD z5) 1 3 1 [vI ((toN p.d s x : Nat) : Int)], rowI rb rc 3 1 (ints (qRr p (gB qs) s x)), rowI z6 zc7 3 1 ((nats (qM (gB qs) p.d (qN (gB qs) p.d i) s x)) ++ [vI ((toN p.d s x : Nat) : Int)]), rowI xb xc 23 1 (vals rs), rowI fb fc 3 1 (ints ps), rowI mb mc 81 1 (bvals qs), oI z4 25 [(vI p.vars), (vI 0), (.slice xb i xc), (.slice fb i fc)], oI z2 25 [(vI 0), (vI 0), nS, nS], oI z1 25 (pC p k)] ((bitms 4 qs) ++ (itms 3 rs)) rfl rfl) ?_
     refine TO.nl (T.rg (TO.qm rfl (TO.qm rfl (TO.l rfl (l_build1 (v := vI ((kk : Nat) : Int)) uT23 inf3 rfl rfl rfl (fun z8 => ?_))))))
     refine TO.l rfl (l_append 1 uT23 uT23 inf3 rfl rfl rfl rfl (by simp [qRr_len]) (by decide) (Src.row (j := 0) rfl (by simp)) (by simp [oneB]) (by omega) (by decide) (by decide) (fun z9 zc10 => ?_))
     refine TO.qa rfl ?_
     refine TO.sub (O' := ([rowI z9 zc10 3 1 ((ints (qRr p (gB qs) s x)) ++ [vI ((kk : Nat) : Int)]), rowI z6 zc7 3 1 ((nats (qM (gB qs) p.d (qN (gB qs) p.d i) s x)) ++ [vI ((toN p.d s x : Nat) : Int)]), rowI xb xc 23 1 (vals rs), rowI fb fc 3 1 (ints ps), rowI mb mc 81 1 (bvals qs), oI z4 25 [(vI p.vars), (vI 0), (.slice xb i xc), (.slice fb i fc)], oI z2 25 [(vI 0), (vI 0), nS, nS], oI z1 25 (pC p k)] ++ ((bitms 4 qs) ++ (itms 3 rs)))) (Sub.pickR [1, 1, 1, 1, 1, 1, 1, 1] [rowI (aD z8) 1 3 1 [vI ((kk : Nat) : Int)], rowI z9 zc10 3 1 ((ints (qRr p (gB qs) s x)) ++ [vI ((kk : Nat) : Int)]), rowI z6 zc7 3 1 ((nats (qM (gB qs) p.d (qN (gB qs) p.d i) s x)) ++ [vI ((toN p.d s x : Nat) : Int)]), rowI xb xc 23 1 (vals rs), rowI fb fc 3 1 (ints ps), rowI mb mc 81 1 (bvals qs), oI z4 25 [(vI p.vars), (vI 0), (.slice xb i xc), (.slice fb i fc)], oI z2 25 [(vI 0), (vI 0), nS, nS], oI z1 25 (pC p k)] ((bitms 4 qs) ++ (itms 3 rs)) rfl rfl) ?_
     refine TO.nl (T.rg (TO.qm rfl (TO.q (q_addN (a := x) (b := 1) rfl rfl (by omega)) (TO.qa rfl (TO.nl ?_)))))
     exact ⟨x + 1, by omega, z6, zc7, z9, zc10, by rw [hE1, hE2], by omega, ⟨rfl, rfl, rfl, rfl, rfl, rfl, congrArg (fun n9 : Nat => Value.slice z6 n9 zc7) hE8, rfl, rfl, rfl, rfl, trivial⟩⟩
    have hge79 : ¬ kk = (qM (gB qs) p.d (qN (gB qs) p.d i) s x).length := by omega
    have hfd : qfind (gB qs) (toN p.d s x) (qM (gB qs) p.d (qN (gB qs) p.d i) s x) = kk := by first | assumption | exact qfind_end hkk (by omega)
    have hE7 : qM (gB qs) p.d (qN (gB qs) p.d i) s (x + 1) = qM (gB qs) p.d (qN (gB qs) p.d i) s x := qadd_hit (by have := qfind_le (e := (gB qs)) (t := toN p.d s x) (l := qM (gB qs) p.d (qN (gB qs) p.d i) s x); omega)
    have hE8 : (qM (gB qs) p.d (qN (gB qs) p.d i) s x).length = (qM (gB qs) p.d (qN (gB qs) p.d i) s (x + 1)).length := by rw [hE7]
    have hE2 : ints (qRr p (gB qs) s x) ++ [vI ((kk : Nat) : Int)] = ints (qRr p (gB qs) s (x + 1)) := qRr_app (hlt.trans hfd)
    have hE1 : nats (qM (gB qs) p.d (qN (gB qs) p.d i) s x) = nats (qM (gB qs) p.d (qN (gB qs) p.d i) s (x + 1)) := by rw [hE7]
    refine T.skip (T.rg (TO.qm rfl (TO.qm rfl (TO.l rfl (l_build1 (v := vI ((kk : Nat) : Int)) uT23 inf3 rfl rfl rfl (fun z11 => ?_))))))
    refine TO.l rfl (l_append 1 uT23 uT23 inf3 rfl rfl rfl rfl (by simp [qRr_len]) (by decide) (Src.row (j := 0) rfl (by simp)) (by simp [oneB]) (by omega) (by decide) (by decide) (fun z12 zc13 => ?_))
    refine TO.qa rfl ?_
    refine TO.sub (O' := ([rowI z12 zc13 3 1 ((ints (qRr p (gB qs) s x)) ++ [vI ((kk : Nat) : Int)]), rowI lb2 lc2 3 1 (nats (qM (gB qs) p.d (qN (gB qs) p.d i) s x)), rowI xb xc 23 1 (vals rs), rowI fb fc 3 1 (ints ps), rowI mb mc 81 1 (bvals qs), oI z4 25 [(vI p.vars), (vI 0), (.slice xb i xc), (.slice fb i fc)], oI z2 25 [(vI 0), (vI 0), nS, nS], oI z1 25 (pC p k)] ++ ((bitms 4 qs) ++ (itms 3 rs)))) (Sub.pickR [1, 1, 1, 1, 1, 1, 1, 1] [rowI (aD z11) 1 3 1 [vI ((kk : Nat) : Int)], rowI z12 zc13 3 1 ((ints (qRr p (gB qs) s x)) ++ [vI ((kk : Nat) : Int)]), rowI lb2 lc2 3 1 (nats (qM (gB qs) p.d (qN (gB qs) p.d i) s x)), rowI xb xc 23 1 (vals rs), rowI fb fc 3 1 (ints ps), rowI mb mc 81 1 (bvals qs), oI z4 25 [(vI p.vars), (vI 0), (.slice xb i xc), (.slice fb i fc)], oI z2 25 [(vI 0), (vI 0), nS, nS], oI z1 25 (pC p k)] ((bitms 4 qs) ++ (itms 3 rs)) rfl rfl) ?_
    refine TO.nl (T.rg (TO.qm rfl (TO.q (q_addN (a := x) (b := 1) rfl rfl (by omega)) (TO.qa rfl (TO.nl ?_)))))
    exact ⟨x + 1, by omega, lb2, lc2, z12, zc13, by rw [hE1, hE2], by omega, ⟨rfl, rfl, rfl, rfl, rfl, rfl, congrArg (fun n9 : Nat => Value.slice lb2 n9 lc2) hE8, rfl, rfl, rfl, rfl, trivial⟩⟩
   refine TO.q (QT.toB (q_lss rfl rfl) (decide_eq_false h60)) (TO.qm rfl (TO.pd rfl rfl (TO.pd rfl rfl (TO.pd rfl rfl (TO.pd rfl rfl (TO.pd rfl rfl (TO.pd rfl rfl (TO.pd rfl rfl ?_))))))))
   refine TO.pd rfl rfl (TO.pd rfl rfl (TO.pd rfl rfl (TO.pd rfl rfl (TO.q (q_pick0 rfl rfl) (TO.nl (T.cond0 rfl ?_))))))
   refine T.exit ?_
   refine T.s (T.s (T.rg (TO.qm rfl (TO.qm rfl (TO.q (q_len uT23 rfl) (TO.q (q_eql rfl rfl) (TO.nl (T.condP rfl (fun hc => ?_) (fun hc => ?_)))))))))
   ·have hlt79 : kk = (qM (gB qs) p.d (qN (gB qs) p.d i) s x).length := by omega
    have hfd : qfind (gB qs) (toN p.d s x) (qM (gB qs) p.d (qN (gB qs) p.d i) s x) = kk := by first | assumption | exact qfind_end hkk (by omega)
    have hE7 : qM (gB qs) p.d (qN (gB qs) p.d i) s (x + 1) = qM (gB qs) p.d (qN (gB qs) p.d i) s x ++ [toN p.d s x] := qadd_end (by omega)
    have hE8 : (qM (gB qs) p.d (qN (gB qs) p.d i) s x).length + 1 = (qM (gB qs) p.d (qN (gB qs) p.d i) s (x + 1)).length := by rw [hE7]; simp
    have hE2 : ints (qRr p (gB qs) s x) ++ [vI ((kk : Nat) : Int)] = ints (qRr p (gB qs) s (x + 1)) := qRr_app (hlt.trans hfd)
    have hE1 : nats (qM (gB qs) p.d (qN (gB qs) p.d i) s x) ++ [vI ((toN p.d s x : Nat) : Int)] = nats (qM (gB qs) p.d (qN (gB qs) p.d i) s (x + 1)) := by rw [hE7]; simp
    refine T.rg (TO.qm rfl (TO.qm rfl (TO.l rfl (l_build1 (v := vI ((toN p.d s x : Nat) : Int)) uT23 inf3 rfl rfl rfl (fun z14 => ?_)))))
    refine TO.l rfl (l_append 2 uT23 uT23 inf3 rfl rfl rfl rfl (by simp [qRr_len]) (by decide) (Src.row (j := 0) rfl (by simp)) (by simp [oneB]) (by omega) (by decide) (by decide) (fun z15 zc16 => ?_))
    refine TO.qa rfl ?_
    refine TO.sub (O' := ([rowI rb rc 3 1 (ints (qRr p (gB qs) s x)), rowI z15 zc16 3 1 ((nats (qM (gB qs) p.d (qN (gB qs) p.d i) s x)) ++ [vI ((toN p.d s x : Nat) : Int)]), rowI xb xc 23 1 (vals rs), rowI fb fc 3 1 (ints ps), rowI mb mc 81 1 (bvals qs), oI z4 25 [(vI p.vars), (vI 0), (.slice xb i xc), (.slice fb i fc)], oI z2 25 [(vI 0), (vI 0), nS, nS], oI z1 25 (pC p k)] ++ ((bitms 4 qs) ++ (itms 3 rs)))) (Sub.pickR [1, 1, 1, 1, 1, 1, 1, 1] [rowI (aD z14) 1 3 1 [vI ((toN p.d s x : Nat) : Int)], rowI rb rc 3 1 (ints (qRr p (gB qs) s x)), rowI z15 zc16 3 1 ((nats (qM (gB qs) p.d (qN (gB qs) p.d i) s x)) ++ [vI ((toN p.d s x : Nat) : Int)]), rowI xb xc 23 1 (vals rs), rowI fb fc 3 1 (ints ps), rowI mb mc 81 1 (bvals qs), oI z4 25 [(vI p.vars), (vI 0), (.slice xb i xc), (.slice fb i fc)], oI z2 25 [(vI 0), (vI 0), nS, nS], oI z1 25 (pC p k)] ((bitms 4 qs) ++ (itms 3 rs)) rfl rfl) ?_
    refine TO.nl (T.rg (TO.qm rfl (TO.qm rfl (TO.l rfl (l_build1 (v := vI ((kk : Nat) : Int)) uT23 inf3 rfl rfl rfl (fun z17 => ?_))))))
    refine TO.l rfl (l_append 1 uT23 uT23 inf3 rfl rfl rfl rfl (by simp [qRr_len]) (by decide) (Src.row (j := 0) rfl (by simp)) (by simp [oneB]) (by omega) (by decide) (by decide) (fun z18 zc19 => ?_))
    refine TO.qa rfl ?_
    refine TO.sub (O' := ([rowI z18 zc19 3 1 ((ints (qRr p (gB qs) s x)) ++ [vI ((kk : Nat) : Int)]), rowI z15 zc16 3 1 ((nats (qM (gB qs) p.d (qN (gB qs) p.d i) s x)) ++ [vI ((toN p.d s x : Nat) : Int)]), rowI xb xc 23 1 (vals rs), rowI fb fc 3 1 (ints ps), rowI mb mc 81 1 (bvals qs), oI z4 25 [(vI p.vars), (vI 0), (.slice xb i xc), (.slice fb i fc)], oI z2 25 [(vI 0), (vI 0), nS, nS], oI z1 25 (pC p k)] ++ ((bitms 4 qs) ++ (itms 3 rs)))) (Sub.pickR [1, 1, 1, 1, 1, 1, 1, 1] [rowI (aD z17) 1 3 1 [vI ((kk : Nat) : Int)], rowI z18 zc19 3 1 ((ints (qRr p (gB qs) s x)) ++ [vI ((kk : Nat) : Int)]), rowI z15 zc16 3 1 ((nats (qM (gB qs) p.d (qN (gB qs) p.d i) s x)) ++ [vI ((toN p.d s x : Nat) : Int)]), rowI xb xc 23 1 (vals rs), rowI fb fc 3 1 (ints ps), rowI mb mc 81 1 (bvals qs), oI z4 25 [(vI p.vars), (vI 0), (.slice xb i xc), (.slice fb i fc)], oI z2 25 [(vI 0), (vI 0), nS, nS], oI z1 25 (pC p k)] ((bitms 4 qs) ++ (itms 3 rs)) rfl rfl) ?_
    refine TO.nl (T.rg (TO.qm rfl (TO.q (q_addN (a := x) (b := 1) rfl rfl (by omega)) (TO.qa rfl (TO.nl ?_)))))
    exact ⟨x + 1, by omega, z15, zc16, z18, zc19, by rw [hE1, hE2], by omega, ⟨rfl, rfl, rfl, rfl, rfl, rfl, congrArg (fun n9 : Nat => Value.slice z15 n9 zc16) hE8, rfl, rfl, rfl, rfl, trivial⟩⟩
   have hge79 : ¬ kk = (qM (gB qs) p.d (qN (gB qs) p.d i) s x).length := by omega
   have hfd : qfind (gB qs) (toN p.d s x) (qM (gB qs) p.d (qN (gB qs) p.d i) s x) = kk := by first | assumption | exact qfind_end hkk (by omega)
   have hE7 : qM (gB qs) p.d (qN (gB qs) p.d i) s (x + 1) = qM (gB qs) p.d (qN (gB qs) p.d i) s x := qadd_hit (by have := qfind_le (e := (gB qs)) (t := toN p.d s x) (l := qM (gB qs) p.d (qN (gB qs) p.d i) s x); omega)
   have hE8 : (qM (gB qs) p.d (qN (gB qs) p.d i) s x).length = (qM (gB qs) p.d (qN (gB qs) p.d i) s (x + 1)).length := by rw [hE7]
   have hE2 : ints (qRr p (gB qs) s x) ++ [vI ((kk : Nat) : Int)] = ints (qRr p (gB qs) s (x + 1)) := qRr_app (hlt.trans hfd)
   have hE1 : nats (qM (gB qs) p.d (qN (gB qs) p.d i) s x) = nats (qM (gB qs) p.d (qN (gB qs) p.d i) s (x + 1)) := by rw [hE7]
   refine T.skip (T.rg (TO.qm rfl (TO.qm rfl (TO.l rfl (l_build1 (v := vI ((kk : Nat) : Int)) uT23 inf3 rfl rfl rfl (fun z20 => ?_))))))
   refine TO.l rfl (l_append 1 uT23 uT23 inf3 rfl rfl rfl rfl (by simp [qRr_len]) (by decide) (Src.row (j := 0) rfl (by simp)) (by simp [oneB]) (by omega) (by decide) (by decide) (fun z21 zc22 => ?_))
   refine TO.qa rfl ?_
   refine TO.sub (O' := ([rowI z21 zc22 3 1 ((ints (qRr p (gB qs) s x)) ++ [vI ((kk : Nat) : Int)]), rowI lb2 lc2 3 1 (nats (qM (gB qs) p.d (qN (gB qs) p.d i) s x)), rowI xb xc 23 1 (vals rs), rowI fb fc 3 1 (ints ps), rowI mb mc 81 1 (bvals qs), oI z4 25 [(vI p.vars), (vI 0), (.slice xb i xc), (.slice fb i fc)], oI z2 25 [(vI 0), (vI 0), nS, nS], oI z1 25 (pC p k)] ++ ((bitms 4 qs) ++ (itms 3 rs)))) (Sub.pickR [1, 1, 1, 1, 1, 1, 1, 1] [rowI (aD z20) 1 3 1 [vI ((kk : Nat) : Int)], rowI z21 zc22 3 1 ((ints (qRr p (gB qs) s x)) ++ [vI ((kk : Nat) : Int)]), rowI lb2 lc2 3 1 (nats (qM (gB qs) p.d (qN (gB qs) p.d i) s x)), rowI xb xc 23 1 (vals rs), rowI fb fc 3 1 (ints ps), rowI mb mc 81 1 (bvals qs), oI z4 25 [(vI p.vars), (vI 0), (.slice xb i xc), (.slice fb i fc)], oI z2 25 [(vI 0), (vI 0), nS, nS], oI z1 25 (pC p k)] ((bitms 4 qs) ++ (itms 3 rs)) rfl rfl) ?_
   refine TO.nl (T.rg (TO.qm rfl (TO.q (q_addN (a := x) (b := 1) rfl rfl (by omega)) (TO.qa rfl (TO.nl ?_)))))
   exact ⟨x + 1, by omega, lb2, lc2, z21, zc22, by rw [hE1, hE2], by omega, ⟨rfl, rfl, rfl, rfl, rfl, rfl, congrArg (fun n9 : Nat => Value.slice lb2 n9 lc2) hE8, rfl, rfl, rfl, rfl, trivial⟩⟩
  have hge43 : ¬ x < p.next[s].length := by omega
  have hxe : x = letN p.d := by omega
  have hE6 : qN (gB qs) p.d (i + 1) = qM (gB qs) p.d (qN (gB qs) p.d i) s x := by rw [hxe]; exact qN_step hs
  have hE9 : (qM (gB qs) p.d (qN (gB qs) p.d i) s x).length = (qN (gB qs) p.d (i + 1)).length := by rw [hE6]
  have hE5 : nats (qM (gB qs) p.d (qN (gB qs) p.d i) s x) = nats (qN (gB qs) p.d (i + 1)) := by rw [hE6]
  have hnx := RqI.next hv hBB hR hs
  rw [← hxe, ← numsK_snoc (q := ⟨rb, rc, qRr p (gB qs) s x⟩)] at hnx
  have hE3 : vals rs ++ [.slice rb x rc] = vals (rs ++ [⟨rb, rc, qRr p (gB qs) s x⟩]) := by simp [Rec.val, qRr_len]
  have hE4 : ints ps ++ [vI ((prN p s : Nat) : Int)] = ints (ps ++ [((prN p s : Nat) : Int)]) := by simp
  refine T.exit ?_
  refine T.s (T.rg (TO.q (q_fa uT25 rfl inf22 rfl rfl) (TO.q (q_lb 5 uT22 rfl rfl rfl rfl) (TO.qm rfl (TO.l rfl (l_build1 (v := (.slice rb x rc)) uT22 inf23 rfl rfl rfl (fun z23 => ?_)))))))
  refine TO.l rfl (l_append 3 uT22 uT22 inf23 rfl rfl rfl rfl (by simp [hrs]) (by decide) (Src.row (j := 0) rfl (by simp)) (by simp [oneB]) (by omega) (by decide) (by decide) (fun z24 zc25 => ?_))
  refine TO.q (q_fa uT25 rfl inf22 rfl rfl) (TO.l rfl (l_sb (v := (.slice z24 (i + 1) zc25)) (vs := [(.slice z24 (i + 1) zc25)]) 6 inf22 rfl rfl rfl rfl rfl rfl (by simp [putL]) ?_))
  refine TO.sub (O' := ([rowI rb rc 3 1 (ints (qRr p (gB qs) s x)), rowI lb2 lc2 3 1 (nats (qM (gB qs) p.d (qN (gB qs) p.d i) s x)), rowI z24 zc25 23 1 ((vals rs) ++ [(.slice rb x rc)]), rowI fb fc 3 1 (ints ps), rowI mb mc 81 1 (bvals qs), oI z4 25 [(vI p.vars), (vI 0), (.slice z24 (i + 1) zc25), (.slice fb i fc)], oI z2 25 [(vI 0), (vI 0), nS, nS], oI z1 25 (pC p k)] ++ ((bitms 4 qs) ++ (itms 3 rs)))) (Sub.pickR [1, 1, 1, 1, 1, 1, 1, 1] [rowI (aD z23) 1 23 1 [(.slice rb x rc)], rowI rb rc 3 1 (ints (qRr p (gB qs) s x)), rowI lb2 lc2 3 1 (nats (qM (gB qs) p.d (qN (gB qs) p.d i) s x)), rowI z24 zc25 23 1 ((vals rs) ++ [(.slice rb x rc)]), rowI fb fc 3 1 (ints ps), rowI mb mc 81 1 (bvals qs), oI z4 25 [(vI p.vars), (vI 0), (.slice z24 (i + 1) zc25), (.slice fb i fc)], oI z2 25 [(vI 0), (vI 0), nS, nS], oI z1 25 (pC p k)] ((bitms 4 qs) ++ (itms 3 rs)) rfl rfl) ?_
  refine TO.nl ?_
  refine T.draws [rowI rb rc 3 1 (ints (qRr p (gB qs) s x)), rowI lb2 lc2 3 1 (nats (qM (gB qs) p.d (qN (gB qs) p.d i) s x)), rowI z24 zc25 23 1 ((vals rs) ++ [(.slice rb x rc)]), rowI mb mc 81 1 (bvals qs), oI z4 25 [(vI p.vars), (vI 0), (.slice z24 (i + 1) zc25), (.slice fb i fc)], oI z2 25 [(vI 0), (vI 0), nS, nS], oI z1 25 (pC p k)] [(0, 0), (1, 0), (2, 0), (3, 0), (4, 0), (5, 0), (6, 0), (7, 0), (8, 0), (9, 0), (10, 1), (11, 2), (12, 2), (13, 2)] mixed (drawF_ok (by kernel_rfl)) (Sub.pick0 [0, 0, 0, 1, 1, 1, 1] [rowI rb rc 3 1 (ints (qRr p (gB qs) s x)), rowI lb2 lc2 3 1 (nats (qM (gB qs) p.d (qN (gB qs) p.d i) s x)), rowI z24 zc25 23 1 ((vals rs) ++ [(.slice rb x rc)]), rowI fb fc 3 1 (ints ps), rowI mb mc 81 1 (bvals qs), oI z4 25 [(vI p.vars), (vI 0), (.slice z24 (i + 1) zc25), (.slice fb i fc)], oI z2 25 [(vI 0), (vI 0), nS, nS], oI z1 25 (pC p k)] ((bitms 4 qs) ++ (itms 3 rs)) rfl rfl) (fun _ _ _ h => h) ?_
  refine DO.q rfl (q_fa uT25 rfl inf23 rfl rfl) (DO.q rfl (q_lb 4 uT23 rfl rfl rfl rfl) (DO.q rfl (q_fa uT25 rfl inf23 rfl rfl) (DO.q rfl (q_lb 6 uT23 rfl rfl rfl rfl) (DO.q rfl (q_move rfl) (DO.q rfl (q_move rfl) (DO.q rfl (q_ix (i := i) uT23 inf3 rfl rfl (rowO (mG 1 rfl)) hgl (by rw [List.length_map]; exact hgl)) (DO.q rfl (q_ld uT3 rfl rfl (rowO (mG 1 rfl)) hgs) ?_)))))))
  refine DO.q rfl (q_ix (i := s) uT23 inf3 rfl rfl (Sl.o h.prio) hsp (by rw [List.length_map]; exact hsp)) (DO.q rfl (q_ld uT3 rfl rfl (Sl.o h.prio) (by rw [ints, List.getElem?_map, hv.prAt hsn]; rfl)) ?_)
  refine DO.loud rfl rfl (l_build1 (v := vI ((prN p s : Nat) : Int)) uT23 inf3 rfl rfl rfl (fun z26 => ⟨Sub.pick0 [1, 1, 1, 2, 2, 2, 2] [rowI (aD z26) 1 3 1 [vI ((prN p s : Nat) : Int)], rowI rb rc 3 1 (ints (qRr p (gB qs) s x)), rowI lb2 lc2 3 1 (nats (qM (gB qs) p.d (qN (gB qs) p.d i) s x)), rowI z24 zc25 23 1 ((vals rs) ++ [(.slice rb x rc)]), rowI fb fc 3 1 (ints ps), rowI mb mc 81 1 (bvals qs), oI z4 25 [(vI p.vars), (vI 0), (.slice z24 (i + 1) zc25), (.slice fb i fc)], oI z2 25 [(vI 0), (vI 0), nS, nS], oI z1 25 (pC p k)] ((bitms 4 qs) ++ (itms 3 rs)) rfl rfl, ?_⟩))
  refine DO.last rfl rfl (l_append 4 uT23 uT23 inf3 rfl rfl rfl rfl (by simp [hpl]) (by decide) (Src.row (j := 0) rfl (by simp)) (by simp [oneB]) (by omega) (by decide) (by decide) (fun z27 zc28 => ?_))
  refine DO.last rfl rfl (LT.oq rfl rfl (q_fa uT25 rfl inf23 rfl rfl) ?_)
  refine DO.last rfl rfl (l_sb (v := (.slice z27 (i + 1) zc28)) (vs := [(.slice z27 (i + 1) zc28)]) 6 inf23 rfl rfl rfl rfl rfl rfl (by simp [putL]) ?_)
  refine DO.sub (O' := ([rowI rb rc 3 1 (ints (qRr p (gB qs) s x)), rowI lb2 lc2 3 1 (nats (qM (gB qs) p.d (qN (gB qs) p.d i) s x)), rowI z24 zc25 23 1 ((vals rs) ++ [(.slice rb x rc)]), rowI z27 zc28 3 1 ((ints ps) ++ [vI ((prN p s : Nat) : Int)]), rowI mb mc 81 1 (bvals qs), oI z4 25 [(vI p.vars), (vI 0), (.slice z24 (i + 1) zc25), (.slice z27 (i + 1) zc28)], oI z2 25 [(vI 0), (vI 0), nS, nS], oI z1 25 (pC p k)] ++ ((bitms 4 qs) ++ (itms 3 rs)))) (Sub.pickR [1, 1, 1, 1, 1, 1, 1, 1] [rowI (aD z26) 1 3 1 [vI ((prN p s : Nat) : Int)], rowI rb rc 3 1 (ints (qRr p (gB qs) s x)), rowI lb2 lc2 3 1 (nats (qM (gB qs) p.d (qN (gB qs) p.d i) s x)), rowI z24 zc25 23 1 ((vals rs) ++ [(.slice rb x rc)]), rowI z27 zc28 3 1 ((ints ps) ++ [vI ((prN p s : Nat) : Int)]), rowI mb mc 81 1 (bvals qs), oI z4 25 [(vI p.vars), (vI 0), (.slice z24 (i + 1) zc25), (.slice z27 (i + 1) zc28)], oI z2 25 [(vI 0), (vI 0), nS, nS], oI z1 25 (pC p k)] ((bitms 4 qs) ++ (itms 3 rs)) rfl rfl) ?_
  refine DO.done ?_
  refine T.rg (TO.qm rfl (TO.q (q_addN (a := i) (b := 1) rfl rfl (by omega)) (TO.qa rfl ?_)))
  have hR9 : rowI rb rc 3 1 (ints (qRr p (gB qs) s x)) = Rec.itm 3 ⟨rb, rc, qRr p (gB qs) s x⟩ := rfl
  refine TO.sub (O' := [rowI lb2 lc2 3 1 (nats (qM (gB qs) p.d (qN (gB qs) p.d i) s x)), rowI z24 zc25 23 1 ((vals rs) ++ [(.slice rb x rc)]), rowI z27 zc28 3 1 ((ints ps) ++ [vI ((prN p s : Nat) : Int)]), rowI mb mc 81 1 (bvals qs), oI z4 25 [(vI p.vars), (vI 0), (.slice z24 (i + 1) zc25), (.slice z27 (i + 1) zc28)], oI z2 25 [(vI 0), (vI 0), nS, nS], oI z1 25 (pC p k)] ++ ((bitms 4 qs) ++ (itms 3 (rs ++ [⟨rb, rc, qRr p (gB qs) s x⟩])))) (by rw [hR9]; exact Sub.cnt [] (by intro a; simp only [itms, bitms, oI, List.set_cons_zero, List.set_cons_succ, putL, List.cons_append, List.nil_append, List.append_nil, List.append_assoc, List.map_append, List.map_cons, List.map_nil, cnt_append, cnt_cons, cnt_nil, vI, nS, aD] <;> omega)) ?_
  refine TO.nl ?_
  exact ⟨i + 1, by omega, lb2, lc2, z24, zc25, z27, zc28, rs ++ [⟨rb, rc, qRr p (gB qs) s x⟩], ps ++ [((prN p s : Nat) : Int)], by rw [hE3, hE4, hE5], hnx, ⟨rfl, rfl, rfl, rfl, rfl, rfl, congrArg (fun n9 : Nat => Value.slice lb2 n9 lc2) hE9, rfl, rfl, trivial⟩⟩
 have hge30 : ¬ i < (qN (gB qs) p.d i).length := by omega
 have hdn := RqI.done hv hBB hR (by omega)
 refine T.exit ?_
 refine T.s (T.rg (TO.q (q_la 4 uT25 rfl inf25 rfl rfl rfl) (TO.l rfl (l_sb (v := (.agg #[(vI p.vars), (vI 0), (.slice xb i xc), (.slice fb i fc)])) (vs := [(vI p.vars), (vI 0), (.slice xb i xc), (.slice fb i fc)]) 5 inf25 rfl rfl rfl rfl rfl rfl (by simp [putL]) ?_))))
 refine TO.qa rfl (TO.nl (T.ret (Res.drop ?_)))
 refine Res.cell1b (vI 0) (i := 5) Tryd.results28 uT25 rfl inf25 rfl rfl rfl rfl ?_
 rw [(quoV_of he0 hBB).trans hdn.symm, he0]
 exact ⟨[rowI xb xc 23 1 (vals rs), rowI fb fc 3 1 (ints ps)] ++ itms 3 rs, Sub.cnt ([rowI lb lc 3 1 (nats (qN (gB qs) p.d i)), rowI mb mc 81 1 (bvals qs), oI z4 25 [(vI p.vars), (vI 0), (.slice xb i xc), (.slice fb i fc)], oI z2 25 [(vI p.vars), (vI 0), (.slice xb i xc), (.slice fb i fc)], oI z1 25 (pC p k)] ++ (bitms 4 qs)) (by intro a; simp only [itms, bitms, oI, List.set_cons_zero, List.set_cons_succ, putL, List.cons_append, List.nil_append, List.append_nil, List.append_assoc, List.map_append, List.map_cons, List.map_nil, cnt_append, cnt_cons, cnt_nil, vI, nS, aD] <;> omega), xb, xc, fb, fc, rs, (by
   show _ = Value.tuple #[Value.agg #[vI p.vars, vI 0, .slice xb (nums rs).length xc, .slice fb ps.length fc], vI 0]
   rw [hrl, hpl]; first | done | rfl), rfl, rfl⟩
theorem refParQuo (w : World) [Tab Tryd.prog w] (p : Par) (k : DK) (h : AtP w p k) (hB : ParC p) :
  PureT Tryd.prog 28 [pV p k] w fun v N => ∃ k9 : DK, v = .tuple #[pV (quoV p) k9, vI (checkP p : Int)] ∧ N = [pI 23 3 (quoV p) k9] :=
 (refParQuo0 w p k h hB).packR fun v O' hR => by
  obtain ⟨nb, nc, fb, fc, qs, rfl, rfl, hq9⟩ := hR
  exact ⟨nums qs = (quoV p).next, _, [], hq9, (List.append_nil _).symm, ⟨nb, nc, fb, fc, qs⟩, rfl, rfl⟩
end Go.Proofs.YtnikhiohindggaaDoor

