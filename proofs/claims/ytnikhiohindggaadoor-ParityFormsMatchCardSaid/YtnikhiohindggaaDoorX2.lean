/- Contracts of functions of the program (X2): what each call answers and that it leaves memory as it was. Conditions: those each theorem names. -/
import Derived.Test.YtnikhiohindggaaDoorCoreL
import Derived.Test.YtnikhiohindggaaDoorTar
import Derived.Test.YtnikhiohindggaaDoorY4
import Derived.Test.YtnikhiohindggaaDoorY9
set_option linter.unusedSectionVars false
set_option linter.unusedSimpArgs false
set_option linter.unusedVariables false
set_option linter.unnecessarySimpa false
set_option maxHeartbeats 8000000
set_option maxRecDepth 20000
namespace Go.Proofs.YtnikhiohindggaaDoor
open Go.Lx Go.RowKit _root_.Go.Proofs.Tryd
theorem bisimC (w : World) [Tab Tryd.prog w] (p : Par) (k : DK) (h : AtP w p k) (hv : ValidP p) :
  PureT Tryd.prog 59 [pV p k] w fun v N => ∃ b c qs, v = .slice b p.next.length c ∧ N = rowI b c 81 1 (bvals qs) :: bitms 4 qs ∧ SqM p.next.length qs ∧ BisB p (gB qs) := by
 refine CallT.enter func59 rfl ntmps59 rfl ?_
 have hn4 := hv.n4
 have hvl := h.rows.1
 have h6 := hv.letN6
 refine T.s (T.rg (TO.l rfl (l_box (v := (pV p k)) (cs := (pC p k)) rfl rfl (fun z1 => ?_))))
 refine TO.qa rfl (TO.nl (T.s (T.rg (TO.q (q_fa uT25 rfl inf22 rfl rfl) (TO.q (q_lb 0 uT22 rfl rfl rfl rfl) (TO.q (q_len uT22 rfl) (TO.qa rfl (TO.nl (T.s (T.rg (TO.qm rfl (TO.l rfl (l_makeSlice (m := p.next.length) uT87 inf81 rfl rfl (by omega) (by omega) (fun z2 => ?_))))))))))))))
 refine TO.qa rfl (TO.nl (T.s (T.s (T.rg (TO.qa rfl (TO.nl (T.block ?_)))))))
 refine T.loop (fun (s : Nat) ρ O => ∃ (qs : List BRec), O = ([rowI (aD z2) p.next.length 81 1 ((bvals qs) ++ (List.replicate (p.next.length - s) nS)), oI z1 25 (pC p k)] ++ (bitms 4 qs)) ∧ s ≤ p.next.length ∧ BstI p s qs ∧ Heads [(0, (pV p k)), (1, (.pointer (aD z1))), (2, nS), (3, vI (p.next.length : Int)), (4, (.slice (aD z2) p.next.length p.next.length)), (5, vI ((s : Nat) : Int))] ρ) (fun s => p.next.length - s) 0 ?_ ?_
 ·exact ⟨[], rfl, Nat.zero_le _, BstI.start _, (.of rfl)⟩
 rintro s ρ O ⟨qs, rfl, hs9, hM, hH⟩
 obtain ⟨ρ0, rfl⟩ := hH.elim
 clear hH
 refine T.s (T.s (T.rg (TO.qm rfl (TO.qm rfl (TO.q (q_lss rfl rfl) (TO.nl (T.condP rfl (fun hc => ?_) (fun hc => ?_))))))))
 ·have hlt18 : s < p.next.length := by omega
  have hql := hM.len
  have hsn : s < p.next.length := by omega
  have hsp : s < p.prio.length := by rw [hv.pl]; exact hsn
  refine T.skip (T.s (T.block (T.s (T.rg (TO.qa rfl (TO.nl ?_))))))
  refine T.reset ([rowI (aD z2) p.next.length 81 1 ((bvals qs) ++ (List.replicate (p.next.length - s) nS)), oI z1 25 (pC p k)] ++ (bitms 4 qs)) [(0, (pV p k)), (1, (.pointer (aD z1))), (2, nS), (3, vI (p.next.length : Int)), (4, (.slice (aD z2) p.next.length p.next.length)), (5, vI ((s : Nat) : Int)), (6, vI 0)] rfl (.of rfl) (fun ρ0 => ?_)
  refine T.block ?_
  refine T.nilRow 4 1 ?_
  refine T.loop (fun (t : Nat) ρ O => ∃ (rb : Option Addr) (rc : Nat), O = ([rowI rb rc 4 1 (bools (prR p s t)), rowI (aD z2) p.next.length 81 1 ((bvals qs) ++ ((.slice rb t rc) :: (List.replicate (p.next.length - (s + 1)) nS))), oI z1 25 (pC p k)] ++ (bitms 4 qs)) ∧ t ≤ p.next.length ∧ Heads [(0, (pV p k)), (1, (.pointer (aD z1))), (2, nS), (3, vI (p.next.length : Int)), (4, (.slice (aD z2) p.next.length p.next.length)), (5, vI ((s : Nat) : Int)), (6, vI ((t : Nat) : Int))] ρ) (fun t => p.next.length - t) 0 ?_ ?_
  ·exact ⟨none, 0, by rw [hole_nil nS hsn]; rfl, Nat.zero_le _, (.of rfl)⟩
  rintro t ρ O ⟨rb, rc, rfl, ht9, hH⟩
  obtain ⟨ρ0, rfl⟩ := hH.elim
  clear hH
  refine T.s (T.s (T.rg (TO.qm rfl (TO.qm rfl (TO.q (q_lss rfl rfl) (TO.nl (T.condP rfl (fun hc => ?_) (fun hc => ?_))))))))
  ·have hlt23 : t < p.next.length := by omega
   have htn : t < p.next.length := by omega
   have htp : t < p.prio.length := by rw [hv.pl]; exact htn
   refine T.skip (T.s (T.block ?_))
   refine T.draws [rowI (aD z2) p.next.length 81 1 ((bvals qs) ++ ((.slice rb t rc) :: (List.replicate (p.next.length - (s + 1)) nS))), oI z1 25 (pC p k)] [(0, 0), (1, 0), (2, 0), (3, 0), (4, 0), (5, 0), (6, 0), (7, 0), (8, 0), (9, 0), (10, 0), (11, 0), (12, 0), (13, 0), (14, 0), (15, 0), (16, 0), (17, 1), (18, 1), (19, 0), (20, 2)] mixed (drawF_ok (by kernel_rfl)) (Sub.pick0 [1, 1] [rowI rb rc 4 1 (bools (prR p s t)), rowI (aD z2) p.next.length 81 1 ((bvals qs) ++ ((.slice rb t rc) :: (List.replicate (p.next.length - (s + 1)) nS))), oI z1 25 (pC p k)] (bitms 4 qs) rfl rfl) (fun _ _ _ h => h) ?_
   refine DO.q rfl (q_move rfl) (DO.q rfl (q_move rfl) (DO.q rfl (q_move rfl) (DO.q rfl (q_move rfl) (DO.q rfl (q_ix (i := s) uT87 inf81 rfl rfl (rowO (mG 0 rfl)) hsn (by simp; omega)) (DO.q rfl (q_ld uT81 rfl rfl (rowO (mG 0 rfl)) (hole_get (by simpa using hql))) (DO.q rfl (q_fa uT25 rfl inf23 rfl rfl) (DO.q rfl (q_lb 1 uT23 rfl rfl rfl rfl) ?_)))))))
   refine DO.q rfl (q_move rfl) (DO.q rfl (q_ix (i := s) uT23 inf3 rfl rfl (Sl.o h.prio) hsp (by rw [List.length_map]; exact hsp)) (DO.q rfl (q_ld uT3 rfl rfl (Sl.o h.prio) (by rw [ints, List.getElem?_map, hv.prAt hsn]; rfl)) (DO.q rfl (q_fa uT25 rfl inf23 rfl rfl) ?_)))
   refine DO.q rfl (q_lb 1 uT23 rfl rfl rfl rfl) (DO.q rfl (q_move rfl) (DO.q rfl (q_ix (i := t) uT23 inf3 rfl rfl (Sl.o h.prio) htp (by rw [List.length_map]; exact htp)) (DO.q rfl (q_ld uT3 rfl rfl (Sl.o h.prio) (by rw [ints, List.getElem?_map, hv.prAt htn]; rfl)) ?_)))
   refine DO.q rfl (q_eql rfl rfl) ?_
   refine DO.loud rfl rfl (l_build1 (v := .bool (decide (((prN p s : Nat) : Int) = ((prN p t : Nat) : Int)))) uT81 inf4 rfl rfl rfl (fun z3 => ⟨Sub.pick0 [2, 2] [rowI (aD z3) 1 4 1 [.bool (decide (((prN p s : Nat) : Int) = ((prN p t : Nat) : Int)))], rowI rb rc 4 1 (bools (prR p s t)), rowI (aD z2) p.next.length 81 1 ((bvals qs) ++ ((.slice rb t rc) :: (List.replicate (p.next.length - (s + 1)) nS))), oI z1 25 (pC p k)] (bitms 4 qs) rfl rfl, ?_⟩))
   refine DO.loud rfl rfl (l_append 1 uT81 uT81 inf4 rfl rfl rfl rfl (by simp [prR_len]) (by decide) (Src.row (j := 0) rfl (by simp)) (by simp [oneB]) (by omega) (by decide) (by decide) (fun z4 zc5 => ⟨Sub.pick0 [2, 2] [rowI (aD z3) 1 4 1 [.bool (decide (((prN p s : Nat) : Int) = ((prN p t : Nat) : Int)))], rowI z4 zc5 4 1 ((bools (prR p s t)) ++ [.bool (decide (((prN p s : Nat) : Int) = ((prN p t : Nat) : Int)))]), rowI (aD z2) p.next.length 81 1 ((bvals qs) ++ ((.slice rb t rc) :: (List.replicate (p.next.length - (s + 1)) nS))), oI z1 25 (pC p k)] (bitms 4 qs) rfl rfl, ?_⟩))
   refine DO.q rfl (q_ix (i := s) uT87 inf81 rfl rfl (rowO (mG 0 rfl)) hsn (by simp; omega)) ?_
   refine DO.last rfl rfl (l_st (j := s) (v := (.slice z4 (t + 1) zc5)) (vs := [(.slice z4 (t + 1) zc5)]) (cs := (bvals qs) ++ ((.slice rb t rc) :: (List.replicate (p.next.length - (s + 1)) nS))) 2 inf81 rfl rfl rfl rfl rfl (by simp) rfl (by first | (simp; omega) | (simp_all; omega)) ?_)
   refine DO.sub (O' := ([rowI (aD z3) 1 4 1 [.bool (decide (((prN p s : Nat) : Int) = ((prN p t : Nat) : Int)))], rowI z4 zc5 4 1 ((bools (prR p s t)) ++ [.bool (decide (((prN p s : Nat) : Int) = ((prN p t : Nat) : Int)))]), rowI (aD z2) p.next.length 81 1 ((bvals qs) ++ ((.slice z4 (t + 1) zc5) :: (List.replicate (p.next.length - (s + 1)) nS))), oI z1 25 (pC p k)] ++ (bitms 4 qs))) (by rw [show putL ((bvals qs) ++ ((.slice rb t rc) :: (List.replicate (p.next.length - (s + 1)) nS))) s [(.slice z4 (t + 1) zc5)] = (bvals qs) ++ ((.slice z4 (t + 1) zc5) :: (List.replicate (p.next.length - (s + 1)) nS)) from by simp [putL]; exact hole_set2 (by simpa using hql)]; exact Sub.of (List.Sublist.refl _)) ?_
   refine DO.sub (O' := ([rowI z4 zc5 4 1 ((bools (prR p s t)) ++ [.bool (decide (((prN p s : Nat) : Int) = ((prN p t : Nat) : Int)))]), rowI (aD z2) p.next.length 81 1 ((bvals qs) ++ ((.slice z4 (t + 1) zc5) :: (List.replicate (p.next.length - (s + 1)) nS))), oI z1 25 (pC p k)] ++ (bitms 4 qs))) (Sub.pickR [1, 1, 1] [rowI (aD z3) 1 4 1 [.bool (decide (((prN p s : Nat) : Int) = ((prN p t : Nat) : Int)))], rowI z4 zc5 4 1 ((bools (prR p s t)) ++ [.bool (decide (((prN p s : Nat) : Int) = ((prN p t : Nat) : Int)))]), rowI (aD z2) p.next.length 81 1 ((bvals qs) ++ ((.slice z4 (t + 1) zc5) :: (List.replicate (p.next.length - (s + 1)) nS))), oI z1 25 (pC p k)] (bitms 4 qs) rfl rfl) ?_
   refine DO.done ?_
   refine T.rg (TO.qm rfl (TO.q (q_addN (a := t) (b := 1) rfl rfl (by omega)) (TO.qa rfl (TO.nl ?_))))
   exact ⟨t + 1, by omega, z4, zc5, by rw [prR_app], by omega, (.of rfl)⟩
  have hge23 : ¬ t < p.next.length := by omega
  refine T.exit ?_
  refine T.rg (TO.qm rfl (TO.q (q_addN (a := s) (b := 1) rfl rfl (by omega)) (TO.qa rfl ?_)))
  have hR : rowI rb rc 4 1 (bools (prR p s t)) = BRec.itm 4 ⟨rb, rc, prR p s t⟩ := rfl
  refine TO.sub (O' := [rowI (aD z2) p.next.length 81 1 ((bvals qs) ++ ((.slice rb t rc) :: (List.replicate (p.next.length - (s + 1)) nS))), oI z1 25 (pC p k)] ++ (bitms 4 (qs ++ [⟨rb, rc, prR p s t⟩]))) (by rw [hR]; exact Sub.cnt [] (by intro a; simp only [itms, bitms, oI, List.set_cons_zero, List.set_cons_succ, putL, List.cons_append, List.nil_append, List.append_nil, List.append_assoc, List.map_append, List.map_cons, List.map_nil, cnt_append, cnt_cons, cnt_nil, vI, nS, aD] <;> omega)) ?_
  refine TO.nl ?_
  exact ⟨s + 1, by omega, qs ++ [⟨rb, rc, prR p s t⟩], by simp [BRec.val, prR_len], by omega, (by rw [show t = p.next.length by omega]; exact hM.snoc rb rc), (.of rfl)⟩
 have hge18 : ¬ s < p.next.length := by omega
 refine T.exit ?_
 refine T.s (T.s (T.rg (TO.qa rfl (TO.nl (T.block ?_)))))
 have hse : s = p.next.length := by omega
 have hR0 : (bvals qs) ++ (List.replicate (p.next.length - s) nS) = bvals qs := by rw [show p.next.length - s = 0 by omega]; simp
 rw [hR0]
 rw [hse] at hM
 have hBi0 := hM.bis
 refine T.loop (fun (m : Nat) ρ O => ∃ (qs : List BRec) (ch : Bool), O = ([rowI (aD z2) p.next.length 81 1 (bvals qs), oI z1 25 (pC p k)] ++ (bitms 4 qs)) ∧ BisI p qs ∧ cntB p.next.length qs + (if ch = true then 1 else 0) = m ∧ (ch = false → BisB p (gB qs)) ∧ Heads [(0, (pV p k)), (1, (.pointer (aD z1))), (2, nS), (3, vI (p.next.length : Int)), (4, (.slice (aD z2) p.next.length p.next.length)), (7, .bool ch)] ρ) (fun m => m) (cntB p.next.length qs + 1) ?_ ?_
 ·exact ⟨qs, true, rfl, hBi0, rfl, (fun h9 => by cases h9), (.of rfl)⟩
 rintro m ρ O ⟨qs, ch, rfl, hBi, hmm, hcl, hH⟩
 obtain ⟨ρ0, rfl⟩ := hH.elim
 clear hH
 refine T.s (T.s (T.rg (TO.qm rfl (TO.nl (T.condP (p := ch = true) (congrArg Value.bool (by cases ch <;> rfl)) (fun hc => ?_) (fun hc => ?_))))))
 ·have hch : ch = true := hc
  refine T.skip (T.block (T.s (T.rg (TO.qa rfl (TO.nl (T.s (T.rg (TO.qa rfl (TO.nl (T.block ?_))))))))))
  refine T.loop (fun (s : Nat) ρ O => ∃ (ms : List BRec) (ch2 : Bool), O = ([rowI (aD z2) p.next.length 81 1 (bvals ms), oI z1 25 (pC p k)] ++ (bitms 4 ms)) ∧ s ≤ p.next.length ∧ RdI p (cntB p.next.length qs) ms ch2 s 0 0 ∧ Heads [(0, (pV p k)), (1, (.pointer (aD z1))), (2, nS), (3, vI (p.next.length : Int)), (4, (.slice (aD z2) p.next.length p.next.length)), (7, .bool ch2), (8, vI ((s : Nat) : Int))] ρ) (fun s => p.next.length - s) 0 ?_ ?_
  ·exact ⟨qs, false, rfl, Nat.zero_le _, RdI.start hBi, (.of rfl)⟩
  rintro s ρ O ⟨ms, ch2, rfl, hs, hRd, hH⟩
  obtain ⟨ρ0, rfl⟩ := hH.elim
  clear hH
  refine T.s (T.s (T.rg (TO.qm rfl (TO.qm rfl (TO.q (q_lss rfl rfl) (TO.nl (T.condP rfl (fun hc => ?_) (fun hc => ?_))))))))
  ·have hlt49 : s < p.next.length := by omega
   have hsn : s < p.next.length := by omega
   obtain ⟨v1, c1, g1, s1⟩ := h.rows.get hsn
   have hr1 : p.next[s].length = letN p.d := hv.val.len _ (List.getElem_mem hsn)
   refine T.skip (T.s (T.block (T.s (T.rg (TO.qa rfl (TO.nl (T.block ?_)))))))
   refine T.loop (fun (t : Nat) ρ O => ∃ (ks : List BRec) (ch3 : Bool), O = ([rowI (aD z2) p.next.length 81 1 (bvals ks), oI z1 25 (pC p k)] ++ (bitms 4 ks)) ∧ t ≤ p.next.length ∧ RdI p (cntB p.next.length qs) ks ch3 s t 0 ∧ Heads [(0, (pV p k)), (1, (.pointer (aD z1))), (2, nS), (3, vI (p.next.length : Int)), (4, (.slice (aD z2) p.next.length p.next.length)), (7, .bool ch3), (8, vI ((s : Nat) : Int)), (9, vI ((t : Nat) : Int))] ρ) (fun t => p.next.length - t) 0 ?_ ?_
   ·exact ⟨ms, ch2, rfl, Nat.zero_le _, hRd, (.of rfl)⟩
   rintro t ρ O ⟨ks, ch3, rfl, ht, hRk, hH⟩
   obtain ⟨ρ0, rfl⟩ := hH.elim
   clear hH
   refine T.s (T.s (T.rg (TO.qm rfl (TO.qm rfl (TO.q (q_lss rfl rfl) (TO.nl (T.condP rfl (fun hc => ?_) (fun hc => ?_))))))))
   ·have hlt54 : t < p.next.length := by omega
    have htn : t < p.next.length := by omega
    obtain ⟨v2, c2, g2, s2⟩ := h.rows.get htn
    have hr2 : p.next[t].length = letN p.d := hv.val.len _ (List.getElem_mem htn)
    refine T.skip (T.s (T.block (T.s (T.rg (TO.qa rfl (TO.nl (T.block ?_)))))))
    refine T.loop (fun (x : Nat) ρ O => ∃ (js : List BRec) (ch4 : Bool), O = ([rowI (aD z2) p.next.length 81 1 (bvals js), oI z1 25 (pC p k)] ++ (bitms 4 js)) ∧ x ≤ letN p.d ∧ RdI p (cntB p.next.length qs) js ch4 s t x ∧ Heads [(0, (pV p k)), (1, (.pointer (aD z1))), (2, nS), (3, vI (p.next.length : Int)), (4, (.slice (aD z2) p.next.length p.next.length)), (7, .bool ch4), (8, vI ((s : Nat) : Int)), (9, vI ((t : Nat) : Int)), (10, vI ((x : Nat) : Int))] ρ) (fun x => letN p.d - x) 0 ?_ ?_
    ·exact ⟨ks, ch3, rfl, Nat.zero_le _, hRk, (.of rfl)⟩
    rintro x ρ O ⟨js, ch4, rfl, hx, hRj, hH⟩
    obtain ⟨ρ0, rfl⟩ := hH.elim
    clear hH
    have hjl := hRj.bi.sq.len
    have hjs : s < js.length := by omega
    have hjt : t < js[s].xs.length := by have h9 := hRj.bi.sq.row _ (List.getElem_mem hjs); omega
    refine T.s (T.s (T.rg (TO.qm rfl (TO.q (q_fa uT25 rfl inf22 rfl rfl) (TO.q (q_lb 1 uT22 rfl rfl rfl rfl) (TO.qm rfl (TO.q (q_ix (i := s) uT22 inf23 rfl rfl (Sl.o h.outer) hsn (hvl ▸ hsn)) (TO.q (q_ld uT23 rfl rfl (Sl.o h.outer) g1) (TO.q (q_len uT23 rfl) ?_)))))))))
    by_cases h64 : ((x : Nat) : Int) < (p.next[s].length : Int)
    ·refine TO.q (QT.toB (q_lss rfl rfl) (decide_eq_true h64)) ?_
     refine TO.qm rfl (TO.gq rfl rfl (q_move rfl) (TO.gq rfl rfl (q_move rfl) (TO.gq rfl rfl (q_ix (i := s) uT87 inf81 rfl rfl (rowO (mG 0 rfl)) hsn (by rw [List.length_map]; exact hjs)) (TO.gq rfl rfl (q_ld uT81 rfl rfl (rowO (mG 0 rfl)) (bvalsK_at hjs)) (TO.gq rfl rfl (q_move rfl) (TO.gq rfl rfl (q_ix (i := t) uT81 inf4 rfl rfl (fun w9 hI9 => hI9.slOf (brow_at (E := 4) hjs)) hjt (by rw [List.length_map]; exact hjt)) (TO.gq rfl rfl (q_ld uT4 rfl rfl (fun w9 hI9 => hI9.slOf (brow_at (E := 4) hjs)) (bools_gB hjs hjt)) ?_)))))))
     refine TO.q (q_pick1 rfl rfl) (TO.nl (T.condP (p := gB js s t = true) (congrArg Value.bool (by cases gB js s t <;> rfl)) (fun hc => ?_) (fun hc => ?_)))
     ·have hg : gB js s t = true := hc
      have hxl : x < letN p.d := by omega
      obtain ⟨hto1, hxk1, hx1, _⟩ := hv.to hsn hxl
      obtain ⟨hto2, hxk2, hx2, _⟩ := hv.to htn hxl
      have hja : toN p.d s x < js.length := by omega
      have hjb : toN p.d t x < js[toN p.d s x].xs.length := by have h9 := hRj.bi.sq.row _ (List.getElem_mem hja); omega
      refine T.skip (T.s (T.block (T.s ?_)))
      refine T.draws _ [(0, 0), (1, 0), (2, 0), (3, 0), (4, 0), (5, 0), (6, 0), (7, 0), (8, 0), (9, 0), (10, 0), (11, 0), (12, 0), (13, 0), (14, 0), (15, 0), (16, 0), (17, 0), (18, 0), (19, 0), (20, 0), (21, 0)] mixed (drawF_ok (by kernel_rfl)) (Sub.of (List.Sublist.refl _)) (fun _ _ _ h => h) ?_
      refine DO.q rfl (q_move rfl) (DO.q rfl (q_fa uT25 rfl inf22 rfl rfl) (DO.q rfl (q_lb 1 uT22 rfl rfl rfl rfl) (DO.q rfl (q_move rfl) (DO.q rfl (q_ix (i := s) uT22 inf23 rfl rfl (Sl.o h.outer) hsn (hvl ▸ hsn)) (DO.q rfl (q_ld uT23 rfl rfl (Sl.o h.outer) g1) (DO.q rfl (q_move rfl) (DO.q rfl (q_ix (i := x) uT23 inf3 rfl rfl (Sl.o s1) hxk1 (by rw [List.length_map]; exact hxk1)) (DO.q rfl (q_ld uT3 rfl rfl (Sl.o s1) hx1) (DO.q rfl (q_ix (i := (toN p.d s x)) uT87 inf81 rfl rfl (rowO (mG 0 rfl)) hto1 (by rw [List.length_map]; exact hja)) (DO.q rfl (q_ld uT81 rfl rfl (rowO (mG 0 rfl)) (bvalsK_at hja)) (DO.q rfl (q_fa uT25 rfl inf22 rfl rfl) (DO.q rfl (q_lb 1 uT22 rfl rfl rfl rfl) (DO.q rfl (q_move rfl) (DO.q rfl (q_ix (i := t) uT22 inf23 rfl rfl (Sl.o h.outer) htn (hvl ▸ htn)) (DO.q rfl (q_ld uT23 rfl rfl (Sl.o h.outer) g2) (DO.q rfl (q_move rfl) (DO.q rfl (q_ix (i := x) uT23 inf3 rfl rfl (Sl.o s2) hxk2 (by rw [List.length_map]; exact hxk2)) (DO.q rfl (q_ld uT3 rfl rfl (Sl.o s2) hx2) (DO.q rfl (q_ix (i := (toN p.d t x)) uT81 inf4 rfl rfl (fun w9 hI9 => hI9.slOf (brow_at (E := 4) hja)) hjb (by rw [List.length_map]; exact hjb)) (DO.q rfl (q_ld uT4 rfl rfl (fun w9 hI9 => hI9.slOf (brow_at (E := 4) hja)) (bools_gB hja hjb)) (DO.q rfl (q_not rfl) ?_)))))))))))))))))))))
      refine DO.done ?_
      refine T.condP (p := ¬ gB js (toN p.d s x) (toN p.d t x) = true) (congrArg Value.bool (by cases gB js (toN p.d s x) (toN p.d t x) <;> rfl)) (fun hc => ?_) (fun hc => ?_)
      ·have hno : ¬ gB js (toN p.d s x) (toN p.d t x) = true := hc
       refine T.s ?_
       refine T.sub (bsubK_out hjs [rowI (aD z2) p.next.length 81 1 (bvals js), oI z1 25 (pC p k)]) ?_
       refine T.rg (TO.qm rfl (TO.qm rfl (TO.q (q_ix (i := s) uT87 inf81 rfl rfl (rowO (mG 1 rfl)) hsn (by rw [List.length_map]; exact hjs)) (TO.q (q_ld uT81 rfl rfl (rowO (mG 1 rfl)) (bvalsK_at hjs)) (TO.qm rfl (TO.q (q_ix (i := t) uT81 inf4 rfl rfl (rowO (mG 0 rfl)) hjt (by rw [List.length_map]; exact hjt)) (TO.l rfl (l_st (j := t) (v := .bool false) (vs := [(.bool false)]) (cs := bools js[s].xs) 0 inf4 rfl rfl rfl rfl rfl (by simp) rfl (by rw [List.length_map]; exact hjt) ?_))))))))
       refine TO.sub (O' := ([rowI js[s].b js[s].c 4 1 (bools (js[s].xs.set t false)), rowI (aD z2) p.next.length 81 1 (bvals js), oI z1 25 (pC p k)] ++ (bitms 4 (js.eraseIdx s)))) (by rw [show putL (bools js[s].xs) t [(.bool false)] = bools (js[s].xs.set t false) from (by simp [putL])]; exact Sub.of (List.Sublist.refl _)) ?_
       refine TO.nl ?_
       refine T.reset ([rowI js[s].b js[s].c 4 1 (bools (js[s].xs.set t false)), rowI (aD z2) p.next.length 81 1 (bvals js), oI z1 25 (pC p k)] ++ (bitms 4 (js.eraseIdx s))) [(0, (pV p k)), (1, (.pointer (aD z1))), (2, nS), (3, vI (p.next.length : Int)), (4, (.slice (aD z2) p.next.length p.next.length)), (7, .bool ch4), (8, vI ((s : Nat) : Int)), (9, vI ((t : Nat) : Int)), (10, vI ((x : Nat) : Int))] rfl (.of rfl) (fun ρ0 => ?_)
       refine T.sub (O' := [rowI js[s].b js[s].c 4 1 (bools (js[s].xs.set t false)), rowI (aD z2) p.next.length 81 1 (bvals js), oI z1 25 (pC p k)] ++ (bitms 4 (js.eraseIdx s))) (Sub.pickR [0, 0, 0] [rowI js[s].b js[s].c 4 1 (bools (js[s].xs.set t false)), rowI (aD z2) p.next.length 81 1 (bvals js), oI z1 25 (pC p k)] (bitms 4 (js.eraseIdx s)) rfl rfl) ?_
       refine T.sub (O' := [rowI (aD z2) p.next.length 81 1 (bvals js), oI z1 25 (pC p k)] ++ (bitms 4 (js.set s ⟨js[s].b, js[s].c, js[s].xs.set t false⟩))) (bsubK_in hjs [rowI (aD z2) p.next.length 81 1 (bvals js), oI z1 25 (pC p k)] ⟨js[s].b, js[s].c, js[s].xs.set t false⟩) ?_
       refine T.sub (O' := [rowI (aD z2) p.next.length 81 1 (bvals (js.set s ⟨js[s].b, js[s].c, js[s].xs.set t false⟩)), oI z1 25 (pC p k)] ++ (bitms 4 (js.set s ⟨js[s].b, js[s].c, js[s].xs.set t false⟩))) (by rw [bvals_same hjs (by simp)]; exact Sub.rf) ?_
       refine T.rg (TO.qa rfl (TO.nl (T.rg (TO.qm rfl (TO.q (q_addN (a := x) (b := 1) rfl rfl (by omega)) (TO.qa rfl (TO.nl ?_)))))))
       exact ⟨x + 1, by omega, js.set s ⟨js[s].b, js[s].c, js[s].xs.set t false⟩, true, rfl, by omega, hRj.set hv hsn htn hxl hno hjs hjt hg, (.of rfl)⟩
      have hyes : gB js (toN p.d s x) (toN p.d t x) = true := Decidable.not_not.1 hc
      refine T.skip (T.rg (TO.qm rfl (TO.q (q_addN (a := x) (b := 1) rfl rfl (by omega)) (TO.qa rfl (TO.nl ?_)))))
      exact ⟨x + 1, by omega, js, ch4, rfl, by omega, hRj.ok hyes, (.of rfl)⟩
     have hgf : ¬ gB js s t = true := hc
     refine T.exit ?_
     refine T.rg (TO.qm rfl (TO.q (q_addN (a := t) (b := 1) rfl rfl (by omega)) (TO.qa rfl (TO.nl ?_))))
     exact ⟨t + 1, by omega, js, ch4, rfl, by omega, hRj.nextT (by first | exact .inr hgf | exact .inl (by omega)), (.of rfl)⟩
    refine TO.q (QT.toB (q_lss rfl rfl) (decide_eq_false h64)) (TO.qm rfl (TO.pd rfl rfl (TO.pd rfl rfl (TO.pd rfl rfl (TO.pd rfl rfl (TO.pd rfl rfl (TO.pd rfl rfl (TO.pd rfl rfl ?_))))))))
    refine TO.q (q_pick0 rfl rfl) (TO.nl (T.cond0 rfl ?_))
    refine T.exit ?_
    refine T.rg (TO.qm rfl (TO.q (q_addN (a := t) (b := 1) rfl rfl (by omega)) (TO.qa rfl (TO.nl ?_))))
    exact ⟨t + 1, by omega, js, ch4, rfl, by omega, hRj.nextT (by first | exact .inr hgf | exact .inl (by omega)), (.of rfl)⟩
   have hge54 : ¬ t < p.next.length := by omega
   refine T.exit ?_
   refine T.rg (TO.qm rfl (TO.q (q_addN (a := s) (b := 1) rfl rfl (by omega)) (TO.qa rfl (TO.nl ?_))))
   exact ⟨s + 1, by omega, ks, ch3, rfl, by omega, hRk.nextS (by omega), (.of rfl)⟩
  have hge49 : ¬ s < p.next.length := by omega
  refine T.exit ?_
  exact ⟨cntB p.next.length ms + (if ch2 = true then 1 else 0), (by have h8 := hRd.cnt; rw [if_pos hch] at hmm; omega), ms, ch2, rfl, hRd.bi, rfl, (fun h9 => hRd.done hv (by omega) h9), (.of rfl)⟩
 have hBB : BisB p (gB qs) := hcl (by simpa using hc)
 refine T.exit ?_
 refine T.s (T.rg (TO.qm rfl (TO.qa rfl (TO.nl (T.ret (Res.drop ?_))))))
 refine Res.one (.slice (aD z2) p.next.length p.next.length) Tryd.results59 rfl ?_
 exact ⟨[rowI (aD z2) p.next.length 81 1 (bvals qs)] ++ bitms 4 qs, (Sub.pickR [0] [rowI (aD z2) p.next.length 81 1 (bvals qs), oI z1 25 (pC p k)] (bitms 4 qs) rfl rfl), _, _, qs, rfl, rfl, hBi.sq, hBB⟩
end Go.Proofs.YtnikhiohindggaaDoor

