/- Contracts of functions of the program (Y4): what each call answers and that it leaves memory as it was. Conditions: those each theorem names. -/
import Derived.Test.YtnikhiohindggaaDoorCoreL
import Derived.Test.YtnikhiohindggaaDoorYs
import Derived.Test.YtnikhiohindggaaDoorEnd
import Derived.Test.YtnikhiohindggaaDoorY3
set_option linter.unusedSectionVars false
set_option linter.unusedSimpArgs false
set_option linter.unusedVariables false
set_option linter.unnecessarySimpa false
set_option maxHeartbeats 8000000
set_option maxRecDepth 20000
namespace Go.Proofs.YtnikhiohindggaaDoor
open Go.Lx Go.RowKit _root_.Go.Proofs.Tryd
theorem reachC0 (w : World) [Tab Tryd.prog w] (p : Par) (k : DK) (h : AtP w p k) (hv : ValG p) (sb : Option Addr) (sc : Nat) (ss : List Bool) (hs : Sl w sb (bools ss)) (hsl : ss.length = p.next.length) :
  PureT Tryd.prog 71 [pV p k, .slice sb p.next.length sc] w fun v N => ∃ b c qs, v = .slice b p.next.length c ∧ N = rowI b c 81 1 (bvals qs) :: bitms 4 qs ∧ SqM p.next.length qs ∧ ∀ a b, a < p.next.length → b < p.next.length → (gB qs a b = true ↔ Pp (InS (DE p.d) (sB ss)) a b) := by
 refine CallT.enter func71 rfl ntmps71 rfl ?_
 have hn4 := hv.n4
 have hvl := h.rows.1
 have h6 := hv.letN6
 refine T.s (T.rg (TO.l rfl (l_box (v := (pV p k)) (cs := (pC p k)) rfl rfl (fun z1 => ?_))))
 refine TO.qa rfl (TO.nl (T.s (T.rg (TO.q (q_fa uT25 rfl inf22 rfl rfl) (TO.q (q_lb 0 uT22 rfl rfl rfl rfl) (TO.q (q_len uT22 rfl) (TO.qa rfl (TO.nl (T.s (T.rg (TO.qm rfl (TO.l rfl (l_makeSlice (m := p.next.length) uT87 inf81 rfl rfl (by omega) (by omega) (fun z2 => ?_))))))))))))))
 refine TO.qa rfl (TO.nl (T.s (T.s (T.rg (TO.qa rfl (TO.nl (T.block ?_)))))))
 refine T.loop (fun (s : Nat) ρ O => ∃ (qs : List BRec), O = ([rowI (aD z2) p.next.length 81 1 ((bvals qs) ++ (List.replicate (p.next.length - s) nS)), oI z1 25 (pC p k)] ++ (bitms 4 qs)) ∧ s ≤ p.next.length ∧ RchI p.d (sB ss) p.next.length s qs ∧ Heads [(0, (pV p k)), (1, (.slice sb p.next.length sc)), (2, (.pointer (aD z1))), (4, nS), (5, vI (p.next.length : Int)), (6, (.slice (aD z2) p.next.length p.next.length)), (7, vI ((s : Nat) : Int))] ρ) (fun s => p.next.length - s) 0 ?_ ?_
 ·exact ⟨[], rfl, Nat.zero_le _, RchI.start _ _ _, (.of rfl)⟩
 rintro s ρ O ⟨qs, rfl, hs9, hM, hH⟩
 obtain ⟨ρ0, rfl⟩ := hH.elim
 clear hH
 refine T.s (T.s (T.rg (TO.qm rfl (TO.qm rfl (TO.q (q_lss rfl rfl) (TO.nl (T.condP rfl (fun hc => ?_) (fun hc => ?_))))))))
 ·have hlt19 : s < p.next.length := by omega
  have hql := hM.len
  have hsn : s < p.next.length := by omega
  have hss : s < ss.length := by omega
  obtain ⟨v1, c1, g1, s1⟩ := h.rows.get hsn
  have hr1 : p.next[s].length = letN p.d := hv.val.len _ (List.getElem_mem hsn)
  refine T.skip (T.s (T.block (T.s (T.rg (TO.qm rfl (TO.qm rfl (TO.qm rfl (TO.l rfl (l_makeSlice (m := p.next.length) uT81 inf4 rfl rfl (by omega) (by omega) (fun zX => ?_))))))))))
  refine TO.q (q_ix (i := s) uT87 inf81 rfl rfl (rowO (mG 1 rfl)) hsn (by simp; omega)) (TO.l rfl (l_st (j := s) (v := (.slice (aD zX) p.next.length p.next.length)) (vs := [(.slice (aD zX) p.next.length p.next.length)]) (cs := (bvals qs) ++ (List.replicate (p.next.length - s) nS)) 1 inf81 rfl rfl rfl rfl rfl (by simp) rfl (by first | (simp; omega) | (simp_all; omega)) ?_))
  refine TO.sub (O' := ([rowI (aD zX) p.next.length 4 1 (List.replicate p.next.length (.bool false)), rowI (aD z2) p.next.length 81 1 ((bvals qs) ++ ((.slice (aD zX) p.next.length p.next.length) :: (List.replicate (p.next.length - (s + 1)) nS))), oI z1 25 (pC p k)] ++ (bitms 4 qs))) (by rw [show putL ((bvals qs) ++ (List.replicate (p.next.length - s) nS)) s [(.slice (aD zX) p.next.length p.next.length)] = (bvals qs) ++ ((.slice (aD zX) p.next.length p.next.length) :: (List.replicate (p.next.length - (s + 1)) nS)) from by rw [← hole_set (by simpa using hql) hsn]; simp [putL]]; exact Sub.of (List.Sublist.refl _)) ?_
  refine TO.nl ?_
  refine T.reset ([rowI (aD zX) p.next.length 4 1 (List.replicate p.next.length (.bool false)), rowI (aD z2) p.next.length 81 1 ((bvals qs) ++ ((.slice (aD zX) p.next.length p.next.length) :: (List.replicate (p.next.length - (s + 1)) nS))), oI z1 25 (pC p k)] ++ (bitms 4 qs)) [(0, (pV p k)), (1, (.slice sb p.next.length sc)), (2, (.pointer (aD z1))), (4, nS), (5, vI (p.next.length : Int)), (6, (.slice (aD z2) p.next.length p.next.length)), (7, vI ((s : Nat) : Int))] rfl (.of rfl) (fun ρ0 => ?_)
  refine T.s (T.rg (TO.qa rfl (TO.nl (T.block ?_))))
  refine T.loop (fun (x : Nat) ρ O => ∃ (xs : List Bool), O = ([rowI (aD zX) p.next.length 4 1 (bools xs), rowI (aD z2) p.next.length 81 1 ((bvals qs) ++ ((.slice (aD zX) p.next.length p.next.length) :: (List.replicate (p.next.length - (s + 1)) nS))), oI z1 25 (pC p k)] ++ (bitms 4 qs)) ∧ x ≤ letN p.d ∧ EdI p.d (sB ss) p.next.length s x xs ∧ Heads [(0, (pV p k)), (1, (.slice sb p.next.length sc)), (2, (.pointer (aD z1))), (4, nS), (5, vI (p.next.length : Int)), (6, (.slice (aD z2) p.next.length p.next.length)), (7, vI ((s : Nat) : Int)), (8, vI ((x : Nat) : Int))] ρ) (fun x => letN p.d - x) 0 ?_ ?_
  ·exact ⟨List.replicate p.next.length false, by first | rfl | simp only [List.map_replicate], Nat.zero_le _, EdI.start _ _ _ _, (.of rfl)⟩
  rintro x ρ O ⟨xs, rfl, hx, hM2, hH⟩
  obtain ⟨ρ0, rfl⟩ := hH.elim
  clear hH
  refine T.s (T.s (T.rg (TO.qm rfl (TO.q (q_fa uT25 rfl inf22 rfl rfl) (TO.q (q_lb 2 uT22 rfl rfl rfl rfl) (TO.qm rfl (TO.q (q_ix (i := s) uT22 inf23 rfl rfl (Sl.o h.outer) hsn (hvl ▸ hsn)) (TO.q (q_ld uT23 rfl rfl (Sl.o h.outer) g1) (TO.q (q_len uT23 rfl) (TO.q (q_lss rfl rfl) (TO.nl (T.condP rfl (fun hc => ?_) (fun hc => ?_)))))))))))))
  ·have hlt34 : x < p.next[s].length := by omega
   have hxl9 : x < letN p.d := by omega
   obtain ⟨hto, hxk1, hx1, _⟩ := hv.to hsn hxl9
   have hts : toN p.d s x < ss.length := by omega
   refine T.skip (T.s (T.block (T.s (T.rg (TO.qm rfl (TO.qm rfl (TO.q (q_ix (i := s) uT81 inf4 rfl rfl (Sl.o hs) hsn (by rw [List.length_map]; exact hss)) (TO.q (q_ld uT4 rfl rfl (Sl.o hs) (bools_atD hss)) ?_))))))))
   by_cases h41 : ss.getD s false = true
   ·refine TO.q (QT.toB (q_move rfl) (h41)) ?_
    refine TO.gq rfl rfl (q_move rfl) (TO.gq rfl rfl (q_fa uT25 rfl inf22 rfl rfl) (TO.gq rfl rfl (q_lb 2 uT22 rfl rfl rfl rfl) (TO.gq rfl rfl (q_move rfl) (TO.gq rfl rfl (q_ix (i := s) uT22 inf23 rfl rfl (Sl.o h.outer) hsn (hvl ▸ hsn)) (TO.gq rfl rfl (q_ld uT23 rfl rfl (Sl.o h.outer) g1) (TO.gq rfl rfl (q_move rfl) (TO.gq rfl rfl (q_ix (i := x) uT23 inf3 rfl rfl (Sl.o s1) hxk1 (by rw [List.length_map]; exact hxk1)) ?_)))))))
    refine TO.gq rfl rfl (q_ld uT3 rfl rfl (Sl.o s1) hx1) (TO.gq rfl rfl (q_ix (i := (toN p.d s x)) uT81 inf4 rfl rfl (Sl.o hs) hto (by rw [List.length_map]; exact hts)) (TO.gq rfl rfl (q_ld uT4 rfl rfl (Sl.o hs) (bools_atD hts)) (TO.q (q_pick1 rfl rfl) (TO.nl (T.condP (p := ss.getD (toN p.d s x) false = true) (congrArg Value.bool (by cases ss.getD (toN p.d s x) false <;> rfl)) (fun hc => ?_) (fun hc => ?_))))))
    ·have hyy := hM2.yes h41 hc hto
     refine T.draws _ [(0, 0), (1, 0), (2, 0), (3, 0), (4, 0), (5, 0), (6, 0), (7, 0), (8, 0), (9, 0), (10, 0), (11, 0), (12, 0), (13, 2)] mixed (drawF_ok (by kernel_rfl)) (Sub.of (List.Sublist.refl _)) (fun _ _ _ h => h) ?_
     refine DO.q rfl (q_move rfl) (DO.q rfl (q_move rfl) (DO.q rfl (q_ix (i := s) uT87 inf81 rfl rfl (rowO (mG 1 rfl)) hsn (by simp; omega)) (DO.q rfl (q_ld uT81 rfl rfl (rowO (mG 1 rfl)) (hole_get (by simpa using hql))) (DO.q rfl (q_fa uT25 rfl inf22 rfl rfl) (DO.q rfl (q_lb 2 uT22 rfl rfl rfl rfl) (DO.q rfl (q_move rfl) (DO.q rfl (q_ix (i := s) uT22 inf23 rfl rfl (Sl.o h.outer) hsn (hvl ▸ hsn)) (DO.q rfl (q_ld uT23 rfl rfl (Sl.o h.outer) g1) (DO.q rfl (q_move rfl) (DO.q rfl (q_ix (i := x) uT23 inf3 rfl rfl (Sl.o s1) hxk1 (by rw [List.length_map]; exact hxk1)) (DO.q rfl (q_ld uT3 rfl rfl (Sl.o s1) hx1) (DO.q rfl (q_ix (i := (toN p.d s x)) uT81 inf4 rfl rfl (rowO (mG 0 rfl)) hto (by rw [List.length_map, hM2.len]; exact hto)) ?_))))))))))))
     refine DO.last rfl rfl (l_st (j := (toN p.d s x)) (v := .bool true) (vs := [(.bool true)]) (cs := bools xs) 0 inf4 rfl rfl rfl rfl rfl (by simp) rfl (by rw [List.length_map, hM2.len]; exact hto) ?_)
     refine DO.sub (O' := ([rowI (aD zX) p.next.length 4 1 (bools (xs.set (toN p.d s x) true)), rowI (aD z2) p.next.length 81 1 ((bvals qs) ++ ((.slice (aD zX) p.next.length p.next.length) :: (List.replicate (p.next.length - (s + 1)) nS))), oI z1 25 (pC p k)] ++ (bitms 4 qs))) (by rw [show putL (bools xs) (toN p.d s x) [(.bool true)] = bools (xs.set (toN p.d s x) true) from (by simp [putL])]; exact Sub.of (List.Sublist.refl _)) ?_
     refine DO.done ?_
     refine T.rg (TO.qm rfl (TO.q (q_addN (a := x) (b := 1) rfl rfl (by omega)) (TO.qa rfl (TO.nl ?_))))
     exact ⟨x + 1, by omega, xs.set (toN p.d s x) true, rfl, by omega, hyy, (.of rfl)⟩
    have hnn := hM2.no (fun q9 => hc q9.2)
    refine T.skip (T.rg (TO.qm rfl (TO.q (q_addN (a := x) (b := 1) rfl rfl (by omega)) (TO.qa rfl (TO.nl ?_)))))
    exact ⟨x + 1, by omega, xs, rfl, by omega, (by first | exact hnn | exact hM2.no (fun q9 => h41 q9.1)), (.of rfl)⟩
   refine TO.q (QT.toB (q_move rfl) (Bool.eq_false_iff.2 h41)) (TO.pd rfl rfl (TO.pd rfl rfl (TO.pd rfl rfl (TO.pd rfl rfl (TO.pd rfl rfl (TO.pd rfl rfl (TO.pd rfl rfl ?_)))))))
   refine TO.pd rfl rfl (TO.pd rfl rfl (TO.pd rfl rfl (TO.pd rfl rfl (TO.q (q_pick0 rfl rfl) (TO.nl (T.cond0 rfl (T.skip (T.rg ?_))))))))
   refine TO.qm rfl (TO.q (q_addN (a := x) (b := 1) rfl rfl (by omega)) (TO.qa rfl (TO.nl ?_)))
   exact ⟨x + 1, by omega, xs, rfl, by omega, (by first | exact hnn | exact hM2.no (fun q9 => h41 q9.1)), (.of rfl)⟩
  have hge34 : ¬ x < p.next[s].length := by omega
  refine T.exit ?_
  refine T.rg (TO.qm rfl (TO.q (q_addN (a := s) (b := 1) rfl rfl (by omega)) (TO.qa rfl ?_)))
  have hR : rowI (aD zX) p.next.length 4 1 (bools xs) = BRec.itm 4 ⟨(aD zX), p.next.length, xs⟩ := rfl
  refine TO.sub (O' := [rowI (aD z2) p.next.length 81 1 ((bvals qs) ++ ((.slice (aD zX) p.next.length p.next.length) :: (List.replicate (p.next.length - (s + 1)) nS))), oI z1 25 (pC p k)] ++ (bitms 4 (qs ++ [⟨(aD zX), p.next.length, xs⟩]))) (by rw [hR]; exact Sub.cnt [] (by intro a; simp only [itms, bitms, oI, List.set_cons_zero, List.set_cons_succ, putL, List.cons_append, List.nil_append, List.append_nil, List.append_assoc, List.map_append, List.map_cons, List.map_nil, cnt_append, cnt_cons, cnt_nil, vI, nS, aD] <;> omega)) ?_
  refine TO.nl ?_
  exact ⟨s + 1, by omega, qs ++ [⟨(aD zX), p.next.length, xs⟩], by simp [BRec.val, hM2.len], by omega, hM.snoc hsn (by have e9 : letN p.d = p.next[s].length := hr1.symm; omega) hx hM2 _ _, (.of rfl)⟩
 have hge19 : ¬ s < p.next.length := by omega
 refine T.exit ?_
 refine T.s (T.s (T.rg (TO.qa rfl (TO.nl (T.block ?_)))))
 have hse : s = p.next.length := by omega
 have hR0 : (bvals qs) ++ (List.replicate (p.next.length - s) nS) = bvals qs := by rw [show p.next.length - s = 0 by omega]; simp
 rw [hR0]
 rw [hse] at hM
 obtain ⟨hSq0, hW0⟩ := hM.war
 refine T.loop (fun (a : Nat) ρ O => ∃ (qs : List BRec), O = ([rowI (aD z2) p.next.length 81 1 (bvals qs), oI z1 25 (pC p k)] ++ (bitms 4 qs)) ∧ a ≤ p.next.length ∧ SqM p.next.length qs ∧ WarI (InS (DE p.d) (sB ss)) p.next.length a 0 0 (gB qs) ∧ Heads [(0, (pV p k)), (1, (.slice sb p.next.length sc)), (2, (.pointer (aD z1))), (4, nS), (5, vI (p.next.length : Int)), (6, (.slice (aD z2) p.next.length p.next.length)), (9, vI ((a : Nat) : Int))] ρ) (fun a => p.next.length - a) 0 ?_ ?_
 ·exact ⟨qs, rfl, Nat.zero_le _, hSq0, hW0, (.of rfl)⟩
 rintro a ρ O ⟨qs, rfl, ha, hSq, hW, hH⟩
 obtain ⟨ρ0, rfl⟩ := hH.elim
 clear hH
 refine T.s (T.s (T.rg (TO.qm rfl (TO.qm rfl (TO.q (q_lss rfl rfl) (TO.nl (T.condP rfl (fun hc => ?_) (fun hc => ?_))))))))
 ·have hlt69 : a < p.next.length := by omega
  have han : a < p.next.length := by omega
  refine T.skip (T.s (T.block (T.s (T.rg (TO.qa rfl (TO.nl (T.block ?_)))))))
  refine T.loop (fun (i : Nat) ρ O => ∃ (ms : List BRec), O = ([rowI (aD z2) p.next.length 81 1 (bvals ms), oI z1 25 (pC p k)] ++ (bitms 4 ms)) ∧ i ≤ p.next.length ∧ SqM p.next.length ms ∧ WarI (InS (DE p.d) (sB ss)) p.next.length a i 0 (gB ms) ∧ Heads [(0, (pV p k)), (1, (.slice sb p.next.length sc)), (2, (.pointer (aD z1))), (4, nS), (5, vI (p.next.length : Int)), (6, (.slice (aD z2) p.next.length p.next.length)), (9, vI ((a : Nat) : Int)), (10, vI ((i : Nat) : Int))] ρ) (fun i => p.next.length - i) 0 ?_ ?_
  ·exact ⟨qs, rfl, Nat.zero_le _, hSq, hW, (.of rfl)⟩
  rintro i ρ O ⟨ms, rfl, hi, hSm, hWm, hH⟩
  obtain ⟨ρ0, rfl⟩ := hH.elim
  clear hH
  refine T.s (T.s (T.rg (TO.qm rfl (TO.qm rfl (TO.q (q_lss rfl rfl) (TO.nl (T.condP rfl (fun hc => ?_) (fun hc => ?_))))))))
  ·have hlt74 : i < p.next.length := by omega
   have hin : i < p.next.length := by omega
   refine T.skip (T.s (T.block (T.s (T.rg (TO.qa rfl (TO.nl (T.block ?_)))))))
   refine T.loop (fun (j : Nat) ρ O => ∃ (ks : List BRec), O = ([rowI (aD z2) p.next.length 81 1 (bvals ks), oI z1 25 (pC p k)] ++ (bitms 4 ks)) ∧ j ≤ p.next.length ∧ SqM p.next.length ks ∧ WarI (InS (DE p.d) (sB ss)) p.next.length a i j (gB ks) ∧ Heads [(0, (pV p k)), (1, (.slice sb p.next.length sc)), (2, (.pointer (aD z1))), (4, nS), (5, vI (p.next.length : Int)), (6, (.slice (aD z2) p.next.length p.next.length)), (9, vI ((a : Nat) : Int)), (10, vI ((i : Nat) : Int)), (11, vI ((j : Nat) : Int))] ρ) (fun j => p.next.length - j) 0 ?_ ?_
   ·exact ⟨ms, rfl, Nat.zero_le _, hSm, hWm, (.of rfl)⟩
   rintro j ρ O ⟨ks, rfl, hj, hSk, hWk, hH⟩
   obtain ⟨ρ0, rfl⟩ := hH.elim
   clear hH
   have hkl := hSk.len
   have hik : i < ks.length := by omega
   have hak : a < ks.length := by omega
   have hki := hSk.row _ (List.getElem_mem hik)
   have hka := hSk.row _ (List.getElem_mem hak)
   have hai : a < ks[i].xs.length := by omega
   refine T.s (T.s (T.rg (TO.qm rfl (TO.qm rfl ?_))))
   by_cases h79 : ((j : Nat) : Int) < (p.next.length : Int)
   ·refine TO.q (QT.toB (q_lss rfl rfl) (decide_eq_true h79)) ?_
    refine TO.qm rfl (TO.gq rfl rfl (q_move rfl) (TO.gq rfl rfl (q_move rfl) (TO.gq rfl rfl (q_ix (i := i) uT87 inf81 rfl rfl (rowO (mG 0 rfl)) hin (by rw [List.length_map]; exact hik)) (TO.gq rfl rfl (q_ld uT81 rfl rfl (rowO (mG 0 rfl)) (bvalsK_at hik)) (TO.gq rfl rfl (q_move rfl) (TO.gq rfl rfl (q_ix (i := a) uT81 inf4 rfl rfl (fun w9 hI9 => hI9.slOf (brow_at (E := 4) hik)) hai (by rw [List.length_map]; exact hai)) (TO.gq rfl rfl (q_ld uT4 rfl rfl (fun w9 hI9 => hI9.slOf (brow_at (E := 4) hik)) (bools_gB hik hai)) ?_)))))))
    refine TO.q (q_pick1 rfl rfl) (TO.nl (T.condP (p := gB ks i a = true) (congrArg Value.bool (by cases gB ks i a <;> rfl)) (fun hc => ?_) (fun hc => ?_)))
    ·have hg : gB ks i a = true := hc
     have hjn : j < p.next.length := by omega
     have hji : j < ks[i].xs.length := by omega
     have hja : j < ks[a].xs.length := by omega
     refine T.skip (T.s (T.block ?_))
     refine T.sub (bsubK_out hik [rowI (aD z2) p.next.length 81 1 (bvals ks), oI z1 25 (pC p k)]) ?_
     refine T.draws _ [(0, 0), (1, 0), (2, 0), (3, 0), (4, 0), (5, 0), (6, 0), (7, 0), (8, 0), (9, 0), (10, 0), (11, 0), (12, 0), (13, 0), (14, 0), (15, 0), (16, 0), (17, 0), (18, 0), (19, 0), (20, 0), (21, 0), (22, 2)] mixed (drawF_ok (by kernel_rfl)) (Sub.of (List.Sublist.refl _)) (fun _ _ _ h => h) ?_
     refine DO.q rfl (q_move rfl) (DO.q rfl (q_move rfl) (DO.q rfl (q_ix (i := i) uT87 inf81 rfl rfl (rowO (mG 1 rfl)) hin (by rw [List.length_map]; exact hik)) (DO.q rfl (q_ld uT81 rfl rfl (rowO (mG 1 rfl)) (bvalsK_at hik)) (DO.q rfl (q_move rfl) (DO.q rfl (q_move rfl) (DO.q rfl (q_move rfl) (DO.q rfl (q_ix (i := i) uT87 inf81 rfl rfl (rowO (mG 1 rfl)) hin (by rw [List.length_map]; exact hik)) (DO.q rfl (q_ld uT81 rfl rfl (rowO (mG 1 rfl)) (bvalsK_at hik)) (DO.q rfl (q_move rfl) (DO.q rfl (q_ix (i := j) uT81 inf4 rfl rfl (rowO (mG 0 rfl)) hji (by rw [List.length_map]; exact hji)) (DO.q rfl (q_ld uT4 rfl rfl (rowO (mG 0 rfl)) (bools_gB hik hji)) ?_)))))))))))
     by_cases h103 : gB ks i j = true
     ·refine DO.q rfl (QT.toB (q_move rfl) (h103)) ?_
      refine DO.passed rfl rfl rfl (DO.passed rfl rfl rfl (DO.passed rfl rfl rfl (DO.passed rfl rfl rfl (DO.passed rfl rfl rfl (DO.passed rfl rfl rfl (DO.passed rfl rfl rfl (DO.q rfl (q_pick1 rfl rfl) (DO.q rfl (q_ix (i := j) uT81 inf4 rfl rfl (rowO (mG 0 rfl)) hji (by rw [List.length_map]; exact hji)) ?_))))))))
      refine DO.last rfl rfl (l_st (j := j) (v := .bool true) (vs := [(.bool true)]) (cs := bools ks[i].xs) 0 inf4 rfl rfl rfl rfl rfl (by simp) rfl (by rw [List.length_map]; exact hji) ?_)
      refine DO.sub (O' := ([rowI ks[i].b ks[i].c 4 1 (bools (ks[i].xs.set j true)), rowI (aD z2) p.next.length 81 1 (bvals ks), oI z1 25 (pC p k)] ++ (bitms 4 (ks.eraseIdx i)))) (by rw [show putL (bools ks[i].xs) j [(.bool true)] = bools (ks[i].xs.set j true) from (by simp [putL])]; exact Sub.of (List.Sublist.refl _)) ?_
      refine DO.done ?_
      refine T.sub (O' := [rowI ks[i].b ks[i].c 4 1 (bools (ks[i].xs.set j true)), rowI (aD z2) p.next.length 81 1 (bvals ks), oI z1 25 (pC p k)] ++ (bitms 4 (ks.eraseIdx i))) (Sub.pickR [0, 0, 0] [rowI ks[i].b ks[i].c 4 1 (bools (ks[i].xs.set j true)), rowI (aD z2) p.next.length 81 1 (bvals ks), oI z1 25 (pC p k)] (bitms 4 (ks.eraseIdx i)) rfl rfl) ?_
      refine T.sub (O' := [rowI (aD z2) p.next.length 81 1 (bvals ks), oI z1 25 (pC p k)] ++ (bitms 4 (ks.set i ⟨ks[i].b, ks[i].c, ks[i].xs.set j true⟩))) (bsubK_in hik [rowI (aD z2) p.next.length 81 1 (bvals ks), oI z1 25 (pC p k)] ⟨ks[i].b, ks[i].c, ks[i].xs.set j true⟩) ?_
      refine T.sub (O' := [rowI (aD z2) p.next.length 81 1 (bvals (ks.set i ⟨ks[i].b, ks[i].c, ks[i].xs.set j true⟩)), oI z1 25 (pC p k)] ++ (bitms 4 (ks.set i ⟨ks[i].b, ks[i].c, ks[i].xs.set j true⟩))) (by rw [bvals_same hik (by simp)]; exact Sub.rf) ?_
      refine T.rg (TO.qm rfl (TO.q (q_addN (a := j) (b := 1) rfl rfl (by omega)) (TO.qa rfl (TO.nl ?_))))
      exact ⟨j + 1, by omega, ks.set i ⟨ks[i].b, ks[i].c, ks[i].xs.set j true⟩, rfl, by omega, hSk.set hik true, hWk.step han hin hjn hg (fun a9 b9 => by rw [gB_set hik hji, h103]; rfl), (.of rfl)⟩
     refine DO.q rfl (QT.toB (q_move rfl) (Bool.eq_false_iff.2 h103)) ?_
     refine DO.guarded rfl rfl rfl (q_move rfl) ?_
     refine DO.guarded rfl rfl rfl (q_move rfl) ?_
     refine DO.guarded rfl rfl rfl (q_ix (i := a) uT87 inf81 rfl rfl (rowO (mG 1 rfl)) han (by rw [List.length_map]; exact hak)) ?_
     refine DO.guarded rfl rfl rfl (q_ld uT81 rfl rfl (rowO (mG 1 rfl)) (bvalsK_at hak)) ?_
     refine DO.guarded rfl rfl rfl (q_move rfl) ?_
     refine DO.guarded rfl rfl rfl (q_ix (i := j) uT81 inf4 rfl rfl (fun w9 hI9 => hI9.slOf (brow_any (E := 4) hik hak _)) hja (by rw [List.length_map]; exact hja)) ?_
     refine DO.guarded rfl rfl rfl (q_ld uT4 rfl rfl (fun w9 hI9 => hI9.slOf (brow_any (E := 4) hik hak _)) (bools_gB hak hja)) ?_
     refine DO.q rfl (q_pick0 rfl rfl) (DO.q rfl (q_ix (i := j) uT81 inf4 rfl rfl (rowO (mG 0 rfl)) hji (by rw [List.length_map]; exact hji)) ?_)
     refine DO.last rfl rfl (l_st (j := j) (v := .bool (gB ks a j)) (vs := [(.bool (gB ks a j))]) (cs := bools ks[i].xs) 0 inf4 rfl rfl rfl rfl rfl (by simp) rfl (by rw [List.length_map]; exact hji) ?_)
     refine DO.sub (O' := ([rowI ks[i].b ks[i].c 4 1 (bools (ks[i].xs.set j (gB ks a j))), rowI (aD z2) p.next.length 81 1 (bvals ks), oI z1 25 (pC p k)] ++ (bitms 4 (ks.eraseIdx i)))) (by rw [show putL (bools ks[i].xs) j [(.bool (gB ks a j))] = bools (ks[i].xs.set j (gB ks a j)) from (by simp [putL])]; exact Sub.of (List.Sublist.refl _)) ?_
     refine DO.done ?_
     refine T.sub (O' := [rowI ks[i].b ks[i].c 4 1 (bools (ks[i].xs.set j (gB ks a j))), rowI (aD z2) p.next.length 81 1 (bvals ks), oI z1 25 (pC p k)] ++ (bitms 4 (ks.eraseIdx i))) (Sub.pickR [0, 0, 0] [rowI ks[i].b ks[i].c 4 1 (bools (ks[i].xs.set j (gB ks a j))), rowI (aD z2) p.next.length 81 1 (bvals ks), oI z1 25 (pC p k)] (bitms 4 (ks.eraseIdx i)) rfl rfl) ?_
     refine T.sub (O' := [rowI (aD z2) p.next.length 81 1 (bvals ks), oI z1 25 (pC p k)] ++ (bitms 4 (ks.set i ⟨ks[i].b, ks[i].c, ks[i].xs.set j (gB ks a j)⟩))) (bsubK_in hik [rowI (aD z2) p.next.length 81 1 (bvals ks), oI z1 25 (pC p k)] ⟨ks[i].b, ks[i].c, ks[i].xs.set j (gB ks a j)⟩) ?_
     refine T.sub (O' := [rowI (aD z2) p.next.length 81 1 (bvals (ks.set i ⟨ks[i].b, ks[i].c, ks[i].xs.set j (gB ks a j)⟩)), oI z1 25 (pC p k)] ++ (bitms 4 (ks.set i ⟨ks[i].b, ks[i].c, ks[i].xs.set j (gB ks a j)⟩))) (by rw [bvals_same hik (by simp)]; exact Sub.rf) ?_
     refine T.rg (TO.qm rfl (TO.q (q_addN (a := j) (b := 1) rfl rfl (by omega)) (TO.qa rfl (TO.nl ?_))))
     exact ⟨j + 1, by omega, ks.set i ⟨ks[i].b, ks[i].c, ks[i].xs.set j (gB ks a j)⟩, rfl, by omega, hSk.set hik (gB ks a j), hWk.step han hin hjn hg (fun a9 b9 => by rw [gB_set hik hji, Bool.eq_false_iff.2 h103]; rfl), (.of rfl)⟩
    have hgf : gB ks i a = false := Bool.eq_false_iff.2 hc
    refine T.exit ?_
    refine T.rg (TO.qm rfl (TO.q (q_addN (a := i) (b := 1) rfl rfl (by omega)) (TO.qa rfl (TO.nl ?_))))
    exact ⟨i + 1, by omega, ks, rfl, by omega, hSk, hWk.row han (by first | exact .inl (by omega) | exact .inr hgf), (.of rfl)⟩
   refine TO.q (QT.toB (q_lss rfl rfl) (decide_eq_false h79)) (TO.qm rfl (TO.pd rfl rfl (TO.pd rfl rfl (TO.pd rfl rfl (TO.pd rfl rfl (TO.pd rfl rfl (TO.pd rfl rfl (TO.pd rfl rfl ?_))))))))
   refine TO.q (q_pick0 rfl rfl) (TO.nl (T.cond0 rfl ?_))
   refine T.exit ?_
   refine T.rg (TO.qm rfl (TO.q (q_addN (a := i) (b := 1) rfl rfl (by omega)) (TO.qa rfl (TO.nl ?_))))
   exact ⟨i + 1, by omega, ks, rfl, by omega, hSk, hWk.row han (by first | exact .inl (by omega) | exact .inr hgf), (.of rfl)⟩
  have hge74 : ¬ i < p.next.length := by omega
  refine T.exit ?_
  refine T.rg (TO.qm rfl (TO.q (q_addN (a := a) (b := 1) rfl rfl (by omega)) (TO.qa rfl (TO.nl ?_))))
  exact ⟨a + 1, by omega, ms, rfl, by omega, hSm, hWm.next (by omega), (.of rfl)⟩
 have hge69 : ¬ a < p.next.length := by omega
 refine T.exit ?_
 refine T.s (T.rg (TO.qm rfl (TO.qa rfl (TO.nl (T.ret (Res.drop ?_))))))
 refine Res.one (.slice (aD z2) p.next.length p.next.length) Tryd.results71 rfl ?_
 exact ⟨[rowI (aD z2) p.next.length 81 1 (bvals qs)] ++ bitms 4 qs, (Sub.pickR [0] [rowI (aD z2) p.next.length 81 1 (bvals qs), oI z1 25 (pC p k)] (bitms 4 qs) rfl rfl), _, _, qs, rfl, rfl, hSq, fun a9 b9 h1 h2 => hW.done (by omega) (fun u v e => DE_lt hv.val u v e.1) h1 h2⟩
end Go.Proofs.YtnikhiohindggaaDoor

