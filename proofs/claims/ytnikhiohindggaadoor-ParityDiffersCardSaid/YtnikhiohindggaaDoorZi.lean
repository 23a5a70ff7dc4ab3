/- Contracts of functions of the program (Zv, Yx, Yn, Yq, Zh, Zi): what each call answers and that it leaves memory as it was. Conditions: those each theorem names. -/
import Derived.Test.YtnikhiohindggaaDoorCoreL
import Derived.Test.YtnikhiohindggaaDoorYs
import Derived.Test.YtnikhiohindggaaDoorZa
import Derived.Test.YtnikhiohindggaaDoorZg
import Derived.Test.YtnikhiohindggaaDoorYm
set_option linter.unusedSectionVars false
set_option linter.unusedSimpArgs false
set_option linter.unusedVariables false
set_option linter.unnecessarySimpa false
set_option maxHeartbeats 8000000
set_option maxRecDepth 20000
namespace Go.Proofs.YtnikhiohindggaaDoor
open Go.Lx Go.RowKit _root_.Go.Proofs.Tryd
theorem textQ (w : World) [Tab Tryd.prog w] [Tab Tryd.prog w] (b : Option Addr) (c n : Nat) (l : List Nat) (hn : n = l.length) (h : Sl w b (nats l)) (hl : ∀ x ∈ l, x < 10000) (hll : l.length ≤ 64) :
  PureT Tryd.prog 58 [.slice b n c] w fun v N => v = str (txtL l) ∧ N = [] := by
 subst hn; exact textF w b c l h hl hll
theorem keyT : PairS Tryd.prog 86 ⟨"class", 3, 0, false, "", "sentinel/parity", 0⟩ ⟨"next", 9, 1, false, "", "sentinel/parity", 8⟩ := ⟨uT86, uT3, uT9, rfl, rfl, by decide, by decide, by kernel_rfl⟩
theorem parQuo0 (w : World) [Tab Tryd.prog w] (p : Par) (k : DK) (h : AtP w p k) (hB : ParC p) :
  PureT Tryd.prog 27 [pV p k] w fun v N => ∃ nb nc fb fc qs, v = .tuple #[.agg (parCells (quoV p) nb nc fb fc).toArray, vI (checkP p : Int)] ∧ N = [rowI nb nc 23 1 (vals qs), rowI fb fc 3 1 (ints (quoV p).prio)] ++ itms 3 qs ∧ nums qs = (quoV p).next := by
 refine CallT.enter func27 rfl ntmps27 rfl ?_
 have hBn := hB.n; have hBf := hB.f
 have hvl := h.rows.1
 refine T.s (T.rg (TO.l rfl (l_box (v := (pV p k)) (cs := (pC p k)) rfl rfl (fun z1 => ?_))))
 refine TO.l rfl (l_alloc inf25 rfl (fun z2 => ?_))
 refine TO.qa rfl (TO.nl (T.s (T.s (T.rg (TO.q (q_la 1 uT25 rfl inf25 rfl rfl rfl) ?_)))))
 have hk27 := fun (w1 : World) (hI : Inv w [oI z2 25 [(vI 0), (vI 0), nS, nS], oI z1 25 (pC p k)] w1) => (haveI := tbz hI; parCheck w1 p k (hI.atQ h) hB)
 refine TO.l rfl (l_call ent20 (CallT.op hk27) rfl ?_)
 clear hk27
 rintro vr O' ⟨N, rfl, rfl, rfl⟩
 refine TO.qa rfl (TO.nl (T.s (T.rg (TO.qm rfl (TO.q (q_neq rfl rfl) (TO.nl (T.condP rfl (fun hc => ?_) (fun hc => ?_))))))))
 ·have hlt29 : checkP p ≠ 0 := by omega
  refine T.s (T.nilRow 23 1 (T.nilRow 3 1 ?_))
  refine T.rg (TO.q (q_build plan25 inf25 rfl) (TO.qm rfl (TO.l rfl (l_sb (v := (.agg #[(vI 0), (vI 0), nS, nS])) (vs := [(vI 0), (vI 0), nS, nS]) 2 inf25 rfl rfl rfl rfl rfl rfl (by simp [putL]) ?_))))
  refine TO.qa rfl (TO.nl (T.ret (Res.drop ?_)))
  refine Res.cell1b (vI (checkP p : Int)) (i := 2) Tryd.results27 uT25 rfl inf25 rfl rfl rfl rfl ?_
  rw [quoV_no (by omega)]
  exact ⟨[rowI none 0 23 1 [], rowI none 0 3 1 []] ++ itms 3 [], (by exact Sub.k (.k .z)), none, 0, none, 0, [], rfl, rfl, rfl⟩
 have hge29 : ¬ checkP p ≠ 0 := by omega
 have he0 : checkP p = 0 := by omega
 have hv : ValidP p := checkP_zero.1 he0
 have hn4 := hv.n4
 have h6 := hv.letN6
 refine T.skip (T.s (T.rg (TO.q (q_fa uT25 rfl inf23 rfl rfl) (TO.q (q_lb 1 uT23 rfl rfl rfl rfl) ?_))))
 have hk34 := fun (w1 : World) (hI : Inv w [oI z2 25 [(vI 0), (vI 0), nS, nS], oI z1 25 (pC p k)] w1) => (haveI := tbz hI; cloneI w1 k.fb k.fc p.prio (hI.sl h.prio) (by rw [hv.pl]; omega))
 refine TO.l rfl (l_call ent57 (CallT.op hk34) rfl ?_)
 clear hk34
 rintro vr O' ⟨N, rfl, cb0, cc0, rfl, rfl⟩
 refine TO.qa rfl (TO.nl (T.s (T.s (T.rg (TO.qa rfl (TO.nl (T.block ?_)))))))
 refine T.loopS (fun (kk : Nat) ρ O => ∃ (cb : Option Addr) (cc : Nat), O = [rowI cb cc 3 1 (nats (clsQ p kk)), oI z2 25 [(vI 0), (vI 0), nS, nS], oI z1 25 (pC p k)] ∧ Heads [(0, (pV p k)), (1, (.pointer (aD z1))), (2, (.pointer (aD z2))), (3, vI 0), (4, vI (checkP p : Int)), (5, (.slice cb p.next.length cc)), (6, vI ((cntQ p kk : Nat) : Int))] ρ) (fun kk => p.next.length + 1 - cntQ p kk) 0 ?_ ?_
 ·exact ⟨cb0, cc0, by rw [prio_cls hv]; rfl, ⟨rfl, rfl, rfl, rfl, rfl, (by rw [hv.pl]; rfl), rfl, trivial⟩⟩
 rintro kk ρ O ⟨cb, cc, rfl, hH⟩
 obtain ⟨ρ0, rfl⟩ := hH.elim
 clear hH
 have hcl := clsQ_len p kk
 have hclt := clsQ_lt hv kk
 have hnle := numQ_le p kk
 refine T.block (T.s (T.rg ?_))
 refine TO.l rfl (l_makeMap keyV (fun n : Nat => Value.int .i64 (n : Int)) (fun mq3 => ?_))
 refine TO.qa rfl (TO.nl (T.s (T.rg (TO.qm rfl (TO.q (q_len uT23 rfl) (TO.l rfl (l_makeSlice (m := p.next.length) uT23 inf3 rfl rfl (by omega) (by omega) (fun z4 => ?_))))))))
 refine TO.qa rfl (TO.nl (T.s (T.s (T.rg (TO.q (q_fa uT25 rfl inf22 rfl rfl) (TO.q (q_lb 4 uT22 rfl rfl rfl rfl) (TO.q (q_len uT22 rfl) (TO.qm rfl (TO.nl (T.block ?_))))))))))
 refine T.loopS (fun (s : Nat) ρ O => ∃ (xs : List Nat) (ks : List KeyQ), O = [rowI (aD z4) p.next.length 3 1 (nats xs), mapI keyV (fun n : Nat => Value.int .i64 (n : Int)) mq3 ks.zipIdx, rowI cb cc 3 1 (nats (clsQ p kk)), oI z2 25 [(vI 0), (vI 0), nS, nS], oI z1 25 (pC p k)] ∧ RefQ p (clsQ p kk) s xs ks ∧ Heads [(0, (pV p k)), (1, (.pointer (aD z1))), (2, (.pointer (aD z2))), (3, vI 0), (4, vI (checkP p : Int)), (5, (.slice cb p.next.length cc)), (6, vI ((cntQ p kk : Nat) : Int)), (7, (.map (some mq3))), (8, (.slice (aD z4) p.next.length p.next.length)), (40, (.slice k.nb p.next.length k.nc)), (41, vI (p.next.length : Int)), (42, vI ((s : Nat) : Int))] ρ) (fun s => p.next.length - s) 0 ?_ ?_
 ·exact ⟨List.replicate p.next.length 0, [], by rw [zeros_nats]; rfl, RefQ.start _ _, (.of rfl)⟩
 rintro s ρ O ⟨xs, ks, rfl, hR, hH⟩
 obtain ⟨ρ0, rfl⟩ := hH.elim
 clear hH
 have hxl := hR.len
 have hkf := hR.few
 have hs := hR.le
 refine T.s (T.rg (TO.q (q_lss rfl rfl) (TO.nl (T.s (T.condP rfl (fun hc => ?_) (fun hc => ?_))))))
 ·have hlt43 : s < p.next.length := by omega
  have hsn : s < p.next.length := by omega
  obtain ⟨v1, c1, g1, s1⟩ := h.rows.get hsn
  have hr1 : p.next[s].length = letN p.d := hv.val.len _ (List.getElem_mem hsn)
  refine T.skip (T.s (T.block (T.s (T.rg (TO.qm rfl (TO.q (q_ix (i := s) uT22 inf23 rfl rfl (Sl.o h.outer) hsn (hvl ▸ hsn)) (TO.q (q_ld uT23 rfl rfl (Sl.o h.outer) g1) (TO.qa rfl (TO.qa rfl (TO.nl (T.s (T.rg (TO.qm rfl (TO.q (q_len uT23 rfl) (TO.l rfl (l_makeSlice (m := p.next[s].length) uT23 inf3 rfl rfl (by omega) (by omega) (fun z5 => ?_)))))))))))))))))
  refine TO.qa rfl (TO.nl (T.s (T.s (T.rg (TO.qm rfl (TO.q (q_len uT23 rfl) (TO.qm rfl (TO.nl (T.block ?_)))))))))
  refine T.loopS (fun (x : Nat) ρ O => O = [rowI (aD z5) p.next[s].length 3 1 (nats (nCut (rowQ p (clsQ p kk) s) x)), rowI (aD z4) p.next.length 3 1 (nats xs), mapI keyV (fun n : Nat => Value.int .i64 (n : Int)) mq3 ks.zipIdx, rowI cb cc 3 1 (nats (clsQ p kk)), oI z2 25 [(vI 0), (vI 0), nS, nS], oI z1 25 (pC p k)] ∧ x ≤ letN p.d ∧ Heads [(0, (pV p k)), (1, (.pointer (aD z1))), (2, (.pointer (aD z2))), (3, vI 0), (4, vI (checkP p : Int)), (5, (.slice cb p.next.length cc)), (6, vI ((cntQ p kk : Nat) : Int)), (7, (.map (some mq3))), (8, (.slice (aD z4) p.next.length p.next.length)), (9, vI ((s : Nat) : Int)), (10, (.slice v1 p.next[s].length c1)), (11, (.slice (aD z5) p.next[s].length p.next[s].length)), (40, (.slice k.nb p.next.length k.nc)), (41, vI (p.next.length : Int)), (42, vI ((s : Nat) : Int)), (50, (.slice v1 p.next[s].length c1)), (51, vI (p.next[s].length : Int)), (52, vI ((x : Nat) : Int))] ρ) (fun x => letN p.d - x) 0 ?_ ?_
  ·exact ⟨by rw [nCut_zero, rowQ_len, hr1, zeros_nats], Nat.zero_le _, (.of rfl)⟩
  rintro x ρ O ⟨rfl, hx, hH⟩
  obtain ⟨ρ0, rfl⟩ := hH.elim
  clear hH
  have hnl := nCut_len (rowQ p (clsQ p kk) s) (x := x) (by rw [rowQ_len]; exact hx)
  rw [rowQ_len] at hnl
  refine T.s (T.rg (TO.q (q_lss rfl rfl) (TO.nl (T.s (T.condP rfl (fun hc => ?_) (fun hc => ?_))))))
  ·have hlt53 : x < p.next[s].length := by omega
   have hxl9 : x < letN p.d := by omega
   obtain ⟨hto, hxk1, hx1, _⟩ := hv.to hsn hxl9
   refine T.skip (T.s (T.block (T.s (T.rg (TO.qm rfl (TO.q (q_ix (i := x) uT23 inf3 rfl rfl (Sl.o s1) hxk1 (by rw [List.length_map]; exact hxk1)) (TO.q (q_ld uT3 rfl rfl (Sl.o s1) hx1) (TO.qa rfl (TO.qa rfl (TO.nl (T.rg (TO.qm rfl (TO.qm rfl (TO.qm rfl (TO.qm rfl (TO.q (q_ix (i := (toN p.d s x)) uT23 inf3 rfl rfl (rowO (mG 3 rfl)) hto (by rw [List.length_map]; omega)) (TO.q (q_ld uT3 rfl rfl (rowO (mG 3 rfl)) (cls_get hcl hto)) (TO.q (q_ix (i := x) uT23 inf3 rfl rfl (rowO (mG 0 rfl)) hxk1 (by rw [List.length_map]; omega)) (TO.l rfl (l_st (j := x) (v := vI (((clsQ p kk).getD (toN p.d s x) 0 : Nat) : Int)) (vs := [(vI (((clsQ p kk).getD (toN p.d s x) 0 : Nat) : Int))]) (cs := nats (nCut (rowQ p (clsQ p kk) s) x)) 0 inf3 rfl rfl rfl rfl rfl (by simp) rfl (by first | (simp; omega) | (simp_all; omega)) ?_))))))))))))))))))))
   refine TO.sub (O' := [rowI (aD z5) p.next[s].length 3 1 (nats (nCut (rowQ p (clsQ p kk) s) (x + 1))), rowI (aD z4) p.next.length 3 1 (nats xs), mapI keyV (fun n : Nat => Value.int .i64 (n : Int)) mq3 ks.zipIdx, rowI cb cc 3 1 (nats (clsQ p kk)), oI z2 25 [(vI 0), (vI 0), nS, nS], oI z1 25 (pC p k)]) (by rw [show putL (nats (nCut (rowQ p (clsQ p kk) s) x)) x [(vI (((clsQ p kk).getD (toN p.d s x) 0 : Nat) : Int))] = nats (nCut (rowQ p (clsQ p kk) s) (x + 1)) from (by rw [← nCut_set (by rw [rowQ_len]; exact hxl9) (rowQ_get hxl9)]; simp [putL])]; exact Sub.of (List.Sublist.refl _)) ?_
   refine TO.nl (T.rg (TO.q (q_addN (a := x) (b := 1) rfl rfl (by omega)) (TO.qm rfl (TO.nl ?_))))
   exact ⟨x + 1, by omega, [rowI (aD z5) p.next[s].length 3 1 (nats (nCut (rowQ p (clsQ p kk) s) (x + 1))), rowI (aD z4) p.next.length 3 1 (nats xs), mapI keyV (fun n : Nat => Value.int .i64 (n : Int)) mq3 ks.zipIdx, rowI cb cc 3 1 (nats (clsQ p kk)), oI z2 25 [(vI 0), (vI 0), nS, nS], oI z1 25 (pC p k)], (by exact Sub.rf), rfl, by omega, (.of rfl)⟩
  have hge53 : ¬ x < p.next[s].length := by omega
  refine T.exit ?_
  have hnc : nCut (rowQ p (clsQ p kk) s) x = (rowQ p (clsQ p kk) s) := by
   have h9 := nCut_end (rowQ p (clsQ p kk) s)
   rw [rowQ_len] at h9
   rw [show x = letN p.d by omega]; exact h9
  refine T.sub (O' := [rowI (aD z5) p.next[s].length 3 1 (nats (rowQ p (clsQ p kk) s)), rowI (aD z4) p.next.length 3 1 (nats xs), mapI keyV (fun n : Nat => Value.int .i64 (n : Int)) mq3 ks.zipIdx, rowI cb cc 3 1 (nats (clsQ p kk)), oI z2 25 [(vI 0), (vI 0), nS, nS], oI z1 25 (pC p k)]) (by rw [hnc]; exact Sub.rf) ?_
  refine T.cut (fun ρ O => ∃ (kT : Nat), O = [oI kT 86 [vI (((clsQ p kk).getD s 0 : Nat) : Int), (str (txtL (rowQ p (clsQ p kk) s)))], rowI (aD z5) p.next[s].length 3 1 (nats (rowQ p (clsQ p kk) s)), rowI (aD z4) p.next.length 3 1 (nats xs), mapI keyV (fun n : Nat => Value.int .i64 (n : Int)) mq3 ks.zipIdx, rowI cb cc 3 1 (nats (clsQ p kk)), oI z2 25 [(vI 0), (vI 0), nS, nS], oI z1 25 (pC p k)] ∧ Heads [(0, (pV p k)), (1, (.pointer (aD z1))), (2, (.pointer (aD z2))), (3, vI 0), (4, vI (checkP p : Int)), (5, (.slice cb p.next.length cc)), (6, vI ((cntQ p kk : Nat) : Int)), (7, (.map (some mq3))), (8, (.slice (aD z4) p.next.length p.next.length)), (9, vI ((s : Nat) : Int)), (10, (.slice v1 p.next[s].length c1)), (11, (.slice (aD z5) p.next[s].length p.next[s].length)), (14, (.pointer (aD kT))), (40, (.slice k.nb p.next.length k.nc)), (41, vI (p.next.length : Int)), (42, vI ((s : Nat) : Int))] ρ) ?_ ?_
  ·refine T.tree [rowI cb cc 3 1 (nats (clsQ p kk))] 9 mixed rfl (by exact Sub.d (.d (.d (.k .z)))) (fun _ _ _ h => h) ?_
   refine RO.quietT 0 rfl (by kernel_rfl) (q_move rfl) ?_
   refine RO.quietT 1 rfl (by kernel_rfl) (q_move rfl) ?_
   refine RO.quietT 2 rfl (by kernel_rfl) (q_ix (i := s) uT23 inf3 rfl rfl (rowO (mG 0 rfl)) hsn (by rw [List.length_map]; omega)) ?_
   refine RO.quietT 3 rfl (by kernel_rfl) (q_ld uT3 rfl rfl (rowO (mG 0 rfl)) (cls_get hcl hsn)) ?_
   refine RO.quietT 4 rfl (by kernel_rfl) (q_move rfl) ?_
   have hk70 := fun (w1 : World) (hI : Inv w [rowI (aD z5) p.next[s].length 3 1 (nats (rowQ p (clsQ p kk) s)), rowI (aD z4) p.next.length 3 1 (nats xs), mapI keyV (fun n : Nat => Value.int .i64 (n : Int)) mq3 ks.zipIdx, rowI cb cc 3 1 (nats (clsQ p kk)), oI z2 25 [(vI 0), (vI 0), nS, nS], oI z1 25 (pC p k)] w1) => (haveI := tbz hI; textQ w1 (aD z5) p.next[s].length p.next[s].length (rowQ p (clsQ p kk) s) (by rw [rowQ_len]; exact hr1) (hI.slOf (mG 0 rfl)) (rowQ_lt hclt s) (by rw [rowQ_len]; exact h6))
   refine RO.fork [5, 7] (by kernel_rfl) rfl ⟨⟨_, rfl, rfl, l_call ent58 (CallT.op hk70) rfl ?_⟩, ⟨_, rfl, rfl, l_alloc inf86 rfl (fun kT => ⟨by exact Sub.d (.d (.d (.d (.k .z)))), ?_⟩)⟩, trivial⟩
   ·clear hk70
    rintro vr O' ⟨N, rfl, rfl, rfl⟩
    refine ⟨by exact Sub.d (.d (.d (.k .z))), ?_⟩
    refine RO.quietT 6 rfl (by kernel_rfl) (q_build (cs := [vI (((clsQ p kk).getD s 0 : Nat) : Int), (str (txtL (rowQ p (clsQ p kk) s)))]) plan86 inf86 (by kernel_rfl)) ?_
    refine RO.fork [7] (by kernel_rfl) rfl ⟨⟨_, rfl, rfl, l_alloc inf86 rfl (fun kT => ⟨by exact Sub.d (.d (.d (.d (.k .z)))), ?_⟩)⟩, trivial⟩
    refine RO.fork [8] (by kernel_rfl) rfl ⟨⟨_, rfl, rfl, l_sb (v := (.agg #[vI (((clsQ p kk).getD s 0 : Nat) : Int), (str (txtL (rowQ p (clsQ p kk) s)))])) (vs := [vI (((clsQ p kk).getD s 0 : Nat) : Int), (str (txtL (rowQ p (clsQ p kk) s)))]) 0 inf86 rfl rfl rfl rfl rfl rfl (by simp [putL]) ⟨by exact Sub.d (.d (.d (.d (.k .z)))), ?_⟩⟩, trivial⟩
    exact RO.fin (by kernel_rfl) ⟨kT, rfl, (.of rfl)⟩ (by exact Sub.rf)
   have hk70 := fun (w1 : World) (hI : Inv w [oI kT 86 [(vI 0), (str [])], rowI (aD z5) p.next[s].length 3 1 (nats (rowQ p (clsQ p kk) s)), rowI (aD z4) p.next.length 3 1 (nats xs), mapI keyV (fun n : Nat => Value.int .i64 (n : Int)) mq3 ks.zipIdx, rowI cb cc 3 1 (nats (clsQ p kk)), oI z2 25 [(vI 0), (vI 0), nS, nS], oI z1 25 (pC p k)] w1) => (haveI := tbz hI; textQ w1 (aD z5) p.next[s].length p.next[s].length (rowQ p (clsQ p kk) s) (by rw [rowQ_len]; exact hr1) (hI.slOf (mG 1 rfl)) (rowQ_lt hclt s) (by rw [rowQ_len]; exact h6))
   refine RO.fork [5] (by kernel_rfl) rfl ⟨⟨_, rfl, rfl, l_call ent58 (CallT.op hk70) rfl ?_⟩, trivial⟩
   clear hk70
   rintro vr O' ⟨N, rfl, rfl, rfl⟩
   refine ⟨by exact Sub.d (.d (.d (.d (.k .z)))), ?_⟩
   refine RO.quietT 6 rfl (by kernel_rfl) (q_build (cs := [vI (((clsQ p kk).getD s 0 : Nat) : Int), (str (txtL (rowQ p (clsQ p kk) s)))]) plan86 inf86 (by kernel_rfl)) ?_
   refine RO.fork [8] (by kernel_rfl) rfl ⟨⟨_, rfl, rfl, l_sb (v := (.agg #[vI (((clsQ p kk).getD s 0 : Nat) : Int), (str (txtL (rowQ p (clsQ p kk) s)))])) (vs := [vI (((clsQ p kk).getD s 0 : Nat) : Int), (str (txtL (rowQ p (clsQ p kk) s)))]) 0 inf86 rfl rfl rfl rfl rfl rfl (by simp [putL]) ⟨by exact Sub.d (.d (.d (.d (.k .z)))), ?_⟩⟩, trivial⟩
   exact RO.fin (by kernel_rfl) ⟨kT, rfl, (.of rfl)⟩ (by exact Sub.rf)
  rintro ρ O ⟨kT, rfl, hH⟩
  obtain ⟨ρ0, rfl⟩ := hH.elim
  clear hH
  refine T.s (T.s (T.rg (TO.qm rfl (TO.q (q_la 0 uT86 rfl inf86 rfl rfl rfl) (TO.q (QT.cast (q_lookupOk (K := keyV) (V := (fun n : Nat => Value.int .i64 (n : Int))) (a := (keyQ p (clsQ p kk) s)) uT83 inf3 (KeyOk.pairS keyT) rfl rfl (mG 3 rfl)) (v' := .tuple #[vI ((if (keyQ p (clsQ p kk) s) ∈ ks then ix (keyQ p (clsQ p kk) s) ks else 0 : Nat) : Int), .bool (decide ((keyQ p (clsQ p kk) s) ∈ ks))]) (by rw [look_zk]; by_cases hm : (keyQ p (clsQ p kk) s) ∈ ks <;> simp [hm])) (TO.qm rfl (TO.q (q_extract (vs := _) rfl rfl) (TO.q (q_extract (vs := _) rfl rfl) (TO.qa rfl (TO.qa rfl (TO.nl (T.s (T.rg (TO.qm rfl (TO.q (q_not rfl) (TO.nl (T.condP (p := (keyQ p (clsQ p kk) s) ∉ ks) (congrArg Value.bool (by rw [decide_not])) (fun hc => ?_) (fun hc => ?_))))))))))))))))))
  ·have hk : (keyQ p (clsQ p kk) s) ∉ ks := hc
   refine T.rg (TO.qm rfl (TO.q (q_la 0 uT86 rfl inf86 rfl rfl rfl) (TO.qm rfl (TO.q (QT.cast (q_lenMap uT83 rfl (mG 3 rfl)) (v' := vI ((ks.length : Nat) : Int)) (by simp)) (TO.l rfl (l_mapPut (a := (keyQ p (clsQ p kk) s)) (v := ks.length) 3 uT83 (KeyOk.pairS keyT) rfl rfl rfl rfl (by rw [zipIdx_fst]; exact hk) ?_))))))
   refine TO.nl (T.rg (TO.qm rfl (TO.qm rfl (TO.qm rfl (TO.q (q_la 0 uT86 rfl inf86 rfl rfl rfl) (TO.q (QT.cast (q_lookup (K := keyV) (V := (fun n : Nat => Value.int .i64 (n : Int))) (a := (keyQ p (clsQ p kk) s)) uT83 inf3 (KeyOk.pairS keyT) rfl rfl (mG 3 rfl)) (v' := vI ((ks.length : Nat) : Int)) (by rw [← zip_snoc, look_zk, if_pos (by simp), ix_append_right hk]; simp [ix])) (TO.q (q_ix (i := s) uT23 inf3 rfl rfl (rowO (mG 2 rfl)) hsn (by rw [List.length_map]; omega)) (TO.l rfl (l_st (j := s) (v := vI ((ks.length : Nat) : Int)) (vs := [(vI ((ks.length : Nat) : Int))]) (cs := nats xs) 2 inf3 rfl rfl rfl rfl rfl (by simp) rfl (by first | (simp; omega) | (simp_all; omega)) ?_)))))))))
   refine TO.sub (O' := [oI kT 86 [vI (((clsQ p kk).getD s 0 : Nat) : Int), (str (txtL (rowQ p (clsQ p kk) s)))], rowI (aD z5) p.next[s].length 3 1 (nats (rowQ p (clsQ p kk) s)), rowI (aD z4) p.next.length 3 1 (nats (xs.set s ks.length)), mapI keyV (fun n : Nat => Value.int .i64 (n : Int)) mq3 (ks.zipIdx ++ [((keyQ p (clsQ p kk) s), ks.length)]), rowI cb cc 3 1 (nats (clsQ p kk)), oI z2 25 [(vI 0), (vI 0), nS, nS], oI z1 25 (pC p k)]) (by rw [show putL (nats xs) s [(vI ((ks.length : Nat) : Int))] = nats (xs.set s ks.length) from (by simp [putL])]; exact Sub.of (List.Sublist.refl _)) ?_
   refine TO.nl (T.rg (TO.q (q_addN (a := s) (b := 1) rfl rfl (by omega)) (TO.qm rfl (TO.nl ?_))))
   exact ⟨s + 1, by omega, [rowI (aD z4) p.next.length 3 1 (nats (xs.set s ks.length)), mapI keyV (fun n : Nat => Value.int .i64 (n : Int)) mq3 (ks.zipIdx ++ [((keyQ p (clsQ p kk) s), ks.length)]), rowI cb cc 3 1 (nats (clsQ p kk)), oI z2 25 [(vI 0), (vI 0), nS, nS], oI z1 25 (pC p k)], (by exact Sub.d (.d (.k (.k (.k (.k (.k .z))))))), xs.set s ks.length, ks ++ [(keyQ p (clsQ p kk) s)], by rw [zip_snoc], hR.miss hsn hk, (.of rfl)⟩
  have hk : (keyQ p (clsQ p kk) s) ∈ ks := Classical.not_not.1 hc
  refine T.skip (T.rg (TO.qm rfl (TO.qm rfl (TO.qm rfl (TO.q (q_la 0 uT86 rfl inf86 rfl rfl rfl) (TO.q (QT.cast (q_lookup (K := keyV) (V := (fun n : Nat => Value.int .i64 (n : Int))) (a := (keyQ p (clsQ p kk) s)) uT83 inf3 (KeyOk.pairS keyT) rfl rfl (mG 3 rfl)) (v' := vI ((ix (keyQ p (clsQ p kk) s) ks : Nat) : Int)) (by rw [look_zk, if_pos hk]; rfl)) (TO.q (q_ix (i := s) uT23 inf3 rfl rfl (rowO (mG 2 rfl)) hsn (by rw [List.length_map]; omega)) (TO.l rfl (l_st (j := s) (v := vI ((ix (keyQ p (clsQ p kk) s) ks : Nat) : Int)) (vs := [(vI ((ix (keyQ p (clsQ p kk) s) ks : Nat) : Int))]) (cs := nats xs) 2 inf3 rfl rfl rfl rfl rfl (by simp) rfl (by first | (simp; omega) | (simp_all; omega)) ?_)))))))))
  refine TO.sub (O' := [oI kT 86 [vI (((clsQ p kk).getD s 0 : Nat) : Int), (str (txtL (rowQ p (clsQ p kk) s)))], rowI (aD z5) p.next[s].length 3 1 (nats (rowQ p (clsQ p kk) s)), rowI (aD z4) p.next.length 3 1 (nats (xs.set s (ix (keyQ p (clsQ p kk) s) ks))), mapI keyV (fun n : Nat => Value.int .i64 (n : Int)) mq3 ks.zipIdx, rowI cb cc 3 1 (nats (clsQ p kk)), oI z2 25 [(vI 0), (vI 0), nS, nS], oI z1 25 (pC p k)]) (by rw [show putL (nats xs) s [(vI ((ix (keyQ p (clsQ p kk) s) ks : Nat) : Int))] = nats (xs.set s (ix (keyQ p (clsQ p kk) s) ks)) from (by simp [putL])]; exact Sub.of (List.Sublist.refl _)) ?_
  refine TO.nl (T.rg (TO.q (q_addN (a := s) (b := 1) rfl rfl (by omega)) (TO.qm rfl (TO.nl ?_))))
  exact ⟨s + 1, by omega, [rowI (aD z4) p.next.length 3 1 (nats (xs.set s (ix (keyQ p (clsQ p kk) s) ks))), mapI keyV (fun n : Nat => Value.int .i64 (n : Int)) mq3 ks.zipIdx, rowI cb cc 3 1 (nats (clsQ p kk)), oI z2 25 [(vI 0), (vI 0), nS, nS], oI z1 25 (pC p k)], (by exact Sub.d (.d (.k (.k (.k (.k (.k .z))))))), xs.set s (ix (keyQ p (clsQ p kk) s) ks), ks, rfl, hR.hit hsn hk, (.of rfl)⟩
 have hge43 : ¬ s < p.next.length := by omega
 refine T.exit ?_
 refine T.s (T.rg (TO.qm rfl (TO.qa rfl (TO.nl (T.s (T.s (T.rg (TO.qm rfl (TO.q (QT.cast (q_lenMap uT83 rfl (mG 1 rfl)) (v' := vI ((ks.length : Nat) : Int)) (by simp)) (TO.qm rfl (TO.q (q_eql rfl rfl) (TO.nl (T.condP rfl (fun hc => ?_) (fun hc => ?_))))))))))))))
 ·have hlt95 : ks.length = cntQ p kk := by omega
  obtain ⟨hxs, hks⟩ := hR.done (by omega)
  have hnum : ks.length = numQ p kk := by rw [hks]; rfl
  have hstop : numQ p kk = cntQ p kk := by omega
  refine T.exit ?_
  have hBis : BisB p (eqQ xs) := by rw [hxs]; exact clsQ_done hv hstop
  obtain ⟨FF, hFF⟩ : ∃ l, qN (eqQ xs) p.d p.next.length = l := ⟨_, rfl⟩
  have hst := hv.st
  refine T.sub (O' := [rowI (aD z4) p.next.length 3 1 (nats xs), oI z2 25 [(vI 0), (vI 0), nS, nS], oI z1 25 (pC p k)]) (by exact Sub.k (.d (.d (.k (.k .z))))) ?_
  refine T.cut (fun ρ O => ∃ (mN qB : Nat), O = [rowI (aD qB) 1 3 1 [vI ((p.start.toNat : Nat) : Int)], mapI KIn (fun n : Nat => Value.int .i64 (n : Int)) mN [(((xs.getD p.start.toNat 0 : Nat) : Int), (0 : Nat))], rowI (aD z4) p.next.length 3 1 (nats xs), oI z2 25 [(vI 0), (vI 0), nS, nS], oI z1 25 (pC p k)] ∧ Heads [(0, (pV p k)), (1, (.pointer (aD z1))), (2, (.pointer (aD z2))), (3, vI 0), (4, vI (checkP p : Int)), (5, (.slice (aD z4) p.next.length p.next.length)), (6, vI ((cntQ p kk : Nat) : Int)), (7, (.map (some mq3))), (8, (.slice (aD z4) p.next.length p.next.length)), (17, (.map (some mN))), (18, (.slice (aD qB) 1 1))] ρ) ?_ ?_
  ·refine T.tree [rowI (aD z4) p.next.length 3 1 (nats xs), oI z2 25 [(vI 0), (vI 0), nS, nS], oI z1 25 (pC p k)] 13 mixed rfl (by exact Sub.rf) (fun _ _ _ h => h) ?_
   refine RO.quietT 1 rfl (by kernel_rfl) (q_move rfl) ?_
   refine RO.quietT 2 rfl (by kernel_rfl) (q_fa uT25 rfl inf3 rfl rfl) ?_
   refine RO.quietT 3 rfl (by kernel_rfl) (QT.cast (q_lb 2 uT3 rfl rfl rfl rfl) (v' := vI ((p.start.toNat : Nat) : Int)) (congrArg (Value.int .i64) (Int.toNat_of_nonneg hv.val.s0).symm)) ?_
   refine RO.quietT 4 rfl (by kernel_rfl) (q_ix (i := p.start.toNat) uT23 inf3 rfl rfl (rowO (mG 0 rfl)) hst (by rw [List.length_map]; omega)) ?_
   refine RO.quietT 5 rfl (by kernel_rfl) (q_ld uT3 rfl rfl (rowO (mG 0 rfl)) (cls_get hxl hst)) ?_
   refine RO.quietT 8 rfl (by kernel_rfl) (q_fa uT25 rfl inf3 rfl rfl) ?_
   refine RO.quietT 9 rfl (by kernel_rfl) (QT.cast (q_lb 2 uT3 rfl rfl rfl rfl) (v' := vI ((p.start.toNat : Nat) : Int)) (congrArg (Value.int .i64) (Int.toNat_of_nonneg hv.val.s0).symm)) ?_
   refine RO.fork [0, 10] (by kernel_rfl) rfl ⟨⟨_, rfl, rfl, l_makeMap KIn (fun n : Nat => Value.int .i64 (n : Int)) (fun mN => ⟨by exact Sub.d (.k (.k (.k .z))), ?_⟩)⟩, ⟨_, rfl, rfl, l_build1 (v := vI ((p.start.toNat : Nat) : Int)) uT23 inf3 rfl rfl rfl (fun qB => ⟨by exact Sub.d (.k (.k (.k .z))), ?_⟩)⟩, trivial⟩
   ·refine RO.fork [6, 10] (by kernel_rfl) rfl ⟨⟨_, rfl, rfl, l_mapInsert (a := ((xs.getD p.start.toNat 0 : Nat) : Int)) (v := (0 : Nat)) 0 uT62 (KeyOk.int uT3) rfl rfl rfl rfl (by simp) ⟨by exact Sub.d (.k (.k (.k .z))), ?_⟩⟩, ⟨_, rfl, rfl, l_build1 (v := vI ((p.start.toNat : Nat) : Int)) uT23 inf3 rfl rfl rfl (fun qB => ⟨by exact Sub.d (.d (.k (.k (.k .z)))), ?_⟩)⟩, trivial⟩
    ·refine RO.quietT 7 rfl (by kernel_rfl) (q_move rfl) ?_
     refine RO.quietT 11 rfl (by kernel_rfl) (q_assign rfl) ?_
     refine RO.fork [10] (by kernel_rfl) rfl ⟨⟨_, rfl, rfl, l_build1 (v := vI ((p.start.toNat : Nat) : Int)) uT23 inf3 rfl rfl rfl (fun qB => ⟨by exact Sub.d (.d (.k (.k (.k .z)))), ?_⟩)⟩, trivial⟩
     refine RO.quietT 12 rfl (by kernel_rfl) (q_assign rfl) ?_
     exact RO.fin (by kernel_rfl) ⟨mN, qB, rfl, (.of rfl)⟩ (by exact Sub.rf)
    refine RO.fork [6] (by kernel_rfl) rfl ⟨⟨_, rfl, rfl, l_mapInsert (a := ((xs.getD p.start.toNat 0 : Nat) : Int)) (v := (0 : Nat)) 1 uT62 (KeyOk.int uT3) rfl rfl rfl rfl (by simp) ⟨by exact Sub.d (.d (.k (.k (.k .z)))), ?_⟩⟩, trivial⟩
    refine RO.quietT 7 rfl (by kernel_rfl) (q_move rfl) ?_
    refine RO.quietT 11 rfl (by kernel_rfl) (q_assign rfl) ?_
    refine RO.quietT 12 rfl (by kernel_rfl) (q_assign rfl) ?_
    exact RO.fin (by kernel_rfl) ⟨mN, qB, rfl, (.of rfl)⟩ (by exact Sub.rf)
   refine RO.fork [0] (by kernel_rfl) rfl ⟨⟨_, rfl, rfl, l_makeMap KIn (fun n : Nat => Value.int .i64 (n : Int)) (fun mN => ⟨by exact Sub.d (.d (.k (.k (.k .z)))), ?_⟩)⟩, trivial⟩
   refine RO.fork [6] (by kernel_rfl) rfl ⟨⟨_, rfl, rfl, l_mapInsert (a := ((xs.getD p.start.toNat 0 : Nat) : Int)) (v := (0 : Nat)) 0 uT62 (KeyOk.int uT3) rfl rfl rfl rfl (by simp) ⟨by exact Sub.d (.d (.k (.k (.k .z)))), ?_⟩⟩, trivial⟩
   refine RO.quietT 7 rfl (by kernel_rfl) (q_move rfl) ?_
   refine RO.quietT 11 rfl (by kernel_rfl) (q_assign rfl) ?_
   refine RO.quietT 12 rfl (by kernel_rfl) (q_assign rfl) ?_
   exact RO.fin (by kernel_rfl) ⟨mN, qB, rfl, (.of rfl)⟩ (by exact Sub.pull [mapI KIn (fun n : Nat => Value.int .i64 (n : Int)) mN [(((xs.getD p.start.toNat 0 : Nat) : Int), (0 : Nat))]] _ (.k (.k (.k (.k .z)))))
  rintro ρ O ⟨mN, qB, rfl, hH⟩
  obtain ⟨ρ0, rfl⟩ := hH.elim
  clear hH
  refine T.s (T.rg (TO.q (q_fa uT25 rfl inf3 rfl rfl) (TO.q (q_lb 4 uT3 rfl rfl rfl rfl) (TO.q (q_build (cs := [(vI p.vars), (vI 0), nS, nS]) plan25 inf25 (by kernel_rfl)) (TO.l rfl (l_alloc inf25 rfl (fun z6 => ?_)))))))
  refine TO.l rfl (l_sb (v := (.agg #[(vI p.vars), (vI 0), nS, nS])) (vs := [(vI p.vars), (vI 0), nS, nS]) 0 inf25 rfl rfl rfl rfl rfl rfl (by simp [putL]) ?_)
  refine TO.nl (T.s (T.s (T.rg (TO.qa rfl (TO.nl (T.block (T.nilRow 23 1 (T.nilRow 3 1 ?_))))))))
  refine T.sub (O' := [rowI (aD qB) 1 3 1 [vI ((p.start.toNat : Nat) : Int)], mapI KIn (fun n : Nat => Value.int .i64 (n : Int)) mN [(((xs.getD p.start.toNat 0 : Nat) : Int), (0 : Nat))], rowI none 0 23 1 [], rowI none 0 3 1 [], oI z6 25 [(vI p.vars), (vI 0), nS, nS], rowI (aD z4) p.next.length 3 1 (nats xs), oI z2 25 [(vI 0), (vI 0), nS, nS], oI z1 25 (pC p k)]) (by exact Sub.pull [rowI none 0 23 1 [], rowI none 0 3 1 [], oI z6 25 [(vI p.vars), (vI 0), nS, nS]] _ (.pull [rowI none 0 23 1 [], rowI none 0 3 1 [], oI z6 25 [(vI p.vars), (vI 0), nS, nS]] _ (.k (.k (.k (.k (.k (.k .z)))))))) ?_
  refine T.loopS (fun (i : Nat) ρ O => ∃ (lb nb fb : Option Addr) (lc nc fc : Nat) (qs : List Rec) (ls : List Nat), O = ([rowI lb lc 3 1 (nats ls), mapI KIn (fun n : Nat => Value.int .i64 (n : Int)) mN (mpQ xs ls), rowI nb nc 23 1 (vals qs), rowI fb fc 3 1 (ints ((FF.take i).map fun s => ((prN p s : Nat) : Int))), oI z6 25 [(vI p.vars), (vI 0), (.slice nb i nc), (.slice fb i fc)], rowI (aD z4) p.next.length 3 1 (nats xs), oI z2 25 [(vI 0), (vI 0), nS, nS], oI z1 25 (pC p k)] ++ (itms 3 qs)) ∧ i ≤ ls.length ∧ qs.length = i ∧ nums qs = (FF.take i).map (qRow (eqQ xs) p.d FF) ∧ ls = (qN (eqQ xs) p.d i) ∧ Heads [(0, (pV p k)), (1, (.pointer (aD z1))), (2, (.pointer (aD z2))), (3, vI 0), (4, vI (checkP p : Int)), (5, (.slice (aD z4) p.next.length p.next.length)), (6, vI ((cntQ p kk : Nat) : Int)), (7, (.map (some mq3))), (8, (.slice (aD z4) p.next.length p.next.length)), (17, (.map (some mN))), (18, (.slice lb ls.length lc)), (19, (.pointer (aD z6))), (20, vI ((i : Nat) : Int))] ρ) (fun i => p.next.length + 1 - i) 0 ?_ ?_
  ·exact ⟨_, none, none, 1, 0, 0, [], [p.start.toNat], rfl, Nat.zero_le _, rfl, rfl, rfl, (.of rfl)⟩
  rintro i ρ O ⟨lb, nb, fb, lc, nc, fc, qs, ls, rfl, hi, hql, hqs, hls, hH⟩
  obtain ⟨ρ0, rfl⟩ := hH.elim
  clear hH
  have hnl4 : ls.length ≤ p.next.length := by rw [hls]; exact qN_len hv hBis i
  refine T.s (T.s (T.rg (TO.qm rfl (TO.qm rfl (TO.q (q_len uT23 rfl) (TO.q (q_lss rfl rfl) (TO.nl (T.condP rfl (fun hc => ?_) (fun hc => ?_)))))))))
  ·have hlt114 : i < ls.length := by omega
   have hil : i < ls.length := by omega
   obtain ⟨s, hsi, hsn, hFi, hin⟩ := qN_at hv hBis (hls ▸ hil)
   rw [hFF] at hFi
   obtain ⟨v1, c1, g1, s1⟩ := h.rows.get hsn
   have hr1 : p.next[s].length = letN p.d := hv.val.len _ (List.getElem_mem hsn)
   have hgi : (nats ls)[i]? = some (vI ((s : Nat) : Int)) := by rw [List.getElem?_map, hls, hsi]; rfl
   have hsp : s < p.prio.length := by rw [hv.pl]; exact hsn
   refine T.skip (T.s (T.block (T.s ?_)))
   refine T.draws _ [(0, 0), (1, 0), (2, 0), (3, 0), (4, 0), (5, 0), (6, 0), (7, 0), (8, 0), (9, 2), (10, 2)] mixed (by kernel_rfl) (Sub.of (List.Sublist.refl _)) (fun _ _ _ h => h) ?_
   refine DO.q rfl (q_fa uT25 rfl inf22 rfl rfl) (DO.q rfl (q_lb 7 uT22 rfl rfl rfl rfl) (DO.q rfl (q_move rfl) (DO.q rfl (q_move rfl) (DO.q rfl (q_ix (i := i) uT23 inf3 rfl rfl (rowO (mG 0 rfl)) hil (by rw [List.length_map]; exact hil)) (DO.q rfl (q_ld uT3 rfl rfl (rowO (mG 0 rfl)) hgi) (DO.q rfl (q_ix (i := s) uT22 inf23 rfl rfl (Sl.o h.outer) hsn (hvl ▸ hsn)) (DO.q rfl (q_ld uT23 rfl rfl (Sl.o h.outer) g1) (DO.q rfl (q_len uT23 rfl) ?_))))))))
   refine DO.last rfl rfl (l_makeSlice (m := p.next[s].length) uT23 inf3 rfl rfl (by omega) (by omega) (fun z7 => ?_))
   refine DO.last rfl rfl (LT.oq rfl rfl (q_assign rfl) ?_)
   refine DO.done ?_
   refine T.s (T.s ?_)
   refine T.draws _ [(0, 0), (1, 0), (2, 0), (3, 0), (4, 0), (5, 0), (6, 0), (7, 0), (8, 0), (9, 0)] mixed (by kernel_rfl) (Sub.of (List.Sublist.refl _)) (fun _ _ _ h => h) ?_
   refine DO.q rfl (q_fa uT25 rfl inf22 rfl rfl) (DO.q rfl (q_lb 8 uT22 rfl rfl rfl rfl) (DO.q rfl (q_move rfl) (DO.q rfl (q_move rfl) (DO.q rfl (q_ix (i := i) uT23 inf3 rfl rfl (rowO (mG 1 rfl)) hil (by rw [List.length_map]; exact hil)) (DO.q rfl (q_ld uT3 rfl rfl (rowO (mG 1 rfl)) hgi) (DO.q rfl (q_ix (i := s) uT22 inf23 rfl rfl (Sl.o h.outer) hsn (hvl ▸ hsn)) (DO.q rfl (q_ld uT23 rfl rfl (Sl.o h.outer) g1) (DO.q rfl (q_len uT23 rfl) (DO.q rfl (q_move rfl) ?_)))))))))
   refine DO.done ?_
   refine T.block ?_
   have hz9 : ints (qCut (eqQ xs) p.d FF s 0) = List.replicate p.next[s].length (vI 0) := by rw [qCut_zero, hr1]; simp
   refine T.loopS (fun (x : Nat) ρ O => ∃ (lb : Option Addr) (lc : Nat) (ms : List Nat), O = ([rowI (aD z7) p.next[s].length 3 1 (ints (qCut (eqQ xs) p.d FF s x)), rowI lb lc 3 1 (nats ms), mapI KIn (fun n : Nat => Value.int .i64 (n : Int)) mN (mpQ xs ms), rowI nb nc 23 1 (vals qs), rowI fb fc 3 1 (ints ((FF.take i).map fun s => ((prN p s : Nat) : Int))), oI z6 25 [(vI p.vars), (vI 0), (.slice nb i nc), (.slice fb i fc)], rowI (aD z4) p.next.length 3 1 (nats xs), oI z2 25 [(vI 0), (vI 0), nS, nS], oI z1 25 (pC p k)] ++ (itms 3 qs)) ∧ x ≤ letN p.d ∧ ms = (qM (eqQ xs) p.d (qN (eqQ xs) p.d i) s x) ∧ Heads [(0, (pV p k)), (1, (.pointer (aD z1))), (2, (.pointer (aD z2))), (3, vI 0), (4, vI (checkP p : Int)), (5, (.slice (aD z4) p.next.length p.next.length)), (6, vI ((cntQ p kk : Nat) : Int)), (7, (.map (some mq3))), (8, (.slice (aD z4) p.next.length p.next.length)), (17, (.map (some mN))), (18, (.slice lb ms.length lc)), (19, (.pointer (aD z6))), (20, vI ((i : Nat) : Int)), (21, (.slice (aD z7) p.next[s].length p.next[s].length)), (134, (.slice v1 p.next[s].length c1)), (135, vI (p.next[s].length : Int)), (136, vI ((x : Nat) : Int))] ρ) (fun x => letN p.d - x) 0 ?_ ?_
   ·exact ⟨lb, lc, ls, by rw [hz9]; rfl, Nat.zero_le _, hls, (.of rfl)⟩
   rintro x ρ O ⟨lb, lc, ms, rfl, hx, hms, hH⟩
   obtain ⟨ρ0, rfl⟩ := hH.elim
   clear hH
   have hcq := qCut_len (e := (eqQ xs)) (F := FF) (s := s) hx
   have hpre := qM_fin hv hBis hsi hx
   have hml := hpre.length_le
   rw [← hms] at hml
   have hfl := qN_len hv hBis p.next.length
   refine T.s (T.rg (TO.q (q_lss rfl rfl) (TO.nl (T.s (T.condP rfl (fun hc => ?_) (fun hc => ?_))))))
   ·have hlt137 : x < p.next[s].length := by omega
    have hxl9 : x < letN p.d := by omega
    obtain ⟨hto, hxk1, hx1, _⟩ := hv.to hsn hxl9
    refine T.skip (T.s (T.block (T.s (T.rg (TO.qm rfl (TO.q (q_ix (i := x) uT23 inf3 rfl rfl (Sl.o s1) hxk1 (by rw [List.length_map]; exact hxk1)) (TO.q (q_ld uT3 rfl rfl (Sl.o s1) hx1) (TO.qa rfl (TO.qa rfl (TO.nl (T.s (T.rg (TO.qm rfl (TO.qm rfl (TO.qm rfl (TO.q (q_ix (i := (toN p.d s x)) uT23 inf3 rfl rfl (rowO (mG 6 rfl)) hto (by rw [List.length_map]; omega)) (TO.q (q_ld uT3 rfl rfl (rowO (mG 6 rfl)) (cls_get hxl hto)) (TO.q (QT.cast (q_lookupOk (K := KIn) (V := (fun n : Nat => Value.int .i64 (n : Int))) (a := ((xs.getD (toN p.d s x) 0 : Nat) : Int)) uT62 inf3 (KeyOk.int uT3) rfl rfl (mG 2 rfl)) (v' := .tuple #[vI ((if (ms.any fun k => eqQ xs k (toN p.d s x)) = true then qfind (eqQ xs) (toN p.d s x) ms else 0 : Nat) : Int), .bool (ms.any fun k => eqQ xs k (toN p.d s x))]) (by rw [mpQ_look]; by_cases h9 : (ms.any fun k => eqQ xs k (toN p.d s x)) = true <;> simp [h9])) (TO.qm rfl (TO.q (q_extract (vs := _) rfl rfl) (TO.q (q_extract (vs := _) rfl rfl) (TO.qa rfl (TO.qa rfl (TO.nl (T.s (T.s (T.rg ?_)))))))))))))))))))))))))))
    refine TO.qm rfl (TO.q (q_not rfl) (TO.nl (T.condP (p := ¬ (ms.any fun k => eqQ xs k (toN p.d s x)) = true) (congrArg Value.bool (by cases (ms.any fun k => eqQ xs k (toN p.d s x)) <;> rfl)) (fun hc => ?_) (fun hc => ?_))))
    ·have hnew : ¬ (ms.any fun k => eqQ xs k (toN p.d s x)) = true := hc
     have hnw := qfind_new hv hBis hsi hxl9 (by rw [← hms]; exact hnew)
     rw [← hms, hFF] at hnw
     refine T.s (T.rg (TO.qm rfl (TO.q (q_len uT23 rfl) (TO.qa rfl (TO.nl ?_)))))
     refine T.draws [rowI (aD z4) p.next.length 3 1 (nats xs)] [(0, 0), (1, 0), (2, 0), (3, 0), (4, 0), (5, 0), (6, 0), (7, 0), (8, 1), (9, 1), (10, 1), (11, 0), (12, 2), (13, 2)] mixed (drawF_ok (by kernel_rfl)) (by exact Sub.d (.d (.d (.d (.d (.d (.k .z))))))) (fun _ _ _ h => h) ?_
     refine DO.q rfl (q_move rfl) (DO.q rfl (q_move rfl) (DO.q rfl (q_move rfl) (DO.q rfl (q_ix (i := (toN p.d s x)) uT23 inf3 rfl rfl (rowO (mG 0 rfl)) hto (by rw [List.length_map]; omega)) (DO.q rfl (q_ld uT3 rfl rfl (rowO (mG 0 rfl)) (cls_get hxl hto)) (DO.q rfl (q_move rfl) (DO.q rfl (q_move rfl) (DO.q rfl (q_move rfl) ?_)))))))
     refine DO.loud rfl rfl (l_build1 (v := vI ((toN p.d s x : Nat) : Int)) uT23 inf3 rfl rfl rfl (fun z8 => ⟨by exact Sub.d (.d (.d (.d (.d (.d (.d (.k .z))))))), ?_⟩))
     refine DO.loud rfl rfl (l_append 2 uT23 uT23 inf3 rfl rfl rfl rfl (by simp) (by decide) (Src.row (j := 0) rfl (by simp)) (by simp [oneB]) (by omega) (by decide) (by decide) (fun z9 zc10 => ⟨by exact Sub.d (.d (.d (.d (.d (.d (.d (.k .z))))))), ?_⟩))
     refine DO.loud rfl rfl (l_mapEntry (K := KIn) (V := (fun n : Nat => Value.int .i64 (n : Int))) (a := ((xs.getD (toN p.d s x) 0 : Nat) : Int)) (z := vI 0) 3 uT62 inf3 (KeyOk.int uT3) rfl rfl rfl (mpQ_new hnew) (fun ck => ⟨by exact Sub.d (.d (.d (.d (.d (.d (.d (.k .z))))))), ?_⟩))
     refine DO.q rfl (q_extract (vs := _) rfl rfl) ?_
     refine DO.last rfl rfl (l_entryStore (K := KIn) (V := (fun n : Nat => Value.int .i64 (n : Int))) (v := ms.length) 3 rfl rfl rfl rfl ?_)
     refine DO.last rfl rfl (LT.oq rfl rfl (q_assign rfl) ?_)
     refine DO.done ?_
     refine T.rg (TO.qm rfl (TO.qm rfl (TO.qm rfl (TO.q (q_ix (i := x) uT23 inf3 rfl rfl (rowO (mG 1 rfl)) hxk1 (by rw [List.length_map, hcq]; exact hxl9)) (TO.l rfl (l_st (j := x) (v := vI (ms.length : Int)) (vs := [(vI (ms.length : Int))]) (cs := ints (qCut (eqQ xs) p.d FF s x)) 1 inf3 rfl rfl rfl rfl rfl (by simp) rfl (by first | (simp; omega) | (simp_all; omega)) ?_))))))
     refine TO.sub (O' := ([rowI (aD z8) 1 3 1 [vI ((toN p.d s x : Nat) : Int)], rowI (aD z7) p.next[s].length 3 1 (ints (qCut (eqQ xs) p.d FF s (x + 1))), rowI z9 zc10 3 1 ((nats ms) ++ [vI ((toN p.d s x : Nat) : Int)]), mapI KIn (fun n : Nat => Value.int .i64 (n : Int)) mN (mpQ xs ms ++ [(((xs.getD (toN p.d s x) 0 : Nat) : Int), ms.length)]), rowI nb nc 23 1 (vals qs), rowI fb fc 3 1 (ints ((FF.take i).map fun s => ((prN p s : Nat) : Int))), oI z6 25 [(vI p.vars), (vI 0), (.slice nb i nc), (.slice fb i fc)], rowI (aD z4) p.next.length 3 1 (nats xs), oI z2 25 [(vI 0), (vI 0), nS, nS], oI z1 25 (pC p k)] ++ (itms 3 qs))) (by rw [show putL (ints (qCut (eqQ xs) p.d FF s x)) x [(vI (ms.length : Int))] = ints (qCut (eqQ xs) p.d FF s (x + 1)) from (by rw [← qCut_set hxl9 hnw.2]; simp [putL])]; exact Sub.of (List.Sublist.refl _)) ?_
     refine TO.nl (T.rg (TO.q (q_addN (a := x) (b := 1) rfl rfl (by omega)) (TO.qm rfl (TO.nl ?_))))
     exact ⟨x + 1, by omega, ([rowI (aD z7) p.next[s].length 3 1 (ints (qCut (eqQ xs) p.d FF s (x + 1))), rowI z9 zc10 3 1 ((nats ms) ++ [vI ((toN p.d s x : Nat) : Int)]), mapI KIn (fun n : Nat => Value.int .i64 (n : Int)) mN (mpQ xs ms ++ [(((xs.getD (toN p.d s x) 0 : Nat) : Int), ms.length)]), rowI nb nc 23 1 (vals qs), rowI fb fc 3 1 (ints ((FF.take i).map fun s => ((prN p s : Nat) : Int))), oI z6 25 [(vI p.vars), (vI 0), (.slice nb i nc), (.slice fb i fc)], rowI (aD z4) p.next.length 3 1 (nats xs), oI z2 25 [(vI 0), (vI 0), nS, nS], oI z1 25 (pC p k)] ++ (itms 3 qs)), (by exact Sub.d (.k (.k (.k (.k (.k (.k (.k (.k (.k .rf)))))))))), z9, zc10, ms ++ [toN p.d s x], by rw [mpQ_snoc]; simp only [List.map_append, List.map_cons, List.map_nil], by omega, hnw.1.symm, ⟨rfl, rfl, rfl, rfl, rfl, rfl, rfl, rfl, rfl, rfl, (congrArg (fun n9 => Value.slice z9 n9 zc10) (@List.length_append _ ms [toN p.d s x]).symm), rfl, rfl, rfl, rfl, rfl, rfl, trivial⟩⟩
    have hold : (ms.any fun k => eqQ xs k (toN p.d s x)) = true := Classical.not_not.1 hc
    have hold2 : ((qM (eqQ xs) p.d (qN (eqQ xs) p.d i) s x).any fun k => eqQ xs k (toN p.d s x)) = true := by rw [← hms]; exact hold
    have hnw := qfind_old hv hBis hsi hxl9 hold2
    rw [← hms, hFF] at hnw
    have hnw2 : qfind (eqQ xs) (toN p.d s x) FF = (if (ms.any fun k => eqQ xs k (toN p.d s x)) = true then qfind (eqQ xs) (toN p.d s x) ms else 0) := by rw [if_pos hold]; exact hnw.2
    refine T.skip (T.rg (TO.qm rfl (TO.qm rfl (TO.qm rfl (TO.q (q_ix (i := x) uT23 inf3 rfl rfl (rowO (mG 0 rfl)) hxk1 (by rw [List.length_map, hcq]; exact hxl9)) (TO.l rfl (l_st (j := x) (v := vI ((if (ms.any fun k => eqQ xs k (toN p.d s x)) = true then qfind (eqQ xs) (toN p.d s x) ms else 0 : Nat) : Int)) (vs := [(vI ((if (ms.any fun k => eqQ xs k (toN p.d s x)) = true then qfind (eqQ xs) (toN p.d s x) ms else 0 : Nat) : Int))]) (cs := ints (qCut (eqQ xs) p.d FF s x)) 0 inf3 rfl rfl rfl rfl rfl (by simp) rfl (by first | (simp; omega) | (simp_all; omega)) ?_)))))))
    refine TO.sub (O' := ([rowI (aD z7) p.next[s].length 3 1 (ints (qCut (eqQ xs) p.d FF s (x + 1))), rowI lb lc 3 1 (nats ms), mapI KIn (fun n : Nat => Value.int .i64 (n : Int)) mN (mpQ xs ms), rowI nb nc 23 1 (vals qs), rowI fb fc 3 1 (ints ((FF.take i).map fun s => ((prN p s : Nat) : Int))), oI z6 25 [(vI p.vars), (vI 0), (.slice nb i nc), (.slice fb i fc)], rowI (aD z4) p.next.length 3 1 (nats xs), oI z2 25 [(vI 0), (vI 0), nS, nS], oI z1 25 (pC p k)] ++ (itms 3 qs))) (by rw [show putL (ints (qCut (eqQ xs) p.d FF s x)) x [(vI ((if (ms.any fun k => eqQ xs k (toN p.d s x)) = true then qfind (eqQ xs) (toN p.d s x) ms else 0 : Nat) : Int))] = ints (qCut (eqQ xs) p.d FF s (x + 1)) from (by rw [← qCut_set hxl9 hnw2]; simp [putL])]; exact Sub.of (List.Sublist.refl _)) ?_
    refine TO.nl (T.rg (TO.q (q_addN (a := x) (b := 1) rfl rfl (by omega)) (TO.qm rfl (TO.nl ?_))))
    exact ⟨x + 1, by omega, ([rowI (aD z7) p.next[s].length 3 1 (ints (qCut (eqQ xs) p.d FF s (x + 1))), rowI lb lc 3 1 (nats ms), mapI KIn (fun n : Nat => Value.int .i64 (n : Int)) mN (mpQ xs ms), rowI nb nc 23 1 (vals qs), rowI fb fc 3 1 (ints ((FF.take i).map fun s => ((prN p s : Nat) : Int))), oI z6 25 [(vI p.vars), (vI 0), (.slice nb i nc), (.slice fb i fc)], rowI (aD z4) p.next.length 3 1 (nats xs), oI z2 25 [(vI 0), (vI 0), nS, nS], oI z1 25 (pC p k)] ++ (itms 3 qs)), (by exact Sub.rf), lb, lc, ms, rfl, by omega, hnw.1.symm, (.of rfl)⟩
   have hge137 : ¬ x < p.next[s].length := by omega
   refine T.exit ?_
   have hpre0 : (qN (eqQ xs) p.d i) <+: ms := by rw [hms]; exact qM_pre (eqQ xs) p.d (qN (eqQ xs) p.d i) s (Nat.zero_le x)
   have hMl : i < ms.length := by have h9 := hpre0.length_le; rw [← hls] at h9; omega
   have hMi : (nats ms)[i]? = some (vI ((s : Nat) : Int)) := by
    obtain ⟨r9, hr9⟩ := hpre0
    rw [List.getElem?_map, ← hr9, List.getElem?_append_left (by rw [← hls]; exact hil), hsi]; rfl
   have hFl : i < FF.length := (List.getElem?_eq_some_iff.1 hFi).1
   refine T.cut1 (fun ρ O => ∃ (nb2 fb2 : Option Addr) (nc2 fc2 : Nat), O = ([rowI (aD z7) p.next[s].length 3 1 (ints (qCut (eqQ xs) p.d FF s x)), rowI lb lc 3 1 (nats ms), mapI KIn (fun n : Nat => Value.int .i64 (n : Int)) mN (mpQ xs ms), rowI nb2 nc2 23 1 ((vals qs) ++ [(.slice (aD z7) p.next[s].length p.next[s].length)]), rowI fb2 fc2 3 1 ((ints ((FF.take i).map fun s => ((prN p s : Nat) : Int))) ++ [vI ((prN p s : Nat) : Int)]), oI z6 25 [(vI p.vars), (vI 0), (.slice nb2 (i + 1) nc2), (.slice fb2 (i + 1) fc2)], rowI (aD z4) p.next.length 3 1 (nats xs), oI z2 25 [(vI 0), (vI 0), nS, nS], oI z1 25 (pC p k)] ++ (itms 3 qs)) ∧ Heads [(0, (pV p k)), (1, (.pointer (aD z1))), (2, (.pointer (aD z2))), (3, vI 0), (4, vI (checkP p : Int)), (5, (.slice (aD z4) p.next.length p.next.length)), (6, vI ((cntQ p kk : Nat) : Int)), (7, (.map (some mq3))), (8, (.slice (aD z4) p.next.length p.next.length)), (17, (.map (some mN))), (18, (.slice lb ms.length lc)), (19, (.pointer (aD z6))), (20, vI ((i : Nat) : Int)), (21, (.slice (aD z7) p.next[s].length p.next[s].length))] ρ) ?_ ?_
   ·refine T.treeT [rowI lb lc 3 1 (nats ms), oI z6 25 [(vI p.vars), (vI 0), (.slice nb i nc), (.slice fb i fc)], oI z2 25 [(vI 0), (vI 0), nS, nS], oI z1 25 (pC p k)] [18, 20] 21 mixed rfl (by exact Sub.d (.k (.d (.d (.d (.k (.d (.k (.k .z))))))))) (fun _ _ _ h => h) ?_
    refine RO.quietTT 0 rfl (by kernel_rfl) (q_fa uT25 rfl inf22 rfl rfl) ?_
    refine RO.quietTT 1 rfl (by kernel_rfl) (q_lb 1 uT22 rfl rfl rfl rfl) ?_
    refine RO.quietTT 2 rfl (by kernel_rfl) (q_move rfl) ?_
    refine RO.quietTT 5 rfl (by kernel_rfl) (q_fa uT25 rfl inf23 rfl rfl) ?_
    refine RO.quietTT 6 rfl (by kernel_rfl) (q_lb 1 uT23 rfl rfl rfl rfl) ?_
    refine RO.quietTT 7 rfl (by kernel_rfl) (q_fa uT25 rfl inf23 rfl rfl) ?_
    refine RO.quietTT 8 rfl (by kernel_rfl) (q_lb 3 uT23 rfl rfl rfl rfl) ?_
    refine RO.quietTT 9 rfl (by kernel_rfl) (q_move rfl) ?_
    refine RO.quietTT 10 rfl (by kernel_rfl) (q_move rfl) ?_
    refine RO.quietTT 11 rfl (by kernel_rfl) (q_ix (i := i) uT23 inf3 rfl rfl (rowO (mG 0 rfl)) hMl (by rw [List.length_map]; exact hMl)) ?_
    refine RO.quietTT 12 rfl (by kernel_rfl) (q_ld uT3 rfl rfl (rowO (mG 0 rfl)) hMi) ?_
    refine RO.quietTT 13 rfl (by kernel_rfl) (q_ix (i := s) uT23 inf3 rfl rfl (Sl.o h.prio) hsp (by rw [List.length_map]; exact hsp)) ?_
    refine RO.quietTT 14 rfl (by kernel_rfl) (q_ld uT3 rfl rfl (Sl.o h.prio) (by rw [ints, List.getElem?_map, hv.prAt hsn]; rfl)) ?_
    refine RO.forkT [3, 15] (by kernel_rfl) rfl ⟨⟨_, rfl, rfl, l_build1 (v := (.slice (aD z7) p.next[s].length p.next[s].length)) uT22 inf23 rfl rfl rfl (fun tA => ⟨.inr (by exact Sub.d (.d (.k (.d (.d (.d (.k (.d (.k (.k .z)))))))))), ?_⟩)⟩, ⟨_, rfl, rfl, l_build1 (v := vI ((prN p s : Nat) : Int)) uT23 inf3 rfl rfl rfl (fun tB => ⟨.inr (by exact Sub.d (.d (.k (.d (.d (.d (.k (.d (.k (.k .z)))))))))), ?_⟩)⟩, trivial⟩ (by kernel_rfl)
    ·refine RO.forkT [4, 15] (by kernel_rfl) rfl ⟨⟨_, rfl, rfl, l_append 4 uT22 uT22 inf23 rfl rfl rfl rfl (by simp [hql]) (by decide) (Src.row (j := 0) rfl (by simp)) (by simp [oneB]) (by omega) (by decide) (by decide) (fun nb2 nc2 => ⟨.inr (by exact Sub.d (.d (.k (.d (.d (.d (.k (.d (.k (.k .z)))))))))), ?_⟩)⟩, ⟨_, rfl, rfl, l_build1 (v := vI ((prN p s : Nat) : Int)) uT23 inf3 rfl rfl rfl (fun tB => ⟨.inr (by exact Sub.d (.d (.d (.k (.d (.d (.d (.k (.d (.k (.k .z))))))))))), ?_⟩)⟩, trivial⟩ (by kernel_rfl)
     ·refine RO.quietTT 17 rfl (by kernel_rfl) (q_fa uT25 rfl inf22 rfl rfl) ?_
      refine RO.forkT [15] (by kernel_rfl) rfl ⟨⟨_, rfl, rfl, l_build1 (v := vI ((prN p s : Nat) : Int)) uT23 inf3 rfl rfl rfl (fun tB => ⟨.inr (by exact Sub.d (.d (.d (.k (.d (.d (.d (.k (.d (.k (.k .z))))))))))), ?_⟩)⟩, trivial⟩ (by kernel_rfl)
      refine RO.forkT [16] (by kernel_rfl) rfl ⟨⟨_, rfl, rfl, l_append 6 uT23 uT23 inf3 rfl rfl rfl rfl (by simp; omega) (by decide) (Src.row (j := 0) rfl (by simp)) (by simp [oneB]) (by omega) (by decide) (by decide) (fun fb2 fc2 => ⟨.inr (by exact Sub.d (.d (.d (.k (.d (.d (.d (.k (.d (.k (.k .z))))))))))), ?_⟩)⟩, trivial⟩ (by kernel_rfl)
      refine RO.forkT [18] (by kernel_rfl) rfl ⟨⟨_, rfl, rfl, l_sb (v := (.slice nb2 (i + 1) nc2)) (vs := [(.slice nb2 (i + 1) nc2)]) 7 inf22 rfl rfl rfl rfl rfl rfl (by simp [putL]) ⟨.inl (by decide), ?_⟩⟩, trivial⟩ (by kernel_rfl)
      refine RO.quietE 19 rfl (by kernel_rfl) (q_fa uT25 rfl inf23 rfl rfl) ?_
      refine RO.forkT [20] (by kernel_rfl) rfl ⟨⟨_, rfl, rfl, l_sb (v := (.slice fb2 (i + 1) fc2)) (vs := [(.slice fb2 (i + 1) fc2)]) 7 inf23 rfl rfl rfl rfl rfl rfl (by simp [putL]) ⟨.inl (by decide), ?_⟩⟩, trivial⟩ (by kernel_rfl)
      exact RO.fin (by kernel_rfl) ⟨nb2, fb2, nc2, fc2, rfl, (.of rfl)⟩ (by exact Sub.d (.d (.k (.k (.k (.k (.k (.k (.k (.k (.k .rf)))))))))))
     refine RO.forkT [4] (by kernel_rfl) rfl ⟨⟨_, rfl, rfl, l_append 5 uT22 uT22 inf23 rfl rfl rfl rfl (by simp [hql]) (by decide) (Src.row (j := 1) rfl (by simp)) (by simp [oneB]) (by omega) (by decide) (by decide) (fun nb2 nc2 => ⟨.inr (by exact Sub.d (.d (.d (.k (.d (.d (.d (.k (.d (.k (.k .z))))))))))), ?_⟩)⟩, trivial⟩ (by kernel_rfl)
     refine RO.quietTT 17 rfl (by kernel_rfl) (q_fa uT25 rfl inf22 rfl rfl) ?_
     refine RO.forkT [16] (by kernel_rfl) rfl ⟨⟨_, rfl, rfl, l_append 6 uT23 uT23 inf3 rfl rfl rfl rfl (by simp; omega) (by decide) (Src.row (j := 0) rfl (by simp)) (by simp [oneB]) (by omega) (by decide) (by decide) (fun fb2 fc2 => ⟨.inr (by exact Sub.d (.d (.d (.k (.d (.d (.d (.k (.d (.k (.k .z))))))))))), ?_⟩)⟩, trivial⟩ (by kernel_rfl)
     refine RO.forkT [18] (by kernel_rfl) rfl ⟨⟨_, rfl, rfl, l_sb (v := (.slice nb2 (i + 1) nc2)) (vs := [(.slice nb2 (i + 1) nc2)]) 7 inf22 rfl rfl rfl rfl rfl rfl (by simp [putL]) ⟨.inl (by decide), ?_⟩⟩, trivial⟩ (by kernel_rfl)
     refine RO.quietE 19 rfl (by kernel_rfl) (q_fa uT25 rfl inf23 rfl rfl) ?_
     refine RO.forkT [20] (by kernel_rfl) rfl ⟨⟨_, rfl, rfl, l_sb (v := (.slice fb2 (i + 1) fc2)) (vs := [(.slice fb2 (i + 1) fc2)]) 7 inf23 rfl rfl rfl rfl rfl rfl (by simp [putL]) ⟨.inl (by decide), ?_⟩⟩, trivial⟩ (by kernel_rfl)
     exact RO.fin (by kernel_rfl) ⟨nb2, fb2, nc2, fc2, rfl, (.of rfl)⟩ (by exact Sub.d (.d (.k (.k (.k (.k (.k (.k (.k (.k (.k .rf)))))))))))
    refine RO.forkT [3] (by kernel_rfl) rfl ⟨⟨_, rfl, rfl, l_build1 (v := (.slice (aD z7) p.next[s].length p.next[s].length)) uT22 inf23 rfl rfl rfl (fun tA => ⟨.inr (by exact Sub.d (.d (.d (.k (.d (.d (.d (.k (.d (.k (.k .z))))))))))), ?_⟩)⟩, trivial⟩ (by kernel_rfl)
    refine RO.forkT [4] (by kernel_rfl) rfl ⟨⟨_, rfl, rfl, l_append 5 uT22 uT22 inf23 rfl rfl rfl rfl (by simp [hql]) (by decide) (Src.row (j := 0) rfl (by simp)) (by simp [oneB]) (by omega) (by decide) (by decide) (fun nb2 nc2 => ⟨.inr (by exact Sub.d (.d (.d (.k (.d (.d (.d (.k (.d (.k (.k .z))))))))))), ?_⟩)⟩, trivial⟩ (by kernel_rfl)
    refine RO.quietTT 17 rfl (by kernel_rfl) (q_fa uT25 rfl inf22 rfl rfl) ?_
    refine RO.forkT [16] (by kernel_rfl) rfl ⟨⟨_, rfl, rfl, l_append 6 uT23 uT23 inf3 rfl rfl rfl rfl (by simp; omega) (by decide) (Src.row (j := 1) rfl (by simp)) (by simp [oneB]) (by omega) (by decide) (by decide) (fun fb2 fc2 => ⟨.inr (by exact Sub.d (.d (.d (.k (.d (.d (.d (.k (.d (.k (.k .z))))))))))), ?_⟩)⟩, trivial⟩ (by kernel_rfl)
    refine RO.forkT [18] (by kernel_rfl) rfl ⟨⟨_, rfl, rfl, l_sb (v := (.slice nb2 (i + 1) nc2)) (vs := [(.slice nb2 (i + 1) nc2)]) 7 inf22 rfl rfl rfl rfl rfl rfl (by simp [putL]) ⟨.inl (by decide), ?_⟩⟩, trivial⟩ (by kernel_rfl)
    refine RO.quietE 19 rfl (by kernel_rfl) (q_fa uT25 rfl inf23 rfl rfl) ?_
    refine RO.forkT [20] (by kernel_rfl) rfl ⟨⟨_, rfl, rfl, l_sb (v := (.slice fb2 (i + 1) fc2)) (vs := [(.slice fb2 (i + 1) fc2)]) 7 inf23 rfl rfl rfl rfl rfl rfl (by simp [putL]) ⟨.inl (by decide), ?_⟩⟩, trivial⟩ (by kernel_rfl)
    exact RO.fin (by kernel_rfl) ⟨nb2, fb2, nc2, fc2, rfl, (.of rfl)⟩ (by exact Sub.d (.d (.k (.k (.k (.k (.k (.k (.k (.k (.k .rf)))))))))))
   rintro ρ O ⟨nb2, fb2, nc2, fc2, rfl, hH⟩
   obtain ⟨ρ0, rfl⟩ := hH.elim
   clear hH
   have hqc : qCut (eqQ xs) p.d FF s x = qRow (eqQ xs) p.d FF s := by rw [show x = letN p.d by omega]; exact qCut_end _ _ _ _
   have hFs : FF.take (i + 1) = FF.take i ++ [s] := by
    rw [List.take_succ_eq_append_getElem hFl]
    rw [List.getElem?_eq_getElem hFl] at hFi
    rw [Option.some.inj hFi]
   have e9 : ms = qN (eqQ xs) p.d (i + 1) := by rw [hms, show x = letN p.d by omega]; exact (qN_step hsi).symm
   have hpr9 : ints ((FF.take (i + 1)).map fun s => ((prN p s : Nat) : Int)) = (ints ((FF.take i).map fun s => ((prN p s : Nat) : Int))) ++ [vI ((prN p s : Nat) : Int)] := by rw [hFs, List.map_append]; exact List.map_append
   have hrl9 : (qRow (eqQ xs) p.d FF s).length = p.next[s].length := by rw [hr1]; simp [qRow]
   refine T.sub (O' := [Rec.itm 3 ⟨(aD z7), p.next[s].length, qRow (eqQ xs) p.d FF s⟩, rowI lb lc 3 1 (nats ms), mapI KIn (fun n : Nat => Value.int .i64 (n : Int)) mN (mpQ xs ms), rowI nb2 nc2 23 1 ((vals qs) ++ [(.slice (aD z7) p.next[s].length p.next[s].length)]), rowI fb2 fc2 3 1 ((ints ((FF.take i).map fun s => ((prN p s : Nat) : Int))) ++ [vI ((prN p s : Nat) : Int)]), oI z6 25 [(vI p.vars), (vI 0), (.slice nb2 (i + 1) nc2), (.slice fb2 (i + 1) fc2)], rowI (aD z4) p.next.length 3 1 (nats xs), oI z2 25 [(vI 0), (vI 0), nS, nS], oI z1 25 (pC p k)] ++ (itms 3 qs)) (by rw [hqc]; exact Sub.rf) ?_
   refine T.sub (O' := [rowI lb lc 3 1 (nats ms), mapI KIn (fun n : Nat => Value.int .i64 (n : Int)) mN (mpQ xs ms), rowI nb2 nc2 23 1 (vals (qs ++ [⟨(aD z7), p.next[s].length, qRow (eqQ xs) p.d FF s⟩])), rowI fb2 fc2 3 1 (ints ((FF.take (i + 1)).map fun s => ((prN p s : Nat) : Int))), oI z6 25 [(vI p.vars), (vI 0), (.slice nb2 (i + 1) nc2), (.slice fb2 (i + 1) fc2)], rowI (aD z4) p.next.length 3 1 (nats xs), oI z2 25 [(vI 0), (vI 0), nS, nS], oI z1 25 (pC p k)] ++ (itms 3 (qs ++ [⟨(aD z7), p.next[s].length, qRow (eqQ xs) p.d FF s⟩]))) (by rw [hpr9, show vals (qs ++ [(⟨(aD z7), p.next[s].length, qRow (eqQ xs) p.d FF s⟩ : Rec)]) = vals qs ++ [Value.slice (aD z7) p.next[s].length p.next[s].length] by simp [Rec.val, hrl9]]; exact Sub.ca []) ?_
   refine T.rg (TO.qm rfl (TO.q (q_addN (a := i) (b := 1) rfl rfl (by omega)) (TO.qa rfl (TO.nl ?_))))
   exact ⟨i + 1, by omega, ([rowI lb lc 3 1 (nats ms), mapI KIn (fun n : Nat => Value.int .i64 (n : Int)) mN (mpQ xs ms), rowI nb2 nc2 23 1 (vals (qs ++ [⟨(aD z7), p.next[s].length, qRow (eqQ xs) p.d FF s⟩])), rowI fb2 fc2 3 1 (ints ((FF.take (i + 1)).map fun s => ((prN p s : Nat) : Int))), oI z6 25 [(vI p.vars), (vI 0), (.slice nb2 (i + 1) nc2), (.slice fb2 (i + 1) fc2)], rowI (aD z4) p.next.length 3 1 (nats xs), oI z2 25 [(vI 0), (vI 0), nS, nS], oI z1 25 (pC p k)] ++ (itms 3 (qs ++ [⟨(aD z7), p.next[s].length, qRow (eqQ xs) p.d FF s⟩]))), (by exact Sub.rf), lb, nb2, fb2, lc, nc2, fc2, qs ++ [⟨(aD z7), p.next[s].length, qRow (eqQ xs) p.d FF s⟩], ms, rfl, by omega, by simp [hql], by rw [hFs, List.map_append, ← hqs]; exact List.map_append, e9, (.of rfl)⟩
  have hge114 : ¬ i < ls.length := by omega
  refine T.exit ?_
  refine T.s (T.rg (TO.q (q_la 4 uT25 rfl inf25 rfl rfl rfl) (TO.l rfl (l_sb (v := (.agg #[(vI p.vars), (vI 0), (.slice nb i nc), (.slice fb i fc)])) (vs := [(vI p.vars), (vI 0), (.slice nb i nc), (.slice fb i fc)]) 6 inf25 rfl rfl rfl rfl rfl rfl (by simp [putL]) ?_))))
  refine TO.qa rfl (TO.nl (T.ret (Res.drop ?_)))
  refine Res.cell1b (vI 0) (i := 6) Tryd.results27 uT25 rfl inf25 rfl rfl rfl rfl ?_
  have hFe : FF = (qN (eqQ xs) p.d i) := hFF.symm.trans (qN_last hv hBis (by rw [← hls]; omega) (by omega))
  have hFl9 : FF.length = i := by rw [hFe, ← hls]; omega
  have htk : FF.take i = FF := List.take_of_length_le (by omega)
  have hlt9 : (FF.take i).length = i := by rw [htk]; exact hFl9
  have hq9 : quoV p = quoP (eqQ xs) p := quoV_of he0 hBis
  have hQ : quoP (eqQ xs) p = ⟨p.vars, 0, (FF.take i).map (qRow (eqQ xs) p.d FF), (FF.take i).map fun s => ((prN p s : Nat) : Int)⟩ := by
   rw [htk]; show quoA (eqQ xs) p (qN (eqQ xs) p.d p.next.length) = _; rw [hFF]; rfl
  rw [hq9, hQ, he0]
  exact ⟨[rowI nb nc 23 1 (vals qs), rowI fb fc 3 1 (ints ((FF.take i).map fun s => ((prN p s : Nat) : Int)))] ++ itms 3 qs, (by exact Sub.d (.d (.k (.k (.d (.d (.d (.d .rf)))))))), nb, nc, fb, fc, qs, by show _ = Value.tuple #[Value.agg #[vI p.vars, vI 0, .slice nb ((FF.take i).map (qRow (eqQ xs) p.d FF)).length nc, .slice fb ((FF.take i).map fun s => ((prN p s : Nat) : Int)).length fc], vI 0]; rw [List.length_map, List.length_map, hlt9]; rfl, rfl, hqs⟩
 have hge95 : ¬ ks.length = cntQ p kk := by omega
 obtain ⟨hxs, hks⟩ := hR.done (by omega)
 have hnum : ks.length = numQ p kk := by rw [hks]; rfl
 have hlt9 := cntQ_lt hv (k := kk) (by omega)
 refine T.skip (T.rg (TO.qm rfl (TO.q (QT.cast (q_lenMap uT83 rfl (mG 1 rfl)) (v' := vI ((ks.length : Nat) : Int)) (by simp)) (TO.qa rfl (TO.nl ?_)))))
 exact ⟨kk + 1, by show p.next.length + 1 - numQ p kk < _; omega, [rowI (aD z4) p.next.length 3 1 (nats xs), oI z2 25 [(vI 0), (vI 0), nS, nS], oI z1 25 (pC p k)], (by exact Sub.k (.d (.d (.k (.k .z))))), (aD z4), p.next.length, by rw [hxs]; rfl, ⟨rfl, rfl, rfl, rfl, rfl, rfl, (by rw [hnum]; rfl), trivial⟩⟩
theorem parQuo (w : World) [Tab Tryd.prog w] [Tab Tryd.prog w] (p : Par) (k : DK) (h : AtP w p k) (hB : ParC p) :
  PureT Tryd.prog 27 [pV p k] w fun v N => ∃ k9 : DK, v = .tuple #[pV (quoV p) k9, vI (checkP p : Int)] ∧ N = [pI 23 3 (quoV p) k9] :=
 (parQuo0 w p k h hB).packR fun v O' hR => by
  obtain ⟨nb, nc, fb, fc, qs, rfl, rfl, hq9⟩ := hR
  exact ⟨nums qs = (quoV p).next, _, [], hq9, (List.append_nil _).symm, ⟨nb, nc, fb, fc, qs⟩, rfl, rfl⟩
end Go.Proofs.YtnikhiohindggaaDoor


namespace Go.Proofs.YtnikhiohindggaaDoor
open Go.Lx Go.RowKit _root_.Go.Proofs.Tryd
theorem pathT (base : World) [Tab Tryd.prog base] (d : DFA) (nb : Option Addr) (nc : Nat) (vs : List Value) (hS : Sl base nb vs) (hr : RowsR base vs d.next) (hv : Val d) (hn : d.next.length ≤ 4096) (hw6 : letN d ≤ 64) (OO : List Lx.Item) (al to : Nat → Bool) (fal fto : Value)
  (hal : ∀ t, t < d.next.length → CallV Tryd.prog base fal [vI ((t : Nat) : Int)] OO (fun v O' => v = .bool (decide (al t = true)) ∧ O' = OO)) (hto : ∀ t, t < d.next.length → CallV Tryd.prog base fto [vI ((t : Nat) : Int)] OO (fun v O' => v = .bool (decide (to t = true)) ∧ O' = OO))
  (frm : Nat) (hfn : frm < d.next.length) (hex : ∃ (Q : Nat → Prop) (t : Nat), (∀ v, Q v → al v = true) ∧ to t = true ∧ ((true = false ∧ Rch (InS (DE d) Q) frm t) ∨ ∃ c, InS (DE d) Q frm c ∧ Rch (InS (DE d) Q) c t)) :
  CallT Tryd.prog base 87 [.slice nb d.next.length nc, vI ((frm : Nat) : Int), .bool true, fal, fto] OO (fun v O' => ∃ w t b c, PathR d al to frm true w t ∧ v = .tuple #[.slice b w.length c, vI ((t : Nat) : Int)] ∧ O' = rowI b c 5 1 (byts w) :: OO) := by
 refine CallT.enter func87 rfl ntmps87 rfl ?_
 have hvl := hr.1
 have hwd : letN d ≤ 64 := hw6
 refine T.s (T.rg (TO.qa rfl (TO.qa rfl (TO.nl (T.s (T.s (T.rg (TO.qm rfl (TO.q (q_not rfl) (TO.qm rfl (TO.pd rfl rfl (TO.pd rfl rfl (TO.pd rfl rfl (TO.q (q_pick0 rfl rfl) ?_))))))))))))))
 refine TO.nl (T.cond0 rfl (T.skip (T.s (T.rg (TO.l rfl (l_makeMap KIn Value.bool (fun mp1 => ?_)))))))
 refine TO.qm rfl (TO.qm rfl (TO.q (q_not rfl) (TO.l rfl (l_mapInsert (a := ((frm : Nat) : Int)) (v := !true) 0 underlying79 (KeyOk.int underlying3) rfl rfl rfl rfl (by simp) ?_))))
 refine TO.qm rfl (TO.qa rfl (TO.nl (T.s (T.rg (TO.qm rfl (TO.q (q_build (cs := [vI ((frm : Nat) : Int), vI (-1), .int .u8 0]) plan120 inf120 (by kernel_rfl)) (TO.l rfl (l_buildSlice (m := 1) (parts := [(0, _)]) (cs := [vI ((frm : Nat) : Int), vI (-1), .int .u8 0]) underlying121 inf120 (by decide) (by kernel_rfl) rfl (fun z2 => ?_)))))))))
 refine TO.qa rfl (TO.nl (T.s (T.s (T.rg (TO.qa rfl (TO.nl (T.block ?_)))))))
 have hnt : true = false → to frm = false := fun h => by first | exact absurd h (by decide) | exact Bool.eq_false_iff.2 h23
 refine T.loopS (fun (i : Nat) ρ O => ∃ (sb : Option Addr) (sc : Nat) (st : List St3) (m : List (Int × Bool)), O = ([rowI sb sc 120 3 (st3C st), mapI KIn Value.bool mp1 m] ++ OO) ∧ i ≤ st.length ∧ BfI d al to frm true st i 0 ∧ SeenM true frm st m ∧ Heads [(0, (.slice nb d.next.length nc)), (1, vI ((frm : Nat) : Int)), (2, .bool true), (3, fal), (4, fto), (10, nS), (12, (.map (some mp1))), (13, (.slice sb st.length sc)), (14, vI ((i : Nat) : Int))] ρ) (fun i => d.next.length + 1 - i) 0 ?_ ?_
 ·exact ⟨(aD z2), 1, [(frm, -1, 0)], [(((frm : Nat) : Int), !true)], rfl, Nat.zero_le _, BfI.start hfn hnt, SeenM.start true frm, (.of rfl)⟩
 rintro i ρ O ⟨sb, sc, st, m, rfl, hi, hB, hM, hH⟩
 obtain ⟨ρ0, rfl⟩ := hH.elim
 clear hH
 have hst := hB.len
 refine T.s (T.s (T.rg (TO.qm rfl (TO.qm rfl (TO.q (q_len underlying121 rfl) (TO.q (q_lss rfl rfl) (TO.nl (T.condP rfl (fun hc => ?_) (fun hc => ?_)))))))))
 ·have hlt37 : i < st.length := by omega
  have hlti : i < st.length := by omega
  obtain ⟨q9, hq9e⟩ : ∃ q, st[i] = q := ⟨_, rfl⟩
  have hq9 : st[i]? = some q9 := by rw [List.getElem?_eq_getElem hlti, hq9e]
  have hqn : q9.1 < d.next.length := hB.lt _ (hq9e ▸ List.getElem_mem hlti)
  obtain ⟨v1, c1, g1, s1⟩ := hr.get hqn
  have hr1 : d.next[q9.1].length = letN d := hv.len _ (List.getElem_mem hqn)
  refine T.skip (T.s (T.block (T.s (T.rg (TO.qm rfl (TO.qm rfl (TO.qm rfl (TO.q (q_ixK (i := i) underlying121 inf120 rfl rfl (rowO (mG 0 rfl)) (by first | assumption | omega | (simp; omega) | simp_all) (by first | (rw [st3_len]; omega) | (simp [st3_len]; omega) | (simp_all [st3_len]; omega))) (TO.q (q_fieldEl underlying120 rfl inf3 rfl rfl (rowO (mG 0 rfl)) (by first | (rw [st3_len]; omega) | (simp [st3_len]; omega) | (simp_all [st3_len]; omega))) (TO.q (q_ld underlying3 rfl rfl (rowO (mG 0 rfl)) ((st3_get hlti 0 (by decide)).trans (by rw [hq9e]; rfl))) (TO.q (q_ix (i := q9.1) underlying22 inf23 rfl rfl (Sl.o hS) hqn (hvl ▸ hqn)) (TO.q (q_ld underlying23 rfl rfl (Sl.o hS) g1) (TO.q (q_len underlying23 rfl) (TO.qm rfl (TO.nl (T.block ?_))))))))))))))))
  refine T.loopS (fun (x : Nat) ρ O => ∃ (sb : Option Addr) (sc : Nat) (st : List St3) (m : List (Int × Bool)), O = ([rowI sb sc 120 3 (st3C st), mapI KIn Value.bool mp1 m] ++ OO) ∧ x ≤ letN d ∧ i < st.length ∧ st[i]? = some q9 ∧ BfI d al to frm true st i x ∧ SeenM true frm st m ∧ Heads [(0, (.slice nb d.next.length nc)), (1, vI ((frm : Nat) : Int)), (2, .bool true), (3, fal), (4, fto), (10, nS), (12, (.map (some mp1))), (13, (.slice sb st.length sc)), (14, vI ((i : Nat) : Int)), (47, (.slice v1 d.next[q9.1].length c1)), (48, vI (d.next[q9.1].length : Int)), (49, vI ((x : Nat) : Int))] ρ) (fun x => letN d - x) 0 ?_ ?_
  ·exact ⟨sb, sc, st, m, rfl, Nat.zero_le _, hlti, hq9, hB, hM, (.of rfl)⟩
  rintro x ρ O ⟨sb, sc, st, m, rfl, hx, hlti, hq9, hB, hM, hH⟩
  obtain ⟨ρ0, rfl⟩ := hH.elim
  clear hH
  have hst := hB.len
  obtain ⟨b9, hb9⟩ : ∃ b, (lookL ((toN d q9.1 x : Nat) : Int) m).getD false = b := ⟨_, rfl⟩
  refine T.s (T.rg (TO.q (q_lss rfl rfl) (TO.nl (T.s (T.condP rfl (fun hc => ?_) (fun hc => ?_))))))
  ·have hlt50 : x < d.next[q9.1].length := by omega
   have hxl : x < letN d := by omega
   obtain ⟨hto9, _, hxk1, hx1⟩ := hv.toN_lt hqn hxl
   have hx1 : (ints d.next[q9.1])[x]? = some (vI ((toN d q9.1 x : Nat) : Int)) := by rw [ints_get hxk1, hx1]
   refine T.skip (T.s (T.block (T.s (T.rg (TO.qm rfl (TO.q (q_ix (i := x) underlying23 inf3 rfl rfl (Sl.o s1) hxk1 (by rw [List.length_map]; exact hxk1)) (TO.q (q_ld underlying3 rfl rfl (Sl.o s1) hx1) (TO.qa rfl (TO.qa rfl (TO.nl (T.s (T.s (T.rg (TO.qm rfl (TO.qm rfl (TO.q (QT.cast (q_lookup (a := ((toN d q9.1 x : Nat) : Int)) underlying79 inf4 (KeyOk.int underlying3) rfl rfl (mG 1 rfl)) (v' := .bool (decide (b9 = true))) (by rw [← hb9]; cases lookL ((toN d q9.1 x : Nat) : Int) m with | none => rfl | some b => cases b <;> rfl)) ?_))))))))))))))))
   by_cases h57 : b9 = true
   ·refine TO.q (QT.toB (q_move rfl) (decide_eq_true h57)) ?_
    refine TO.pd rfl rfl (TO.pd rfl rfl (TO.pd rfl rfl (TO.pd rfl rfl (TO.q (q_pick1 rfl rfl) (TO.nl ?_)))))
    refine T.cond1 rfl ?_
    refine T.exit ?_
    refine T.rg (TO.q (q_addN (a := x) (b := 1) rfl rfl (by omega)) (TO.qm rfl (TO.nl ?_)))
    exact ⟨x + 1, by omega, ([rowI sb sc 120 3 (st3C st), mapI KIn Value.bool mp1 m] ++ OO), (Sub.pickR [0, 0] [rowI sb sc 120 3 (st3C st), mapI KIn Value.bool mp1 m] OO rfl rfl), sb, sc, st, m, rfl, by omega, hlti, hq9, hB.skip hq9 (fun h => by first | exact absurd h h60 | exact (hM _).1 (hb9.trans h57)), hM, (.of rfl)⟩
   refine TO.q (QT.toB (q_move rfl) (decide_eq_false h57)) (TO.gq rfl rfl (q_move rfl) (TO.gq rfl rfl (q_move rfl) ?_))
   by_cases h60 : al (toN d q9.1 x) = true
   ·have hk60 := CallV.keepR [rowI sb sc 120 3 (st3C st), mapI KIn Value.bool mp1 m] (hal (toN d q9.1 x) hto9)
    refine TO.gd rfl rfl rfl (l_callG hk60 rfl rfl ?_)
    clear hk60
    rintro vr O' ⟨rfl, rfl⟩
    rw [decide_eq_true h60]
    refine TO.gq rfl rfl (q_not rfl) (TO.q (q_pick0 rfl rfl) (TO.nl (T.cond0 rfl (T.skip (T.s ?_)))))
    have hns : ¬ SeenB true frm st (toN d q9.1 x) := fun g => h57 (hb9.symm.trans ((hM _).2 g))
    refine T.rg (TO.qm rfl (TO.qm rfl (TO.l rfl (l_mapPutA (K := KIn) (V := Value.bool) (a := ((toN d q9.1 x : Nat) : Int)) (v := true) 1 underlying79 (KeyOk.int underlying3) (sbY _) rfl rfl rfl rfl ?_))))
    refine TO.nl (T.s (T.rg (TO.qm rfl (TO.qm rfl (TO.qm rfl (TO.qm rfl (TO.q (q_conv_id underlying3 underlying5 rfl (wrap8 (by omega))) (TO.q (q_build (cs := [vI ((toN d q9.1 x : Nat) : Int), vI ((i : Nat) : Int), .int .u8 ((x : Nat) : Int)]) plan120 inf120 (by kernel_rfl)) (TO.l rfl (l_buildSlice (m := 1) (parts := [(0, _)]) (cs := [vI ((toN d q9.1 x : Nat) : Int), vI ((i : Nat) : Int), .int .u8 ((x : Nat) : Int)]) underlying121 inf120 (by decide) (by kernel_rfl) rfl (fun z3 => ?_)))))))))))
    refine TO.l rfl (l_append 1 underlying121 underlying121 inf120 rfl rfl rfl rfl (st3_len st) (by decide) (Src.row (j := 0) rfl (by simp)) (by simp [oneB]) (by omega) (by decide) (by decide) (fun z4 zc5 => ?_))
    refine TO.qa rfl (TO.nl (T.s (T.s (T.rg (TO.qm rfl (TO.qm rfl ?_))))))
    have hk75 := CallV.keepR [rowI (aD z3) 1 120 3 [vI ((toN d q9.1 x : Nat) : Int), vI ((i : Nat) : Int), .int .u8 ((x : Nat) : Int)], rowI z4 zc5 120 3 ((st3C st) ++ [vI ((toN d q9.1 x : Nat) : Int), vI ((i : Nat) : Int), .int .u8 ((x : Nat) : Int)]), mapI KIn Value.bool mp1 (putA ((toN d q9.1 x : Nat) : Int) true m)] (hto (toN d q9.1 x) hto9)
    refine TO.l rfl (l_callG hk75 rfl rfl ?_)
    clear hk75
    rintro vr O' ⟨rfl, rfl⟩
    refine TO.q (q_not rfl) (TO.nl (T.condP (p := ¬ to (toN d q9.1 x) = true) (congrArg Value.bool (by simp)) (fun hc => ?_) (fun hc => ?_)))
    ·have hnto : to (toN d q9.1 x) = false := Bool.eq_false_iff.2 hc
     refine T.exit ?_
     refine T.rg (TO.q (q_addN (a := x) (b := 1) rfl rfl (by omega)) (TO.qm rfl (TO.nl ?_)))
     refine ⟨x + 1, by omega, ([rowI z4 zc5 120 3 ((st3C st) ++ [vI ((toN d q9.1 x : Nat) : Int), vI ((i : Nat) : Int), .int .u8 ((x : Nat) : Int)]), mapI KIn Value.bool mp1 (putA ((toN d q9.1 x : Nat) : Int) true m)] ++ OO), (Sub.pickR [1, 1] [rowI (aD z3) 1 120 3 [vI ((toN d q9.1 x : Nat) : Int), vI ((i : Nat) : Int), .int .u8 ((x : Nat) : Int)], rowI z4 zc5 120 3 ((st3C st) ++ [vI ((toN d q9.1 x : Nat) : Int), vI ((i : Nat) : Int), .int .u8 ((x : Nat) : Int)]), mapI KIn Value.bool mp1 (putA ((toN d q9.1 x : Nat) : Int) true m)] OO rfl rfl), z4, zc5, st ++ [(toN d q9.1 x, (i : Int), x)], putA ((toN d q9.1 x : Nat) : Int) true m, ?_, by omega, by simp; omega, ?_, hB.push hq9 hxl rfl hto9 h60 hns hnto, hM.put hB.pos _ _ _, ?_⟩
     ·rw [st3_snoc]
     ·rw [List.getElem?_append_left hlti]; exact hq9
     ·rw [List.length_append]; exact (.of rfl)
    have hyto : to (toN d q9.1 x) = true := Classical.not_not.1 hc
    obtain ⟨hk1, hk2⟩ := hB.hit hq9 hxl rfl h60
    have hlen9 := hB.lenHit hto9 hns
    refine T.skip (T.s (T.s ?_))
    have hsn : (st ++ [(toN d q9.1 x, (i : Int), x)]).length = st.length + 1 := by simp
    refine T.sub (O' := [rowI z4 zc5 120 3 (st3C (st ++ [(toN d q9.1 x, (i : Int), x)])), mapI KIn Value.bool mp1 (putA ((toN d q9.1 x : Nat) : Int) true m)] ++ OO) (by rw [st3_snoc]; exact Sub.ca [rowI (aD z3) 1 120 3 [vI ((toN d q9.1 x : Nat) : Int), vI ((i : Nat) : Int), .int .u8 ((x : Nat) : Int)]]) ?_
    refine T.rg (TO.qm rfl (TO.q (q_len underlying121 rfl) (TO.q (QT.cast (q_subN (a := st.length + 1) (b := 1) rfl rfl (by omega) (by omega)) (v' := vI ((st.length : Nat) : Int)) (by simp)) (TO.qa rfl (TO.nl (T.block (T.nilRow 5 1 ?_)))))))
    refine T.loopS (fun (kk : Nat) ρ O => ∃ (wb : Option Addr) (wc : Nat) (w : List Nat), O = ([rowI wb wc 5 1 (byts w), rowI z4 zc5 120 3 (st3C (st ++ [(toN d q9.1 x, (i : Int), x)])), mapI KIn Value.bool mp1 (putA ((toN d q9.1 x : Nat) : Int) true m)] ++ OO) ∧ kk ≤ st.length ∧ BkP d al (st ++ [(toN d q9.1 x, (i : Int), x)]) st.length kk w (toN d q9.1 x) ∧ (kk = st.length → w = []) ∧ (kk ≠ st.length → w ≠ []) ∧ Heads [(0, (.slice nb d.next.length nc)), (1, vI ((frm : Nat) : Int)), (2, .bool true), (3, fal), (4, fto), (10, (.slice wb w.length wc)), (12, (.map (some mp1))), (13, (.slice z4 (st.length + 1) zc5)), (14, vI ((i : Nat) : Int)), (15, vI ((x : Nat) : Int)), (16, vI ((toN d q9.1 x : Nat) : Int)), (17, vI ((kk : Nat) : Int)), (47, (.slice v1 d.next[q9.1].length c1)), (48, vI (d.next[q9.1].length : Int)), (49, vI ((x : Nat) : Int))] ρ) (fun kk => kk) st.length ?_ ?_
    ·exact ⟨none, 0, [], rfl, Nat.le_refl _, hk1, fun _ => rfl, fun h => absurd rfl h, (.of rfl)⟩
    rintro kk ρ O ⟨wb, wc, w, rfl, hkk, hbk, hw0, hw1, hH⟩
    obtain ⟨ρ0, rfl⟩ := hH.elim
    clear hH
    refine T.s (T.s (T.rg (TO.qm rfl (TO.q (q_gtr rfl rfl) (TO.nl (T.condP rfl (fun hc => ?_) (fun hc => ?_)))))))
    ·have hlt81 : kk > 0 := by omega
     have hkl : kk < (st ++ [(toN d q9.1 x, (i : Int), x)]).length := by omega
     obtain ⟨j9, q8, hq8, hj9, hbk2, hjk⟩ : ∃ (j9 : Nat) (q8 : St3), (st ++ [(toN d q9.1 x, (i : Int), x)])[kk]? = some q8 ∧ q8.2.1 = (j9 : Int) ∧ BkP d al (st ++ [(toN d q9.1 x, (i : Int), x)]) st.length j9 (w ++ [q8.2.2]) (toN d q9.1 x) ∧ j9 < kk := by
      by_cases e : kk = st.length
      ·subst e
       exact ⟨i, (toN d q9.1 x, (i : Int), x), by rw [List.getElem?_append_right (Nat.le_refl _)]; simp, rfl, by rw [hw0 rfl]; exact hk2, hlti⟩
      ·obtain ⟨j9, q8, a1, a2, a3, a4⟩ := hbk.step hB (by omega) (by omega)
       exact ⟨j9, q8, a1, a2, a3, a4⟩
     rw [List.getElem?_eq_getElem hkl] at hq8
     have hq8e := Option.some.inj hq8
     refine T.skip (T.s (T.block (T.rg (TO.qm rfl (TO.qm rfl (TO.qm rfl (TO.q (q_ixK (i := kk) underlying121 inf120 rfl rfl (rowO (mG 1 rfl)) (hsn ▸ hkl) (by rw [st3_len]; omega)) (TO.q (q_fieldEl underlying120 rfl inf5 rfl rfl (rowO (mG 1 rfl)) (by first | (rw [st3_len]; omega) | (simp [st3_len]; omega) | (simp_all [st3_len]; omega))) (TO.q (q_ld underlying5 rfl rfl (rowO (mG 1 rfl)) ((st3_get hkl 2 (by decide)).trans (by rw [hq8e]; rfl))) (TO.l rfl (l_build1 (v := .int .u8 ((q8.2.2 : Nat) : Int)) underlying26 inf5 rfl rfl rfl (fun z6 => ?_))))))))))))
     refine TO.l rfl (l_append 1 underlying26 underlying26 inf5 rfl rfl rfl rfl (by rw [List.length_map, Nat.mul_one]) (by decide) (Src.row (j := 0) rfl (by simp)) (by simp [oneB]) (by have := hbk.len; omega) (by decide) (by decide) (fun z7 zc8 => ?_))
     refine TO.qa rfl (TO.nl (T.rg (TO.qm rfl (TO.qm rfl (TO.q (q_ixK (i := kk) underlying121 inf120 rfl rfl (rowO (mG 2 rfl)) (hsn ▸ hkl) (by rw [st3_len]; omega)) (TO.q (q_fieldEl underlying120 rfl inf3 rfl rfl (rowO (mG 2 rfl)) (by first | (rw [st3_len]; omega) | (simp [st3_len]; omega) | (simp_all [st3_len]; omega))) (TO.q (q_ld underlying3 rfl rfl (rowO (mG 2 rfl)) ((st3_get hkl 1 (by decide)).trans (by rw [hq8e]; show some (Value.int .i64 q8.2.1) = _; rw [hj9]))) (TO.qa rfl (TO.nl ?_)))))))))
     exact ⟨j9, hjk, ([rowI z7 zc8 5 1 ((byts w) ++ [.int .u8 ((q8.2.2 : Nat) : Int)]), rowI z4 zc5 120 3 (st3C (st ++ [(toN d q9.1 x, (i : Int), x)])), mapI KIn Value.bool mp1 (putA ((toN d q9.1 x : Nat) : Int) true m)] ++ OO), (Sub.pickR [1, 1, 1] [rowI (aD z6) 1 5 1 [.int .u8 ((q8.2.2 : Nat) : Int)], rowI z7 zc8 5 1 ((byts w) ++ [.int .u8 ((q8.2.2 : Nat) : Int)]), rowI z4 zc5 120 3 (st3C (st ++ [(toN d q9.1 x, (i : Int), x)])), mapI KIn Value.bool mp1 (putA ((toN d q9.1 x : Nat) : Int) true m)] OO rfl rfl), z7, zc8, w ++ [q8.2.2], by rw [show byts (w ++ [q8.2.2]) = byts w ++ [.int .u8 ((q8.2.2 : Nat) : Int)] by simp], by omega, hbk2, fun h => absurd h (by omega), fun _ => by simp, by rw [List.length_append]; exact (.of rfl)⟩
    have hge81 : ¬ kk > 0 := by omega
    refine T.exit ?_
    refine T.s (T.rg (TO.qm rfl ?_))
    have hk96 := CallT.under (A := [rowI wb wc 5 1 (byts w)]) (B := [rowI z4 zc5 120 3 (st3C (st ++ [(toN d q9.1 x, (i : Int), x)])), mapI KIn Value.bool mp1 (putA ((toN d q9.1 x : Nat) : Int) true m)] ++ OO) (O := ([rowI wb wc 5 1 (byts w), rowI z4 zc5 120 3 (st3C (st ++ [(toN d q9.1 x, (i : Int), x)])), mapI KIn Value.bool mp1 (putA ((toN d q9.1 x : Nat) : Int) true m)] ++ OO)) (reverseB base wb wc wc w (by have := hbk.len; omega)) (Sub.ca [])
    refine TO.l rfl (l_call ent97 hk96 rfl ?_)
    clear hk96
    rintro vr O' ⟨A1, rfl, rfl⟩
    refine TO.nl (T.s (T.rg (TO.qm rfl (TO.qm rfl (TO.qa rfl (TO.qa rfl (TO.nl (T.ret (Res.drop ?_)))))))))
    refine Res.two (.slice wb w.length wc) (vI ((toN d q9.1 x : Nat) : Int)) Tryd.results87 rfl rfl ?_
    have hk0 : kk = 0 := by omega
    subst hk0
    have hpr := hbk.done hB hlen9 (hw1 (by have := hB.pos; omega)) hyto
    exact ⟨rowI wb wc 5 1 (byts w.reverse) :: OO, Sub.ca [rowI z4 zc5 120 3 (st3C (st ++ [(toN d q9.1 x, (i : Int), x)])), mapI KIn Value.bool mp1 (putA ((toN d q9.1 x : Nat) : Int) true m)], w.reverse, _, wb, wc, hpr, by rw [List.length_reverse], rfl⟩
   have hk60 := CallV.keepR [rowI sb sc 120 3 (st3C st), mapI KIn Value.bool mp1 m] (hal (toN d q9.1 x) hto9)
   refine TO.gd rfl rfl rfl (l_callG hk60 rfl rfl ?_)
   clear hk60
   rintro vr O' ⟨rfl, rfl⟩
   rw [decide_eq_false h60]
   refine TO.gq rfl rfl (q_not rfl) (TO.q (q_pick0 rfl rfl) (TO.nl ?_))
   refine T.cond1 rfl ?_
   refine T.exit ?_
   refine T.rg (TO.q (q_addN (a := x) (b := 1) rfl rfl (by omega)) (TO.qm rfl (TO.nl ?_)))
   exact ⟨x + 1, by omega, ([rowI sb sc 120 3 (st3C st), mapI KIn Value.bool mp1 m] ++ OO), (Sub.pickR [0, 0] [rowI sb sc 120 3 (st3C st), mapI KIn Value.bool mp1 m] OO rfl rfl), sb, sc, st, m, rfl, by omega, hlti, hq9, hB.skip hq9 (fun h => by first | exact absurd h h60 | exact (hM _).1 (hb9.trans h57)), hM, (.of rfl)⟩
  have hge50 : ¬ x < d.next[q9.1].length := by omega
  refine T.exit ?_
  refine T.rg (TO.qm rfl (TO.q (q_addN (a := i) (b := 1) rfl rfl (by omega)) (TO.qa rfl (TO.nl ?_))))
  have hxe : x = letN d := by omega
  subst hxe
  exact ⟨i + 1, by omega, ([rowI sb sc 120 3 (st3C st), mapI KIn Value.bool mp1 m] ++ OO), (Sub.pickR [0, 0] [rowI sb sc 120 3 (st3C st), mapI KIn Value.bool mp1 m] OO rfl rfl), sb, sc, st, m, rfl, by omega, hB.next, hM, (.of rfl)⟩
 have hge37 : ¬ i < st.length := by omega
 refine T.exit ?_
 refine T.s (T.rg (TO.qa rfl (TO.qa rfl (TO.nl (T.ret (Res.drop ?_))))))
 refine Res.two nS (vI (-1)) Tryd.results87 rfl rfl ?_
 have hie : i = st.length := by omega
 subst hie
 obtain ⟨Q, t, e1, e2, e3⟩ := hex
 exact (hB.none e1 e2 e3).elim
theorem pathF (base : World) [Tab Tryd.prog base] (d : DFA) (nb : Option Addr) (nc : Nat) (vs : List Value) (hS : Sl base nb vs) (hr : RowsR base vs d.next) (hv : Val d) (hn : d.next.length ≤ 4096) (hw6 : letN d ≤ 64) (OO : List Lx.Item) (al to : Nat → Bool) (fal fto : Value)
  (hal : ∀ t, t < d.next.length → CallV Tryd.prog base fal [vI ((t : Nat) : Int)] OO (fun v O' => v = .bool (decide (al t = true)) ∧ O' = OO)) (hto : ∀ t, t < d.next.length → CallV Tryd.prog base fto [vI ((t : Nat) : Int)] OO (fun v O' => v = .bool (decide (to t = true)) ∧ O' = OO))
  (frm : Nat) (hfn : frm < d.next.length) (hex : ∃ (Q : Nat → Prop) (t : Nat), (∀ v, Q v → al v = true) ∧ to t = true ∧ ((false = false ∧ Rch (InS (DE d) Q) frm t) ∨ ∃ c, InS (DE d) Q frm c ∧ Rch (InS (DE d) Q) c t)) :
  CallT Tryd.prog base 87 [.slice nb d.next.length nc, vI ((frm : Nat) : Int), .bool false, fal, fto] OO (fun v O' => ∃ w t b c, PathR d al to frm false w t ∧ v = .tuple #[.slice b w.length c, vI ((t : Nat) : Int)] ∧ O' = rowI b c 5 1 (byts w) :: OO) := by
 refine CallT.enter func87 rfl ntmps87 rfl ?_
 have hvl := hr.1
 have hwd : letN d ≤ 64 := hw6
 refine T.s (T.rg (TO.qa rfl (TO.qa rfl (TO.nl (T.s (T.s (T.rg (TO.qm rfl (TO.q (q_not rfl) (TO.qm rfl (TO.gq rfl rfl (q_move rfl) (TO.gq rfl rfl (q_move rfl) ?_))))))))))))
 by_cases h23 : to frm = true
 ·have hk23 := hto frm hfn
  refine TO.gd rfl rfl rfl (l_callG hk23 rfl rfl ?_)
  clear hk23
  rintro vr O' ⟨rfl, e9⟩
  rw [decide_eq_true h23, e9]
  clear e9
  refine TO.q (q_pick1 rfl rfl) (TO.nl ?_)
  refine T.cond1 rfl ?_
  refine T.s (T.nilRow 5 1 ?_)
  refine T.rg (TO.qm rfl (TO.qa rfl (TO.qa rfl (TO.nl (T.ret (Res.drop ?_))))))
  refine Res.two nS (vI ((frm : Nat) : Int)) Tryd.results87 rfl rfl ?_
  exact ⟨rowI none 0 5 1 [] :: OO, Sub.rf, [], frm, none, 0, pathR_nil h23, rfl, rfl⟩
 have hk23 := hto frm hfn
 refine TO.gd rfl rfl rfl (l_callG hk23 rfl rfl ?_)
 clear hk23
 rintro vr O' ⟨rfl, e9⟩
 rw [decide_eq_false h23, e9]
 clear e9
 refine TO.q (q_pick1 rfl rfl) (TO.nl (T.cond0 rfl (T.skip (T.s (T.rg (TO.l rfl (l_makeMap KIn Value.bool (fun mp1 => ?_))))))))
 refine TO.qm rfl (TO.qm rfl (TO.q (q_not rfl) (TO.l rfl (l_mapInsert (a := ((frm : Nat) : Int)) (v := !false) 0 underlying79 (KeyOk.int underlying3) rfl rfl rfl rfl (by simp) ?_))))
 refine TO.qm rfl (TO.qa rfl (TO.nl (T.s (T.rg (TO.qm rfl (TO.q (q_build (cs := [vI ((frm : Nat) : Int), vI (-1), .int .u8 0]) plan120 inf120 (by kernel_rfl)) (TO.l rfl (l_buildSlice (m := 1) (parts := [(0, _)]) (cs := [vI ((frm : Nat) : Int), vI (-1), .int .u8 0]) underlying121 inf120 (by decide) (by kernel_rfl) rfl (fun z2 => ?_)))))))))
 refine TO.qa rfl (TO.nl (T.s (T.s (T.rg (TO.qa rfl (TO.nl (T.block ?_)))))))
 have hnt : false = false → to frm = false := fun h => by first | exact absurd h (by decide) | exact Bool.eq_false_iff.2 h23
 refine T.loopS (fun (i : Nat) ρ O => ∃ (sb : Option Addr) (sc : Nat) (st : List St3) (m : List (Int × Bool)), O = ([rowI sb sc 120 3 (st3C st), mapI KIn Value.bool mp1 m] ++ OO) ∧ i ≤ st.length ∧ BfI d al to frm false st i 0 ∧ SeenM false frm st m ∧ Heads [(0, (.slice nb d.next.length nc)), (1, vI ((frm : Nat) : Int)), (2, .bool false), (3, fal), (4, fto), (10, nS), (12, (.map (some mp1))), (13, (.slice sb st.length sc)), (14, vI ((i : Nat) : Int))] ρ) (fun i => d.next.length + 1 - i) 0 ?_ ?_
 ·exact ⟨(aD z2), 1, [(frm, -1, 0)], [(((frm : Nat) : Int), !false)], rfl, Nat.zero_le _, BfI.start hfn hnt, SeenM.start false frm, (.of rfl)⟩
 rintro i ρ O ⟨sb, sc, st, m, rfl, hi, hB, hM, hH⟩
 obtain ⟨ρ0, rfl⟩ := hH.elim
 clear hH
 have hst := hB.len
 refine T.s (T.s (T.rg (TO.qm rfl (TO.qm rfl (TO.q (q_len underlying121 rfl) (TO.q (q_lss rfl rfl) (TO.nl (T.condP rfl (fun hc => ?_) (fun hc => ?_)))))))))
 ·have hlt37 : i < st.length := by omega
  have hlti : i < st.length := by omega
  obtain ⟨q9, hq9e⟩ : ∃ q, st[i] = q := ⟨_, rfl⟩
  have hq9 : st[i]? = some q9 := by rw [List.getElem?_eq_getElem hlti, hq9e]
  have hqn : q9.1 < d.next.length := hB.lt _ (hq9e ▸ List.getElem_mem hlti)
  obtain ⟨v1, c1, g1, s1⟩ := hr.get hqn
  have hr1 : d.next[q9.1].length = letN d := hv.len _ (List.getElem_mem hqn)
  refine T.skip (T.s (T.block (T.s (T.rg (TO.qm rfl (TO.qm rfl (TO.qm rfl (TO.q (q_ixK (i := i) underlying121 inf120 rfl rfl (rowO (mG 0 rfl)) (by first | assumption | omega | (simp; omega) | simp_all) (by first | (rw [st3_len]; omega) | (simp [st3_len]; omega) | (simp_all [st3_len]; omega))) (TO.q (q_fieldEl underlying120 rfl inf3 rfl rfl (rowO (mG 0 rfl)) (by first | (rw [st3_len]; omega) | (simp [st3_len]; omega) | (simp_all [st3_len]; omega))) (TO.q (q_ld underlying3 rfl rfl (rowO (mG 0 rfl)) ((st3_get hlti 0 (by decide)).trans (by rw [hq9e]; rfl))) (TO.q (q_ix (i := q9.1) underlying22 inf23 rfl rfl (Sl.o hS) hqn (hvl ▸ hqn)) (TO.q (q_ld underlying23 rfl rfl (Sl.o hS) g1) (TO.q (q_len underlying23 rfl) (TO.qm rfl (TO.nl (T.block ?_))))))))))))))))
  refine T.loopS (fun (x : Nat) ρ O => ∃ (sb : Option Addr) (sc : Nat) (st : List St3) (m : List (Int × Bool)), O = ([rowI sb sc 120 3 (st3C st), mapI KIn Value.bool mp1 m] ++ OO) ∧ x ≤ letN d ∧ i < st.length ∧ st[i]? = some q9 ∧ BfI d al to frm false st i x ∧ SeenM false frm st m ∧ Heads [(0, (.slice nb d.next.length nc)), (1, vI ((frm : Nat) : Int)), (2, .bool false), (3, fal), (4, fto), (10, nS), (12, (.map (some mp1))), (13, (.slice sb st.length sc)), (14, vI ((i : Nat) : Int)), (47, (.slice v1 d.next[q9.1].length c1)), (48, vI (d.next[q9.1].length : Int)), (49, vI ((x : Nat) : Int))] ρ) (fun x => letN d - x) 0 ?_ ?_
  ·exact ⟨sb, sc, st, m, rfl, Nat.zero_le _, hlti, hq9, hB, hM, (.of rfl)⟩
  rintro x ρ O ⟨sb, sc, st, m, rfl, hx, hlti, hq9, hB, hM, hH⟩
  obtain ⟨ρ0, rfl⟩ := hH.elim
  clear hH
  have hst := hB.len
  obtain ⟨b9, hb9⟩ : ∃ b, (lookL ((toN d q9.1 x : Nat) : Int) m).getD false = b := ⟨_, rfl⟩
  refine T.s (T.rg (TO.q (q_lss rfl rfl) (TO.nl (T.s (T.condP rfl (fun hc => ?_) (fun hc => ?_))))))
  ·have hlt50 : x < d.next[q9.1].length := by omega
   have hxl : x < letN d := by omega
   obtain ⟨hto9, _, hxk1, hx1⟩ := hv.toN_lt hqn hxl
   have hx1 : (ints d.next[q9.1])[x]? = some (vI ((toN d q9.1 x : Nat) : Int)) := by rw [ints_get hxk1, hx1]
   refine T.skip (T.s (T.block (T.s (T.rg (TO.qm rfl (TO.q (q_ix (i := x) underlying23 inf3 rfl rfl (Sl.o s1) hxk1 (by rw [List.length_map]; exact hxk1)) (TO.q (q_ld underlying3 rfl rfl (Sl.o s1) hx1) (TO.qa rfl (TO.qa rfl (TO.nl (T.s (T.s (T.rg (TO.qm rfl (TO.qm rfl (TO.q (QT.cast (q_lookup (a := ((toN d q9.1 x : Nat) : Int)) underlying79 inf4 (KeyOk.int underlying3) rfl rfl (mG 1 rfl)) (v' := .bool (decide (b9 = true))) (by rw [← hb9]; cases lookL ((toN d q9.1 x : Nat) : Int) m with | none => rfl | some b => cases b <;> rfl)) ?_))))))))))))))))
   by_cases h57 : b9 = true
   ·refine TO.q (QT.toB (q_move rfl) (decide_eq_true h57)) ?_
    refine TO.pd rfl rfl (TO.pd rfl rfl (TO.pd rfl rfl (TO.pd rfl rfl (TO.q (q_pick1 rfl rfl) (TO.nl ?_)))))
    refine T.cond1 rfl ?_
    refine T.exit ?_
    refine T.rg (TO.q (q_addN (a := x) (b := 1) rfl rfl (by omega)) (TO.qm rfl (TO.nl ?_)))
    exact ⟨x + 1, by omega, ([rowI sb sc 120 3 (st3C st), mapI KIn Value.bool mp1 m] ++ OO), (Sub.pickR [0, 0] [rowI sb sc 120 3 (st3C st), mapI KIn Value.bool mp1 m] OO rfl rfl), sb, sc, st, m, rfl, by omega, hlti, hq9, hB.skip hq9 (fun h => by first | exact absurd h h60 | exact (hM _).1 (hb9.trans h57)), hM, (.of rfl)⟩
   refine TO.q (QT.toB (q_move rfl) (decide_eq_false h57)) (TO.gq rfl rfl (q_move rfl) (TO.gq rfl rfl (q_move rfl) ?_))
   by_cases h60 : al (toN d q9.1 x) = true
   ·have hk60 := CallV.keepR [rowI sb sc 120 3 (st3C st), mapI KIn Value.bool mp1 m] (hal (toN d q9.1 x) hto9)
    refine TO.gd rfl rfl rfl (l_callG hk60 rfl rfl ?_)
    clear hk60
    rintro vr O' ⟨rfl, rfl⟩
    rw [decide_eq_true h60]
    refine TO.gq rfl rfl (q_not rfl) (TO.q (q_pick0 rfl rfl) (TO.nl (T.cond0 rfl (T.skip (T.s ?_)))))
    have hns : ¬ SeenB false frm st (toN d q9.1 x) := fun g => h57 (hb9.symm.trans ((hM _).2 g))
    refine T.rg (TO.qm rfl (TO.qm rfl (TO.l rfl (l_mapPutA (K := KIn) (V := Value.bool) (a := ((toN d q9.1 x : Nat) : Int)) (v := true) 1 underlying79 (KeyOk.int underlying3) (sbY _) rfl rfl rfl rfl ?_))))
    refine TO.nl (T.s (T.rg (TO.qm rfl (TO.qm rfl (TO.qm rfl (TO.qm rfl (TO.q (q_conv_id underlying3 underlying5 rfl (wrap8 (by omega))) (TO.q (q_build (cs := [vI ((toN d q9.1 x : Nat) : Int), vI ((i : Nat) : Int), .int .u8 ((x : Nat) : Int)]) plan120 inf120 (by kernel_rfl)) (TO.l rfl (l_buildSlice (m := 1) (parts := [(0, _)]) (cs := [vI ((toN d q9.1 x : Nat) : Int), vI ((i : Nat) : Int), .int .u8 ((x : Nat) : Int)]) underlying121 inf120 (by decide) (by kernel_rfl) rfl (fun z3 => ?_)))))))))))
    refine TO.l rfl (l_append 1 underlying121 underlying121 inf120 rfl rfl rfl rfl (st3_len st) (by decide) (Src.row (j := 0) rfl (by simp)) (by simp [oneB]) (by omega) (by decide) (by decide) (fun z4 zc5 => ?_))
    refine TO.qa rfl (TO.nl (T.s (T.s (T.rg (TO.qm rfl (TO.qm rfl ?_))))))
    have hk75 := CallV.keepR [rowI (aD z3) 1 120 3 [vI ((toN d q9.1 x : Nat) : Int), vI ((i : Nat) : Int), .int .u8 ((x : Nat) : Int)], rowI z4 zc5 120 3 ((st3C st) ++ [vI ((toN d q9.1 x : Nat) : Int), vI ((i : Nat) : Int), .int .u8 ((x : Nat) : Int)]), mapI KIn Value.bool mp1 (putA ((toN d q9.1 x : Nat) : Int) true m)] (hto (toN d q9.1 x) hto9)
    refine TO.l rfl (l_callG hk75 rfl rfl ?_)
    clear hk75
    rintro vr O' ⟨rfl, rfl⟩
    refine TO.q (q_not rfl) (TO.nl (T.condP (p := ¬ to (toN d q9.1 x) = true) (congrArg Value.bool (by simp)) (fun hc => ?_) (fun hc => ?_)))
    ·have hnto : to (toN d q9.1 x) = false := Bool.eq_false_iff.2 hc
     refine T.exit ?_
     refine T.rg (TO.q (q_addN (a := x) (b := 1) rfl rfl (by omega)) (TO.qm rfl (TO.nl ?_)))
     refine ⟨x + 1, by omega, ([rowI z4 zc5 120 3 ((st3C st) ++ [vI ((toN d q9.1 x : Nat) : Int), vI ((i : Nat) : Int), .int .u8 ((x : Nat) : Int)]), mapI KIn Value.bool mp1 (putA ((toN d q9.1 x : Nat) : Int) true m)] ++ OO), (Sub.pickR [1, 1] [rowI (aD z3) 1 120 3 [vI ((toN d q9.1 x : Nat) : Int), vI ((i : Nat) : Int), .int .u8 ((x : Nat) : Int)], rowI z4 zc5 120 3 ((st3C st) ++ [vI ((toN d q9.1 x : Nat) : Int), vI ((i : Nat) : Int), .int .u8 ((x : Nat) : Int)]), mapI KIn Value.bool mp1 (putA ((toN d q9.1 x : Nat) : Int) true m)] OO rfl rfl), z4, zc5, st ++ [(toN d q9.1 x, (i : Int), x)], putA ((toN d q9.1 x : Nat) : Int) true m, ?_, by omega, by simp; omega, ?_, hB.push hq9 hxl rfl hto9 h60 hns hnto, hM.put hB.pos _ _ _, ?_⟩
     ·rw [st3_snoc]
     ·rw [List.getElem?_append_left hlti]; exact hq9
     ·rw [List.length_append]; exact (.of rfl)
    have hyto : to (toN d q9.1 x) = true := Classical.not_not.1 hc
    obtain ⟨hk1, hk2⟩ := hB.hit hq9 hxl rfl h60
    have hlen9 := hB.lenHit hto9 hns
    refine T.skip (T.s (T.s ?_))
    have hsn : (st ++ [(toN d q9.1 x, (i : Int), x)]).length = st.length + 1 := by simp
    refine T.sub (O' := [rowI z4 zc5 120 3 (st3C (st ++ [(toN d q9.1 x, (i : Int), x)])), mapI KIn Value.bool mp1 (putA ((toN d q9.1 x : Nat) : Int) true m)] ++ OO) (by rw [st3_snoc]; exact Sub.ca [rowI (aD z3) 1 120 3 [vI ((toN d q9.1 x : Nat) : Int), vI ((i : Nat) : Int), .int .u8 ((x : Nat) : Int)]]) ?_
    refine T.rg (TO.qm rfl (TO.q (q_len underlying121 rfl) (TO.q (QT.cast (q_subN (a := st.length + 1) (b := 1) rfl rfl (by omega) (by omega)) (v' := vI ((st.length : Nat) : Int)) (by simp)) (TO.qa rfl (TO.nl (T.block (T.nilRow 5 1 ?_)))))))
    refine T.loopS (fun (kk : Nat) ρ O => ∃ (wb : Option Addr) (wc : Nat) (w : List Nat), O = ([rowI wb wc 5 1 (byts w), rowI z4 zc5 120 3 (st3C (st ++ [(toN d q9.1 x, (i : Int), x)])), mapI KIn Value.bool mp1 (putA ((toN d q9.1 x : Nat) : Int) true m)] ++ OO) ∧ kk ≤ st.length ∧ BkP d al (st ++ [(toN d q9.1 x, (i : Int), x)]) st.length kk w (toN d q9.1 x) ∧ (kk = st.length → w = []) ∧ (kk ≠ st.length → w ≠ []) ∧ Heads [(0, (.slice nb d.next.length nc)), (1, vI ((frm : Nat) : Int)), (2, .bool false), (3, fal), (4, fto), (10, (.slice wb w.length wc)), (12, (.map (some mp1))), (13, (.slice z4 (st.length + 1) zc5)), (14, vI ((i : Nat) : Int)), (15, vI ((x : Nat) : Int)), (16, vI ((toN d q9.1 x : Nat) : Int)), (17, vI ((kk : Nat) : Int)), (47, (.slice v1 d.next[q9.1].length c1)), (48, vI (d.next[q9.1].length : Int)), (49, vI ((x : Nat) : Int))] ρ) (fun kk => kk) st.length ?_ ?_
    ·exact ⟨none, 0, [], rfl, Nat.le_refl _, hk1, fun _ => rfl, fun h => absurd rfl h, (.of rfl)⟩
    rintro kk ρ O ⟨wb, wc, w, rfl, hkk, hbk, hw0, hw1, hH⟩
    obtain ⟨ρ0, rfl⟩ := hH.elim
    clear hH
    refine T.s (T.s (T.rg (TO.qm rfl (TO.q (q_gtr rfl rfl) (TO.nl (T.condP rfl (fun hc => ?_) (fun hc => ?_)))))))
    ·have hlt81 : kk > 0 := by omega
     have hkl : kk < (st ++ [(toN d q9.1 x, (i : Int), x)]).length := by omega
     obtain ⟨j9, q8, hq8, hj9, hbk2, hjk⟩ : ∃ (j9 : Nat) (q8 : St3), (st ++ [(toN d q9.1 x, (i : Int), x)])[kk]? = some q8 ∧ q8.2.1 = (j9 : Int) ∧ BkP d al (st ++ [(toN d q9.1 x, (i : Int), x)]) st.length j9 (w ++ [q8.2.2]) (toN d q9.1 x) ∧ j9 < kk := by
      by_cases e : kk = st.length
      ·subst e
       exact ⟨i, (toN d q9.1 x, (i : Int), x), by rw [List.getElem?_append_right (Nat.le_refl _)]; simp, rfl, by rw [hw0 rfl]; exact hk2, hlti⟩
      ·obtain ⟨j9, q8, a1, a2, a3, a4⟩ := hbk.step hB (by omega) (by omega)
       exact ⟨j9, q8, a1, a2, a3, a4⟩
     rw [List.getElem?_eq_getElem hkl] at hq8
     have hq8e := Option.some.inj hq8
     refine T.skip (T.s (T.block (T.rg (TO.qm rfl (TO.qm rfl (TO.qm rfl (TO.q (q_ixK (i := kk) underlying121 inf120 rfl rfl (rowO (mG 1 rfl)) (hsn ▸ hkl) (by rw [st3_len]; omega)) (TO.q (q_fieldEl underlying120 rfl inf5 rfl rfl (rowO (mG 1 rfl)) (by first | (rw [st3_len]; omega) | (simp [st3_len]; omega) | (simp_all [st3_len]; omega))) (TO.q (q_ld underlying5 rfl rfl (rowO (mG 1 rfl)) ((st3_get hkl 2 (by decide)).trans (by rw [hq8e]; rfl))) (TO.l rfl (l_build1 (v := .int .u8 ((q8.2.2 : Nat) : Int)) underlying26 inf5 rfl rfl rfl (fun z6 => ?_))))))))))))
     refine TO.l rfl (l_append 1 underlying26 underlying26 inf5 rfl rfl rfl rfl (by rw [List.length_map, Nat.mul_one]) (by decide) (Src.row (j := 0) rfl (by simp)) (by simp [oneB]) (by have := hbk.len; omega) (by decide) (by decide) (fun z7 zc8 => ?_))
     refine TO.qa rfl (TO.nl (T.rg (TO.qm rfl (TO.qm rfl (TO.q (q_ixK (i := kk) underlying121 inf120 rfl rfl (rowO (mG 2 rfl)) (hsn ▸ hkl) (by rw [st3_len]; omega)) (TO.q (q_fieldEl underlying120 rfl inf3 rfl rfl (rowO (mG 2 rfl)) (by first | (rw [st3_len]; omega) | (simp [st3_len]; omega) | (simp_all [st3_len]; omega))) (TO.q (q_ld underlying3 rfl rfl (rowO (mG 2 rfl)) ((st3_get hkl 1 (by decide)).trans (by rw [hq8e]; show some (Value.int .i64 q8.2.1) = _; rw [hj9]))) (TO.qa rfl (TO.nl ?_)))))))))
     exact ⟨j9, hjk, ([rowI z7 zc8 5 1 ((byts w) ++ [.int .u8 ((q8.2.2 : Nat) : Int)]), rowI z4 zc5 120 3 (st3C (st ++ [(toN d q9.1 x, (i : Int), x)])), mapI KIn Value.bool mp1 (putA ((toN d q9.1 x : Nat) : Int) true m)] ++ OO), (Sub.pickR [1, 1, 1] [rowI (aD z6) 1 5 1 [.int .u8 ((q8.2.2 : Nat) : Int)], rowI z7 zc8 5 1 ((byts w) ++ [.int .u8 ((q8.2.2 : Nat) : Int)]), rowI z4 zc5 120 3 (st3C (st ++ [(toN d q9.1 x, (i : Int), x)])), mapI KIn Value.bool mp1 (putA ((toN d q9.1 x : Nat) : Int) true m)] OO rfl rfl), z7, zc8, w ++ [q8.2.2], by rw [show byts (w ++ [q8.2.2]) = byts w ++ [.int .u8 ((q8.2.2 : Nat) : Int)] by simp], by omega, hbk2, fun h => absurd h (by omega), fun _ => by simp, by rw [List.length_append]; exact (.of rfl)⟩
    have hge81 : ¬ kk > 0 := by omega
    refine T.exit ?_
    refine T.s (T.rg (TO.qm rfl ?_))
    have hk96 := CallT.under (A := [rowI wb wc 5 1 (byts w)]) (B := [rowI z4 zc5 120 3 (st3C (st ++ [(toN d q9.1 x, (i : Int), x)])), mapI KIn Value.bool mp1 (putA ((toN d q9.1 x : Nat) : Int) true m)] ++ OO) (O := ([rowI wb wc 5 1 (byts w), rowI z4 zc5 120 3 (st3C (st ++ [(toN d q9.1 x, (i : Int), x)])), mapI KIn Value.bool mp1 (putA ((toN d q9.1 x : Nat) : Int) true m)] ++ OO)) (reverseB base wb wc wc w (by have := hbk.len; omega)) (Sub.ca [])
    refine TO.l rfl (l_call ent97 hk96 rfl ?_)
    clear hk96
    rintro vr O' ⟨A1, rfl, rfl⟩
    refine TO.nl (T.s (T.rg (TO.qm rfl (TO.qm rfl (TO.qa rfl (TO.qa rfl (TO.nl (T.ret (Res.drop ?_)))))))))
    refine Res.two (.slice wb w.length wc) (vI ((toN d q9.1 x : Nat) : Int)) Tryd.results87 rfl rfl ?_
    have hk0 : kk = 0 := by omega
    subst hk0
    have hpr := hbk.done hB hlen9 (hw1 (by have := hB.pos; omega)) hyto
    exact ⟨rowI wb wc 5 1 (byts w.reverse) :: OO, Sub.ca [rowI z4 zc5 120 3 (st3C (st ++ [(toN d q9.1 x, (i : Int), x)])), mapI KIn Value.bool mp1 (putA ((toN d q9.1 x : Nat) : Int) true m)], w.reverse, _, wb, wc, hpr, by rw [List.length_reverse], rfl⟩
   have hk60 := CallV.keepR [rowI sb sc 120 3 (st3C st), mapI KIn Value.bool mp1 m] (hal (toN d q9.1 x) hto9)
   refine TO.gd rfl rfl rfl (l_callG hk60 rfl rfl ?_)
   clear hk60
   rintro vr O' ⟨rfl, rfl⟩
   rw [decide_eq_false h60]
   refine TO.gq rfl rfl (q_not rfl) (TO.q (q_pick0 rfl rfl) (TO.nl ?_))
   refine T.cond1 rfl ?_
   refine T.exit ?_
   refine T.rg (TO.q (q_addN (a := x) (b := 1) rfl rfl (by omega)) (TO.qm rfl (TO.nl ?_)))
   exact ⟨x + 1, by omega, ([rowI sb sc 120 3 (st3C st), mapI KIn Value.bool mp1 m] ++ OO), (Sub.pickR [0, 0] [rowI sb sc 120 3 (st3C st), mapI KIn Value.bool mp1 m] OO rfl rfl), sb, sc, st, m, rfl, by omega, hlti, hq9, hB.skip hq9 (fun h => by first | exact absurd h h60 | exact (hM _).1 (hb9.trans h57)), hM, (.of rfl)⟩
  have hge50 : ¬ x < d.next[q9.1].length := by omega
  refine T.exit ?_
  refine T.rg (TO.qm rfl (TO.q (q_addN (a := i) (b := 1) rfl rfl (by omega)) (TO.qa rfl (TO.nl ?_))))
  have hxe : x = letN d := by omega
  subst hxe
  exact ⟨i + 1, by omega, ([rowI sb sc 120 3 (st3C st), mapI KIn Value.bool mp1 m] ++ OO), (Sub.pickR [0, 0] [rowI sb sc 120 3 (st3C st), mapI KIn Value.bool mp1 m] OO rfl rfl), sb, sc, st, m, rfl, by omega, hB.next, hM, (.of rfl)⟩
 have hge37 : ¬ i < st.length := by omega
 refine T.exit ?_
 refine T.s (T.rg (TO.qa rfl (TO.qa rfl (TO.nl (T.ret (Res.drop ?_))))))
 refine Res.two nS (vI (-1)) Tryd.results87 rfl rfl ?_
 have hie : i = st.length := by omega
 subst hie
 obtain ⟨Q, t, e1, e2, e3⟩ := hex
 exact (hB.none e1 e2 e3).elim
end Go.Proofs.YtnikhiohindggaaDoor


namespace Go.Proofs.YtnikhiohindggaaDoor
open Go.Lx Go.RowKit _root_.Go.Proofs.Tryd
theorem fullF (w : World) [Tab Tryd.prog w] (l : La) (pb lb : Option Addr) (pc lc : Nat) (h0 : 0 < l.loop.length) :
  PureT Tryd.prog 98 [.agg (laCells l pb pc lb lc).toArray] w fun z N => z = .agg (laCells l pb pc lb lc).toArray ∧ N = [] := by
 refine CallT.enter func98 rfl ntmps98 rfl ?_
 refine T.s (T.rg (TO.l rfl (l_box (v := (.agg (laCells l pb pc lb lc).toArray)) (cs := (laCells l pb pc lb lc)) rfl rfl (fun bx1 => ?_))))
 refine TO.l rfl (l_alloc inf28 rfl (fun bx2 => ?_))
 refine TO.nl (T.s (T.s (T.rg (TO.q (q_fa underlying28 rfl inf26 rfl rfl) (TO.q (q_lb 1 underlying26 rfl rfl rfl rfl) (TO.q (q_len underlying26 rfl) (TO.q (QT.toB (q_eql rfl rfl) (decide_eq_false (show ¬ ((l.loop.length : Int) = 0) by omega))) (TO.nl (T.cond0 rfl (T.skip (T.s (T.rg (TO.q (q_la 1 underlying28 rfl inf28 rfl rfl rfl) (TO.l rfl (l_sb (v := (.agg (laCells l pb pc lb lc).toArray)) (vs := (laCells l pb pc lb lc)) 0 inf28 rfl rfl rfl rfl rfl rfl (by simp [putL]) ?_)))))))))))))))
 refine TO.nl (T.ret (Res.drop ?_))
 refine Res.cell1 (i := 0) Tryd.results98 underlying28 rfl inf28 rfl rfl rfl ?_
 exact ⟨[], Sub.of (List.nil_sublist _), rfl, rfl⟩
theorem refFullF (w : World) [Tab Tryd.prog w] (l : La) (pb lb : Option Addr) (pc lc : Nat) (h0 : 0 < l.loop.length) :
  PureT Tryd.prog 68 [.agg (laCells l pb pc lb lc).toArray] w fun z N => z = .agg (laCells l pb pc lb lc).toArray ∧ N = [] := by
 refine CallT.enter func68 rfl ntmps68 rfl ?_
 refine T.s (T.rg (TO.l rfl (l_box (v := (.agg (laCells l pb pc lb lc).toArray)) (cs := (laCells l pb pc lb lc)) rfl rfl (fun bx1 => ?_))))
 refine TO.l rfl (l_alloc inf28 rfl (fun bx2 => ?_))
 refine TO.nl (T.s (T.s (T.rg (TO.q (q_fa underlying28 rfl inf26 rfl rfl) (TO.q (q_lb 1 underlying26 rfl rfl rfl rfl) (TO.q (q_len underlying26 rfl) (TO.q (QT.toB (q_eql rfl rfl) (decide_eq_false (show ¬ ((l.loop.length : Int) = 0) by omega))) (TO.nl (T.cond0 rfl (T.skip (T.s (T.rg (TO.q (q_la 1 underlying28 rfl inf28 rfl rfl rfl) (TO.l rfl (l_sb (v := (.agg (laCells l pb pc lb lc).toArray)) (vs := (laCells l pb pc lb lc)) 0 inf28 rfl rfl rfl rfl rfl rfl (by simp [putL]) ?_)))))))))))))))
 refine TO.nl (T.ret (Res.drop ?_))
 refine Res.cell1 (i := 0) Tryd.results68 underlying28 rfl inf28 rfl rfl rfl ?_
 exact ⟨[], Sub.of (List.nil_sublist _), rfl, rfl⟩
theorem refIndexF (w : World) [Tab Tryd.prog w] (l : La) (pb lb : Option Addr) (pc lc : Nat) (h : LaAt w l pb lb pc lc) (hL : LaB l) (h0 : 0 < l.loop.length) (i : Nat) (hi : i ≤ 1000000000000) :
    PureT Tryd.prog 102 [.agg (laCells l pb pc lb lc).toArray, vI (i : Int)] w fun z N => z = vI ((l.ix i : Nat) : Int) ∧ N = [] := by
 refine CallT.enter func102 rfl ntmps102 rfl ?_
 have hpl := hL.pre; have hll := hL.loop
 have hml := Nat.mod_le (i - l.pre.length) l.loop.length
 refine T.s (T.rg (TO.l rfl (l_box (v := (.agg (laCells l pb pc lb lc).toArray)) (cs := (laCells l pb pc lb lc)) rfl rfl (fun bx1 => ?_))))
 refine TO.qa rfl (TO.nl (T.s (T.rg (TO.q (q_la 0 underlying28 rfl inf28 rfl rfl rfl) ?_))))
 have hk6 := fun (w1 : World) (hI : Inv w [oI bx1 28 (laCells l pb pc lb lc)] w1) => (haveI := Inv.tab (P := Tryd.prog) hI; refFullF w1 l pb lb pc lc h0)
 refine TO.l rfl (l_call ent68 (CallT.op hk6) rfl ?_)
 clear hk6
 rintro vr O' ⟨N, rfl, rfl, rfl⟩
 refine TO.l rfl (l_sb (v := (.agg (laCells l pb pc lb lc).toArray)) (vs := (laCells l pb pc lb lc)) 0 inf28 rfl rfl rfl rfl rfl rfl (by simp [putL]) ?_)
 refine TO.nl (T.s (T.s (T.rg (TO.qm rfl (TO.q (q_lss rfl rfl) (TO.nl (T.cond0 (congrArg Value.bool (decide_eq_false (by omega))) (T.skip (T.s (T.s (T.rg (TO.qm rfl (TO.q (q_fa underlying28 rfl inf26 rfl rfl) (TO.q (q_lb 0 underlying26 rfl rfl rfl rfl) (TO.q (q_len underlying26 rfl) (TO.q (q_lss rfl rfl) (TO.nl (T.condP rfl (fun hc => ?_) (fun hc => ?_)))))))))))))))))))
 ·have hlt13 : i < l.pre.length := by omega
  refine T.s (T.rg (TO.qm rfl (TO.qa rfl (TO.nl (T.ret (Res.drop ?_))))))
  refine Res.one (vI (i : Int)) Tryd.results102 rfl ?_
  exact ⟨[], Sub.of (List.nil_sublist _), congrArg (fun z : Nat => Value.int .i64 (z : Int)) (La.ix_pre hlt13).symm, rfl⟩
 have hge13 : ¬ i < l.pre.length := by omega
 refine T.skip (T.s ?_)
 refine T.draws _ [(0, 0), (1, 0), (2, 0), (3, 0), (4, 0), (5, 0), (6, 0), (7, 0), (8, 0), (9, 0), (10, 0), (11, 0), (12, 0), (13, 0)] mixed (drawF_ok (by kernel_rfl)) (Sub.of (List.Sublist.refl _)) (fun _ _ _ h => h) ?_
 refine DO.q rfl (q_fa underlying28 rfl inf26 rfl rfl) (DO.q rfl (q_lb 0 underlying26 rfl rfl rfl rfl) (DO.q rfl (q_len underlying26 rfl) (DO.q rfl (q_move rfl) (DO.q rfl (q_fa underlying28 rfl inf26 rfl rfl) (DO.q rfl (q_lb 0 underlying26 rfl rfl rfl rfl) (DO.q rfl (q_len underlying26 rfl) (DO.q rfl (q_subN (a := i) (b := l.pre.length) rfl rfl (by omega) (by omega)) (DO.q rfl (q_fa underlying28 rfl inf26 rfl rfl) (DO.q rfl (q_lb 0 underlying26 rfl rfl rfl rfl) (DO.q rfl (q_len underlying26 rfl) (DO.q rfl (q_remN (a := (i - l.pre.length)) (b := l.loop.length) rfl rfl (by omega)) (DO.q rfl (q_addN (a := l.pre.length) (b := ((i - l.pre.length) % l.loop.length)) rfl rfl (by omega)) (DO.q rfl (q_assign rfl) ?_)))))))))))))
 refine DO.done ?_
 refine T.ret (Res.drop ?_)
 refine Res.one (vI ((l.pre.length + ((i - l.pre.length) % l.loop.length) : Nat) : Int)) Tryd.results102 rfl ?_
 exact ⟨[], Sub.of (List.nil_sublist _), congrArg (fun z : Nat => Value.int .i64 (z : Int)) (La.ix_loop h0 (by omega)).symm, rfl⟩
theorem refAtF (w : World) [Tab Tryd.prog w] (l : La) (pb lb : Option Addr) (pc lc : Nat) (h : LaAt w l pb lb pc lc) (hL : LaB l) (h0 : 0 < l.loop.length) (i : Nat) (hi : i ≤ 1000000000000) :
    PureT Tryd.prog 91 [.agg (laCells l pb pc lb lc).toArray, vI (i : Int)] w fun z N => z = .int .u8 ((l.at i : Nat) : Int) ∧ N = [] := by
 refine CallT.enter func91 rfl ntmps91 rfl ?_
 have hpl := hL.pre; have hll := hL.loop
 have hixl := La.ix_lt h0 i
 have hn : l.n = l.pre.length + l.loop.length := rfl
 have hlo : l.pre.length ≤ l.ix i → ∃ hx : l.ix i - l.pre.length < l.loop.length, l.loop[l.ix i - l.pre.length] = l.at i := fun hh => by
  by_cases e : i < l.pre.length
  ·rw [La.ix_pre e] at hh; omega
  ·refine ⟨by omega, ?_⟩
   rw [La.at_loop h0 (by omega)]; congr 1; rw [La.ix_loop h0 (by omega)]; omega
 have hpr : l.ix i < l.pre.length → ∃ hx : i < l.pre.length, l.ix i = i := fun hh => by
  by_cases e : i < l.pre.length
  ·exact ⟨e, La.ix_pre e⟩
  ·rw [La.ix_loop h0 (by omega)] at hh; omega
 refine T.s (T.rg (TO.l rfl (l_box (v := (.agg (laCells l pb pc lb lc).toArray)) (cs := (laCells l pb pc lb lc)) rfl rfl (fun bx1 => ?_))))
 refine TO.qa rfl (TO.nl (T.s (T.s (T.rg (TO.qm rfl (TO.q (q_lss rfl rfl) (TO.nl (T.cond0 (congrArg Value.bool (decide_eq_false (by omega))) (T.skip (T.s (T.rg (TO.q (q_la 0 underlying28 rfl inf28 rfl rfl rfl) ?_))))))))))))
 have hk9 := fun (w1 : World) (hI : Inv w [oI bx1 28 (laCells l pb pc lb lc)] w1) => (haveI := Inv.tab (P := Tryd.prog) hI; refFullF w1 l pb lb pc lc h0)
 refine TO.l rfl (l_call ent68 (CallT.op hk9) rfl ?_)
 clear hk9
 rintro vr O' ⟨N, rfl, rfl, rfl⟩
 refine TO.l rfl (l_sb (v := (.agg (laCells l pb pc lb lc).toArray)) (vs := (laCells l pb pc lb lc)) 0 inf28 rfl rfl rfl rfl rfl rfl (by simp [putL]) ?_)
 refine TO.nl (T.s (T.rg (TO.q (q_la 0 underlying28 rfl inf28 rfl rfl rfl) (TO.qm rfl ?_))))
 have hk12 := fun (w1 : World) (hI : Inv w [oI bx1 28 (laCells l pb pc lb lc)] w1) => (haveI := Inv.tab (P := Tryd.prog) hI; refIndexF w1 l pb lb pc lc (hI.la h) hL h0 i hi)
 refine TO.l rfl (l_call ent102 (CallT.op hk12) rfl ?_)
 clear hk12
 rintro vr O' ⟨N, rfl, rfl, rfl⟩
 refine TO.qa rfl (TO.nl (T.s (T.s (T.rg (TO.qm rfl (TO.q (q_fa underlying28 rfl inf26 rfl rfl) (TO.q (q_lb 0 underlying26 rfl rfl rfl rfl) (TO.q (q_len underlying26 rfl) (TO.q (q_lss rfl rfl) (TO.nl (T.condP rfl (fun hc => ?_) (fun hc => ?_))))))))))))
 ·have hlt17 : l.ix i < l.pre.length := by omega
  obtain ⟨hx1, hx2⟩ := hpr (by omega)
  refine T.s (T.rg (TO.q (q_fa underlying28 rfl inf26 rfl rfl) (TO.q (q_lb 0 underlying26 rfl rfl rfl rfl) (TO.q (QT.cast (q_move rfl) (v' := vI ((i : Nat) : Int)) (by show Value.int _ _ = _; rw [hx2])) (TO.q (q_ix (i := i) underlying26 inf5 rfl rfl (Sl.o h.pre) hx1 (by rw [List.length_map]; exact hx1)) (TO.q (q_ld underlying5 rfl rfl (Sl.o h.pre) (show (byts l.pre)[i]? = _ by rw [byts_get hx1, ← La.at_pre hx1])) (TO.qa rfl (TO.nl (T.ret (Res.drop ?_))))))))))
  refine Res.one (.int .u8 ((l.at i : Nat) : Int)) Tryd.results91 rfl ?_
  exact ⟨[], Sub.of (List.nil_sublist _), rfl, rfl⟩
 have hge17 : ¬ l.ix i < l.pre.length := by omega
 obtain ⟨hx1, hx2⟩ := hlo (by omega)
 refine T.skip (T.s (T.rg (TO.q (q_fa underlying28 rfl inf26 rfl rfl) (TO.q (q_lb 0 underlying26 rfl rfl rfl rfl) (TO.qm rfl (TO.q (q_fa underlying28 rfl inf26 rfl rfl) (TO.q (q_lb 0 underlying26 rfl rfl rfl rfl) (TO.q (q_len underlying26 rfl) (TO.q (q_subN (a := (l.ix i)) (b := l.pre.length) rfl rfl (by omega) (by omega)) (TO.q (q_ix (i := ((l.ix i) - l.pre.length)) underlying26 inf5 rfl rfl (Sl.o h.loop) hx1 (by rw [List.length_map]; exact hx1)) (TO.q (q_ld underlying5 rfl rfl (Sl.o h.loop) (show (byts l.loop)[l.ix i - l.pre.length]? = _ by rw [byts_get hx1, hx2])) (TO.qa rfl (TO.nl (T.ret (Res.drop ?_)))))))))))))))
 refine Res.one (.int .u8 ((l.at i : Nat) : Int)) Tryd.results91 rfl ?_
 exact ⟨[], Sub.of (List.nil_sublist _), rfl, rfl⟩
end Go.Proofs.YtnikhiohindggaaDoor


namespace Go.Proofs.YtnikhiohindggaaDoor
open Go.Lx Go.RowKit _root_.Go.Proofs.Tryd
theorem lb_step {xs fl : List Nat} {i k : Nat} (hfl : fl.length = xs.length + 1) (hi : i < xs.length) (h : ∀ j, 1 ≤ j → j ≤ i → LB (fun i => xs.getD i 0) j (fl.getD j 0)) (hn : LB (fun i => xs.getD i 0) (i + 1) k) (j : Nat) (h1 : 1 ≤ j) (h2 : j ≤ i + 1) : LB (fun i => xs.getD i 0) j ((fl.set (i + 1) k).getD j 0) := by
 have e := fn_set (a := k) (l := fl) (v := i + 1) (by omega) j
 rw [show (fl.set (i + 1) k).getD j 0 = fn (fl.set (i + 1) k) j from rfl, e]
 by_cases hj : j = i + 1
 ·subst hj; rw [if_pos rfl]; exact hn
 ·rw [if_neg hj]; exact h j h1 (by omega)
theorem rootF (w : World) [Tab Tryd.prog w] (b : Option Addr) (c : Nat) (xs : List Nat) (hS : Sl w b (byts xs)) (h0 : 0 < xs.length) (hc : xs.length ≤ c) (hb : xs.length ≤ 1000000) :
  PureT Tryd.prog 99 [.slice b xs.length c] w fun v N => ∃ q, v = .slice b q c ∧ N = [] ∧ Root (fun i => xs.getD i 0) xs.length q := by
 refine CallT.enter func99 rfl ntmps99 rfl ?_
 refine T.s (T.rg (TO.qa rfl (TO.nl (T.s (T.rg (TO.qm rfl (TO.q (q_len underlying26 rfl) (TO.q (q_addN (a := xs.length) (b := 1) rfl rfl (by omega)) (TO.l rfl (l_makeSlice (m := xs.length + 1) underlying23 inf3 rfl rfl (by omega) (by omega) (fun bx1 => ?_)))))))))))
 refine TO.qa rfl (TO.nl (T.s (T.rg (TO.qa rfl (TO.nl (T.s (T.s (T.rg (TO.qa rfl (TO.nl (T.block ?_)))))))))))
 refine T.loop (fun (i : Nat) ρ O => ∃ (fl : List Nat) (k : Nat), O = [rowI (aD bx1) (xs.length + 1) 3 1 (nats fl)] ∧ 1 ≤ i ∧ i ≤ xs.length ∧ fl.length = xs.length + 1 ∧ (∀ j, 1 ≤ j → j ≤ i → LB (fun i => xs.getD i 0) j (fl.getD j 0)) ∧ k = fl.getD i 0 ∧ Heads [(0, (.slice b xs.length c)), (2, nS), (3, (.slice (aD bx1) (xs.length + 1) (xs.length + 1))), (4, vI (k : Int)), (5, vI (i : Int))] ρ) (fun i => xs.length - i) 1 ?_ ?_
 ·refine ⟨List.replicate (xs.length + 1) 0, 0, ?_, Nat.le_refl _, h0, by simp, fun j h1 h2 => ?_, by rw [gd (by simp; omega)]; simp, (.of rfl)⟩
  ·simp only [List.map_replicate]; rfl
  ·have : j = 1 := by omega
   subst this
   rw [gd (by simp; omega), List.getElem_replicate]; exact KMP.one
 rintro i ρ O ⟨fl, k, rfl, hi1, hi, hfl, hLB, hk0, hH⟩
 obtain ⟨ρ0, rfl⟩ := hH.elim
 clear hH
 have hW := hLB i hi1 (Nat.le_refl _)
 rw [← hk0] at hW
 have hk1 := hW.b.1
 refine T.s (T.s (T.rg (TO.qm rfl (TO.qm rfl (TO.q (q_len underlying26 rfl) (TO.q (q_lss rfl rfl) (TO.nl (T.condP rfl (fun hc => ?_) (fun hc => ?_)))))))))
 ·have hlt14 : i < xs.length := by omega
  refine T.skip (T.s (T.block (T.s (T.block ?_))))
  refine T.loop (fun (k2 : Nat) ρ O => O = [rowI (aD bx1) (xs.length + 1) 3 1 (nats fl)] ∧ Cand (fun i => xs.getD i 0) i k2 ∧ Heads [(0, (.slice b xs.length c)), (2, nS), (3, (.slice (aD bx1) (xs.length + 1) (xs.length + 1))), (4, vI (k2 : Int)), (5, vI (i : Int))] ρ) (fun k2 => k2) k ?_ ?_
  ·exact ⟨rfl, KMP.start hW, (.of rfl)⟩
  rintro k2 ρ O ⟨rfl, hcand, hH⟩
  obtain ⟨ρ0, rfl⟩ := hH.elim
  clear hH
  have hk2 := hcand.1.1
  refine T.s (T.s ?_)
  refine T.draws _ [(0, 0), (1, 0), (2, 0), (3, 0), (4, 0), (5, 0), (6, 0), (7, 0), (8, 0), (9, 0), (10, 0), (11, 0), (12, 0)] mixed (drawF_ok (by kernel_rfl)) (Sub.of (List.Sublist.refl _)) (fun _ _ _ h => h) ?_
  refine DO.q rfl (q_move rfl) (DO.q rfl (q_gtr rfl rfl) ?_)
  by_cases hs19 : (k2 : Int) > 0
  ·refine DO.q rfl (QT.toB (q_move rfl) (decide_eq_true hs19)) ?_
   refine DO.guarded rfl rfl rfl (q_move rfl) ?_
   refine DO.guarded rfl rfl rfl (q_move rfl) ?_
   refine DO.guarded rfl rfl rfl (q_ix (i := i) underlying26 inf5 rfl rfl (Sl.o hS)) ?_
   refine DO.guarded rfl rfl rfl (q_ld underlying5 rfl rfl (Sl.o hS) byts_get) ?_
   refine DO.guarded rfl rfl rfl (q_move rfl) ?_
   refine DO.guarded rfl rfl rfl (q_move rfl) ?_
   refine DO.guarded rfl rfl rfl (q_ix (i := k2) underlying26 inf5 rfl rfl (Sl.o hS)) ?_
   refine DO.guarded rfl rfl rfl (q_ld underlying5 rfl rfl (Sl.o hS) byts_get) ?_
   refine DO.guarded rfl rfl rfl (q_neq rfl rfl) ?_
   refine DO.q rfl (q_pick1 rfl rfl) ?_
   refine DO.done ?_
   refine T.condP rfl (fun hc => ?_) (fun hc => ?_)
   ·have hlt29 : xs[i] ≠ xs[k2] := by omega
    have hs28 := hc
    refine T.skip (T.block (T.rg (TO.qm rfl (TO.qm rfl (TO.q (q_ix (i := k2) underlying23 inf3 rfl rfl (rowO (mG 0 rfl))) (TO.q (q_ld underlying3 rfl rfl (rowO (mG 0 rfl)) nats_get) (TO.qa rfl (TO.nl ?_))))))))
    have hb := hLB k2 (by omega) (by omega)
    have hlt := hb.b.1
    rw [gd (by omega)] at hb hlt
    exact ⟨fl[k2], hlt, rfl, KMP.next hcand (by show xs.getD i 0 ≠ xs.getD k2 0; rw [gd (by omega), gd (by omega)]; omega) hb, (.of rfl)⟩
   have hge29 : ¬ xs[i] ≠ xs[k2] := by omega
   refine T.exit ?_
   refine T.s (T.s ?_)
   refine T.draws _ [(0, 0), (1, 0), (2, 0), (3, 0), (4, 0), (5, 0), (6, 0), (7, 0), (8, 0)] mixed (by kernel_rfl) (Sub.of (List.Sublist.refl _)) (fun _ _ _ h => h) ?_
   refine DO.q rfl (q_move rfl) (DO.q rfl (q_move rfl) (DO.q rfl (q_ix (i := i) underlying26 inf5 rfl rfl (Sl.o hS)) (DO.q rfl (q_ld underlying5 rfl rfl (Sl.o hS) byts_get) (DO.q rfl (q_move rfl) (DO.q rfl (q_move rfl) (DO.q rfl (q_ix (i := k2) underlying26 inf5 rfl rfl (Sl.o hS)) (DO.q rfl (q_ld underlying5 rfl rfl (Sl.o hS) byts_get) (DO.q rfl (q_eql rfl rfl) ?_))))))))
   refine DO.done ?_
   refine T.condP rfl (fun hc => ?_) (fun hc => ?_)
   ·have hlt42 : xs[i] = xs[k2] := by omega
    refine T.rg (TO.qm rfl (TO.q (q_addN (a := k2) (b := 1) rfl rfl (by omega)) (TO.qa rfl (TO.nl (T.rg (TO.qm rfl (TO.qm rfl (TO.q (q_addN (a := i) (b := 1) rfl rfl (by omega)) (TO.qm rfl (TO.q (q_ix (i := (i + 1)) underlying23 inf3 rfl rfl (rowO (mG 0 rfl))) (TO.l rfl (l_st (j := (i + 1)) (v := vI ((k2 + 1 : Nat) : Int)) (vs := [(vI ((k2 + 1 : Nat) : Int))]) (cs := nats fl) 0 inf3 rfl rfl rfl rfl rfl (by simp) rfl (by first | (simp; omega) | (simp_all; omega)) ?_))))))))))))
    refine TO.sub (O' := [rowI (aD bx1) (xs.length + 1) 3 1 (nats (fl.set (i + 1) (k2 + 1)))]) (by rw [show putL (nats fl) (i + 1) [(vI ((k2 + 1 : Nat) : Int))] = nats (fl.set (i + 1) (k2 + 1)) from (by simp [putL])]; exact Sub.of (List.Sublist.refl _)) ?_
    refine TO.nl (T.rg (TO.qm rfl (TO.q (q_addN (a := i) (b := 1) rfl rfl (by omega)) (TO.qa rfl (TO.nl ?_)))))
    exact ⟨i + 1, by omega, fl.set (i + 1) (k2 + 1), k2 + 1, rfl, by omega, by omega, by simp [hfl], fun j h1 h2 => lb_step hfl (by omega) hLB (KMP.hit hcand (by show xs.getD i 0 = xs.getD k2 0; rw [gd (by omega), gd (by omega)]; omega)) j h1 h2, by rw [gd (by simp; omega), List.getElem_set_self], (.of rfl)⟩
   have hge42 : ¬ xs[i] = xs[k2] := by omega
   refine T.skip (T.rg (TO.qm rfl (TO.qm rfl (TO.q (q_addN (a := i) (b := 1) rfl rfl (by omega)) (TO.qm rfl (TO.q (q_ix (i := (i + 1)) underlying23 inf3 rfl rfl (rowO (mG 0 rfl))) (TO.l rfl (l_st (j := (i + 1)) (v := vI (k2 : Int)) (vs := [(vI (k2 : Int))]) (cs := nats fl) 0 inf3 rfl rfl rfl rfl rfl (by simp) rfl (by first | (simp; omega) | (simp_all; omega)) ?_))))))))
   refine TO.sub (O' := [rowI (aD bx1) (xs.length + 1) 3 1 (nats (fl.set (i + 1) (k2)))]) (by rw [show putL (nats fl) (i + 1) [(vI (k2 : Int))] = nats (fl.set (i + 1) (k2)) from (by simp [putL])]; exact Sub.of (List.Sublist.refl _)) ?_
   refine TO.nl (T.rg (TO.qm rfl (TO.q (q_addN (a := i) (b := 1) rfl rfl (by omega)) (TO.qa rfl (TO.nl ?_)))))
   have hk20 : k2 = 0 := by omega
   subst hk20
   exact ⟨i + 1, by omega, fl.set (i + 1) 0, 0, rfl, by omega, by omega, by simp [hfl], fun j h1 h2 => lb_step hfl (by omega) hLB (KMP.miss hcand (by show xs.getD i 0 ≠ xs.getD 0 0; rw [gd (by omega), gd (by omega)]; omega)) j h1 h2, by rw [gd (by simp; omega), List.getElem_set_self], (.of rfl)⟩
  refine DO.q rfl (QT.toB (q_move rfl) (decide_eq_false hs19)) (DO.passed rfl rfl rfl (DO.passed rfl rfl rfl (DO.passed rfl rfl rfl (DO.passed rfl rfl rfl (DO.passed rfl rfl rfl (DO.passed rfl rfl rfl (DO.passed rfl rfl rfl ?_)))))))
  refine DO.passed rfl rfl rfl (DO.passed rfl rfl rfl (DO.q rfl (q_pick0 rfl rfl) ?_))
  refine DO.done ?_
  refine T.cond0 rfl ?_
  refine T.exit ?_
  refine T.s (T.s ?_)
  refine T.draws _ [(0, 0), (1, 0), (2, 0), (3, 0), (4, 0), (5, 0), (6, 0), (7, 0), (8, 0)] mixed (by kernel_rfl) (Sub.of (List.Sublist.refl _)) (fun _ _ _ h => h) ?_
  refine DO.q rfl (q_move rfl) (DO.q rfl (q_move rfl) (DO.q rfl (q_ix (i := i) underlying26 inf5 rfl rfl (Sl.o hS)) (DO.q rfl (q_ld underlying5 rfl rfl (Sl.o hS) byts_get) (DO.q rfl (q_move rfl) (DO.q rfl (q_move rfl) (DO.q rfl (q_ix (i := k2) underlying26 inf5 rfl rfl (Sl.o hS)) (DO.q rfl (q_ld underlying5 rfl rfl (Sl.o hS) byts_get) (DO.q rfl (q_eql rfl rfl) ?_))))))))
  refine DO.done ?_
  refine T.condP rfl (fun hc => ?_) (fun hc => ?_)
  ·have hlt42 : xs[i] = xs[k2] := by omega
   refine T.rg (TO.qm rfl (TO.q (q_addN (a := k2) (b := 1) rfl rfl (by omega)) (TO.qa rfl (TO.nl (T.rg (TO.qm rfl (TO.qm rfl (TO.q (q_addN (a := i) (b := 1) rfl rfl (by omega)) (TO.qm rfl (TO.q (q_ix (i := (i + 1)) underlying23 inf3 rfl rfl (rowO (mG 0 rfl))) (TO.l rfl (l_st (j := (i + 1)) (v := vI ((k2 + 1 : Nat) : Int)) (vs := [(vI ((k2 + 1 : Nat) : Int))]) (cs := nats fl) 0 inf3 rfl rfl rfl rfl rfl (by simp) rfl (by first | (simp; omega) | (simp_all; omega)) ?_))))))))))))
   refine TO.sub (O' := [rowI (aD bx1) (xs.length + 1) 3 1 (nats (fl.set (i + 1) (k2 + 1)))]) (by rw [show putL (nats fl) (i + 1) [(vI ((k2 + 1 : Nat) : Int))] = nats (fl.set (i + 1) (k2 + 1)) from (by simp [putL])]; exact Sub.of (List.Sublist.refl _)) ?_
   refine TO.nl (T.rg (TO.qm rfl (TO.q (q_addN (a := i) (b := 1) rfl rfl (by omega)) (TO.qa rfl (TO.nl ?_)))))
   exact ⟨i + 1, by omega, fl.set (i + 1) (k2 + 1), k2 + 1, rfl, by omega, by omega, by simp [hfl], fun j h1 h2 => lb_step hfl (by omega) hLB (KMP.hit hcand (by show xs.getD i 0 = xs.getD k2 0; rw [gd (by omega), gd (by omega)]; omega)) j h1 h2, by rw [gd (by simp; omega), List.getElem_set_self], (.of rfl)⟩
  have hge42 : ¬ xs[i] = xs[k2] := by omega
  refine T.skip (T.rg (TO.qm rfl (TO.qm rfl (TO.q (q_addN (a := i) (b := 1) rfl rfl (by omega)) (TO.qm rfl (TO.q (q_ix (i := (i + 1)) underlying23 inf3 rfl rfl (rowO (mG 0 rfl))) (TO.l rfl (l_st (j := (i + 1)) (v := vI (k2 : Int)) (vs := [(vI (k2 : Int))]) (cs := nats fl) 0 inf3 rfl rfl rfl rfl rfl (by simp) rfl (by first | (simp; omega) | (simp_all; omega)) ?_))))))))
  refine TO.sub (O' := [rowI (aD bx1) (xs.length + 1) 3 1 (nats (fl.set (i + 1) (k2)))]) (by rw [show putL (nats fl) (i + 1) [(vI (k2 : Int))] = nats (fl.set (i + 1) (k2)) from (by simp [putL])]; exact Sub.of (List.Sublist.refl _)) ?_
  refine TO.nl (T.rg (TO.qm rfl (TO.q (q_addN (a := i) (b := 1) rfl rfl (by omega)) (TO.qa rfl (TO.nl ?_)))))
  have hk20 : k2 = 0 := by omega
  subst hk20
  exact ⟨i + 1, by omega, fl.set (i + 1) 0, 0, rfl, by omega, by omega, by simp [hfl], fun j h1 h2 => lb_step hfl (by omega) hLB (KMP.miss hcand (by show xs.getD i 0 ≠ xs.getD 0 0; rw [gd (by omega), gd (by omega)]; omega)) j h1 h2, by rw [gd (by simp; omega), List.getElem_set_self], (.of rfl)⟩
 have hge14 : ¬ i < xs.length := by omega
 refine T.exit ?_
 refine T.s (T.s ?_)
 have hie : i = xs.length := by omega
 subst hie
 have hfn : fl[xs.length] < xs.length := by rw [gd (by omega)] at hk0; omega
 have hr0 := root_of h0 hW
 rw [hk0, gd (by omega)] at hr0
 refine T.rg (TO.qm rfl (TO.q (q_len underlying26 rfl) (TO.qm rfl (TO.qm rfl (TO.q (q_len underlying26 rfl) (TO.q (q_ix (i := xs.length) underlying23 inf3 rfl rfl (rowO (mG 0 rfl))) (TO.q (q_ld underlying3 rfl rfl (rowO (mG 0 rfl)) nats_get) (TO.q (q_subN (a := xs.length) (b := fl[xs.length]) rfl rfl (by omega) (by omega)) (TO.qa rfl (TO.nl (T.s (T.rg (TO.qm rfl (TO.q (q_len underlying26 rfl) (TO.qm rfl (TO.q (q_remN (a := xs.length) (b := (xs.length - fl[xs.length])) rfl rfl (by omega)) (TO.q (q_eql rfl rfl) (TO.nl (T.condP rfl (fun hc => ?_) (fun hc => ?_))))))))))))))))))))
 ·have hlt62 : xs.length % (xs.length - fl[xs.length]) = 0 := by omega
  refine T.s (T.rg (TO.qm rfl (TO.qm rfl (TO.q (q_sliceTo (hi := (xs.length - fl[xs.length])) underlying26 inf5 rfl rfl (by omega)) (TO.qa rfl (TO.nl (T.ret (Res.drop ?_))))))))
  refine Res.one (.slice b (xs.length - fl[xs.length]) c) Tryd.results99 rfl ?_
  rw [if_pos (by omega)] at hr0
  exact ⟨[], Sub.of (List.nil_sublist _), _, rfl, rfl, hr0⟩
 have hge62 : ¬ xs.length % (xs.length - fl[xs.length]) = 0 := by omega
 refine T.skip (T.s (T.rg (TO.qm rfl (TO.qa rfl (TO.nl (T.ret (Res.drop ?_)))))))
 refine Res.one (.slice b xs.length c) Tryd.results99 rfl ?_
 rw [if_neg (by omega)] at hr0
 exact ⟨[], Sub.of (List.nil_sublist _), _, rfl, rfl, hr0⟩
theorem canonicalF (w : World) [Tab Tryd.prog w] (l : La) (pb lb : Option Addr) (pc lc : Nat) (h : LaAt w l pb lb pc lc) (hL : LaB l) (h0 : 0 < l.loop.length) :
  PureT Tryd.prog 90 [.agg (laCells l pb pc lb lc).toArray] w fun v N => ∃ c pb2 lb2 pc2 lc2, v = .agg (laCells c pb2 pc2 lb2 lc2).toArray ∧ N = [rowI pb2 pc2 5 1 (byts c.pre), rowI lb2 lc2 5 1 (byts c.loop)] ∧ CanonOf l c := by
 refine CallT.enter func90 rfl ntmps90 rfl ?_
 have hpl := hL.pre; have hll := hL.loop; have hpc := h.pc; have hlc := h.lc
 refine T.s (T.rg (TO.l rfl (l_box (v := (.agg (laCells l pb pc lb lc).toArray)) (cs := (laCells l pb pc lb lc)) rfl rfl (fun bx1 => ?_))))
 refine TO.l rfl (l_alloc inf28 rfl (fun bx2 => ?_))
 refine TO.nl ?_
 refine T.scope ?_ (fun _ _ _ h => h)
 refine T.s (T.rg (TO.q (q_la 1 underlying28 rfl inf28 rfl rfl rfl) ?_))
 have hk7 := fun (w1 : World) (hI : Inv w [oI bx2 28 [nS, nS], oI bx1 28 (laCells l pb pc lb lc)] w1) => (haveI := Inv.tab (P := Tryd.prog) hI; fullF w1 l pb lb pc lc h0)
 refine TO.l rfl (l_call ent98 (CallT.op hk7) rfl ?_)
 clear hk7
 rintro vr O' ⟨N, rfl, rfl, rfl⟩
 refine TO.l rfl (l_sb (v := (.agg (laCells l pb pc lb lc).toArray)) (vs := (laCells l pb pc lb lc)) 1 inf28 rfl rfl rfl rfl rfl rfl (by simp [putL]) ?_)
 refine TO.nl (T.s ?_)
 refine T.draws _ [(0, 0), (1, 0), (3, 0), (4, 0), (5, 0), (2, 1), (6, 0), (7, 0)] mixed (by kernel_rfl) (Sub.of (List.Sublist.refl _)) (fun _ _ _ h => h) ?_
 refine DO.q rfl (q_fa underlying28 rfl inf26 rfl rfl) (DO.q rfl (q_lb 1 underlying26 rfl rfl rfl rfl) (DO.q rfl (q_fa underlying28 rfl inf26 rfl rfl) (DO.q rfl (q_lb 1 underlying26 rfl rfl rfl rfl) (DO.q rfl (q_len underlying26 rfl) ?_))))
 have hk10 := fun (w1 : World) (hI : Inv w [oI bx2 28 [nS, nS], oI bx1 28 (laCells l pb pc lb lc)] w1) => (haveI := Inv.tab (P := Tryd.prog) hI; rootF w1 lb lc l.loop (hI.sl h.loop) h0 h.lc hL.loop)
 refine DO.loud rfl rfl (l_call ent99 (CallT.op hk10) rfl ?_)
 clear hk10
 rintro vr O' ⟨N, rfl, q, rfl, rfl, hr⟩
 refine ⟨Sub.pick [0, 0] rfl, ?_⟩
 refine DO.q rfl (q_assign rfl) (DO.q rfl (q_assign rfl) ?_)
 refine DO.done ?_
 refine T.s ?_
 have hq0 := hr.pos
 have hql : q ≤ l.loop.length := Nat.le_of_dvd h0 hr.dvd
 refine T.rg (TO.qm rfl (TO.q (q_len underlying26 rfl) (TO.qa rfl (TO.nl (T.s ?_)))))
 refine T.label ?_
 refine T.s (T.block ?_)
 refine T.loop (fun (n : Nat) ρ O => ∃ (a : Nat), O = [oI bx2 28 [nS, nS], oI bx1 28 (laCells l pb pc lb lc)] ∧ CanP l q n a ∧ Heads [(0, (.agg (laCells l pb pc lb lc).toArray)), (1, (.pointer (aD bx1))), (2, (.pointer (aD bx2))), (3, (.slice lb q lc)), (4, vI (n : Int)), (5, vI (a : Int))] ρ) (fun n => n) l.pre.length ?_ ?_
 ·exact ⟨q, rfl, CanP.start h0 hr, (.of rfl)⟩
 rintro n ρ O ⟨a, rfl, hcp, hH⟩
 obtain ⟨ρ0, rfl⟩ := hH.elim
 clear hH
 have hn := hcp.nl; have ha0 := hcp.a0; have haq := hcp.aq
 have hmq : (a - 1) % q < q := Nat.mod_lt _ hq0
 refine T.s (T.s (T.rg (TO.qm rfl (TO.q (q_gtr rfl rfl) (TO.nl (T.condP rfl (fun hc => ?_) (fun hc => ?_)))))))
 ·have hlt17 : n > 0 := by omega
  have hn0 : 0 < n := by omega
  refine T.skip (T.block (T.s (T.s ?_)))
  refine T.draws _ [(0, 0), (1, 0), (2, 0), (3, 0), (4, 0), (5, 0), (6, 0), (7, 0), (8, 0), (9, 0), (10, 0), (11, 0), (12, 0), (13, 0), (14, 0)] mixed (drawF_ok (by kernel_rfl)) (Sub.of (List.Sublist.refl _)) (fun _ _ _ h => h) ?_
  refine DO.q rfl (q_fa underlying28 rfl inf26 rfl rfl) (DO.q rfl (q_lb 1 underlying26 rfl rfl rfl rfl) (DO.q rfl (q_move rfl) (DO.q rfl (q_subN (a := n) (b := 1) rfl rfl (by omega) (by omega)) (DO.q rfl (q_ix (i := (n - 1)) underlying26 inf5 rfl rfl (Sl.o h.pre)) (DO.q rfl (q_ld underlying5 rfl rfl (Sl.o h.pre) byts_get) (DO.q rfl (q_move rfl) (DO.q rfl (q_move rfl) (DO.q rfl (q_subN (a := a) (b := 1) rfl rfl (by omega) (by omega)) (DO.q rfl (q_move rfl) (DO.q rfl (q_len underlying26 rfl) (DO.q rfl (q_remN (a := (a - 1)) (b := q) rfl rfl (by omega)) (DO.q rfl (q_ix (i := ((a - 1) % q)) underlying26 inf5 rfl rfl (Sl.o h.loop) (by omega) (by rw [List.length_map]; omega)) (DO.q rfl (q_ld underlying5 rfl rfl (Sl.o h.loop) (byts_get (by omega))) (DO.q rfl (q_neq rfl rfl) ?_))))))))))))))
  refine DO.done ?_
  refine T.condP rfl (fun hc => ?_) (fun hc => ?_)
  ·have hlt32 : l.pre[n - 1] ≠ l.loop[(a - 1) % q] := by omega
   have hx : 0 < n → l.pre.getD (n - 1) 0 ≠ l.loop.getD ((a - 1) % q) 0 := fun h9 => by rw [gd (by omega), gd (by omega)]; omega
   refine T.exit ?_
   refine T.s ?_
   have hmq9 : a % q < q := Nat.mod_lt _ hq0
   have hmq := hmq9
   have hpn : (l.pre.take n).length = n := by rw [List.length_take]; omega
   have hr1 : ((l.loop.take q).drop (a % q)).length = q - a % q := by rw [List.length_drop, List.length_take]; omega
   have hr2 : ((l.loop.take q).take (a % q)).length = a % q := by rw [List.length_take, List.length_take]; omega
   have hfe : [(l.loop.take q).drop (a % q), (l.loop.take q).take (a % q)].flatten = (l.loop.take q).drop (a % q) ++ (l.loop.take q).take (a % q) := by simp
   have hfl : ((l.loop.take q).drop (a % q) ++ (l.loop.take q).take (a % q)).length = q := by rw [List.length_append, hr1, hr2]; omega
   have hco := canon_of h0 hr hcp hx
   refine T.rg (TO.qm rfl (TO.qm rfl (TO.q (q_len underlying26 rfl) (TO.q (q_remN (a := a) (b := q) rfl rfl (by omega)) (TO.qa rfl (TO.nl ?_))))))
   refine T.cut (fun ρ O => ∃ (kb cb2 : Option Addr) (kc cc2 : Nat), O = [oI bx2 28 [(.slice kb n kc), (.slice cb2 q cc2)], rowI kb kc 5 1 (byts (l.pre.take n)), rowI cb2 cc2 5 1 (byts ((l.loop.take q).drop (a % q) ++ (l.loop.take q).take (a % q))), oI bx1 28 (laCells l pb pc lb lc)] ∧ Heads [(0, (.agg (laCells l pb pc lb lc).toArray)), (1, (.pointer (aD bx1))), (2, (.pointer (aD bx2))), (3, (.slice lb q lc)), (4, vI (n : Int)), (5, vI ((a % q : Nat) : Int))] ρ) ?_ ?_
   ·refine T.tree [oI bx1 28 (laCells l pb pc lb lc)] 15 mixed rfl (Sub.pick [1] rfl) (fun _ _ _ h => h) ?_
    refine RO.quietT 0 rfl (by kernel_rfl) (q_fa underlying28 rfl inf26 rfl rfl) ?_
    refine RO.quietT 1 rfl (by kernel_rfl) (q_lb 0 underlying26 rfl rfl rfl rfl) ?_
    refine RO.quietT 2 rfl (by kernel_rfl) (q_move rfl) ?_
    refine RO.quietT 3 rfl (by kernel_rfl) (q_sliceTo (hi := n) underlying26 inf5 rfl rfl (by omega)) ?_
    refine RO.quietT 5 rfl (by kernel_rfl) (q_move rfl) ?_
    refine RO.quietT 6 rfl (by kernel_rfl) (q_move rfl) ?_
    refine RO.quietT 7 rfl (by kernel_rfl) (q_sliceFrom (lo := (a % q)) underlying26 inf5 rfl rfl (by omega) (by omega)) ?_
    refine RO.quietT 8 rfl (by kernel_rfl) (q_move rfl) ?_
    refine RO.quietT 9 rfl (by kernel_rfl) (q_move rfl) ?_
    refine RO.quietT 10 rfl (by kernel_rfl) (q_sliceTo (hi := (a % q)) underlying26 inf5 rfl rfl (by omega)) ?_
    have hk49 := fun (w1 : World) (hI : Inv w [oI bx2 28 [nS, nS], oI bx1 28 (laCells l pb pc lb lc)] w1) => (haveI := Inv.tab (P := Tryd.prog) hI; (by
     have hC := cloneB w1 pb pc (l.pre.take n) ((hI.sl h.pre).btake n) (by rw [hpn]; omega)
     rw [hpn] at hC; exact hC))
    refine RO.fork [4, 11] (by kernel_rfl) rfl ⟨⟨_, rfl, rfl, l_call ent100 (CallT.op hk49) rfl ?_⟩, ⟨_, rfl, rfl, l_buildSlice (m := 2) (parts := [(0, .tmp 52), (1, .tmp 55)]) (cs := [(.slice (subB lb lc (a % q) 1) (q - (a % q)) (lc - (a % q))), (.slice lb (a % q) lc)]) underlying129 inf26 (by decide) (by kernel_rfl) rfl (fun zW => ⟨Sub.pick [2] rfl, ?_⟩)⟩, trivial⟩
    ·clear hk49
     rintro vr O' ⟨N, rfl, kb, kc, rfl, rfl⟩
     refine ⟨Sub.pick [2] rfl, ?_⟩
     refine RO.fork [11] (by kernel_rfl) rfl ⟨⟨_, rfl, rfl, l_buildSlice (m := 2) (parts := [(0, .tmp 52), (1, .tmp 55)]) (cs := [(.slice (subB lb lc (a % q) 1) (q - (a % q)) (lc - (a % q))), (.slice lb (a % q) lc)]) underlying129 inf26 (by decide) (by kernel_rfl) rfl (fun zW => ⟨Sub.pick [3] rfl, ?_⟩)⟩, trivial⟩
     have hk57 := fun (w1 : World) (hI : Inv w [rowI (aD zW) 2 26 1 [(.slice (subB lb lc (a % q) 1) (q - (a % q)) (lc - (a % q))), (.slice lb (a % q) lc)], rowI kb kc 5 1 (byts (l.pre.take n)), oI bx2 28 [nS, nS], oI bx1 28 (laCells l pb pc lb lc)] w1) => (haveI := Inv.tab (P := Tryd.prog) hI; (by
      have hC := concatB w1 (aD zW) 2 [.slice (subB lb lc (a % q) 1) (q - a % q) (lc - a % q), .slice lb (a % q) lc] [(l.loop.take q).drop (a % q), (l.loop.take q).take (a % q)] (hI.slOf (mG 0 rfl)) (WordsR.two ((hI.sl h.loop).bsub h.lc hmq hql) (((hI.sl h.loop).btake q).btake (a % q)) hr1 hr2) (by simp) (by rw [hfe, hfl]; omega)
      rw [hfe, hfl] at hC; exact hC))
     refine RO.fork [12] (by kernel_rfl) rfl ⟨⟨_, rfl, rfl, l_call ent101 (CallT.op hk57) rfl ?_⟩, trivial⟩
     clear hk57
     rintro vr O' ⟨N, rfl, cb2, cc2, rfl, rfl⟩
     refine ⟨Sub.pick [4] rfl, ?_⟩
     refine RO.quietT 13 rfl (by kernel_rfl) (q_build (cs := [(.slice kb n kc), (.slice cb2 q cc2)]) plan28 inf28 (by kernel_rfl)) ?_
     refine RO.fork [14] (by kernel_rfl) rfl ⟨⟨_, rfl, rfl, l_sb (v := (.agg #[(.slice kb n kc), (.slice cb2 q cc2)])) (vs := [(.slice kb n kc), (.slice cb2 q cc2)]) 3 inf28 rfl rfl rfl rfl rfl rfl (by simp [putL]) ⟨Sub.pick [4] rfl, ?_⟩⟩, trivial⟩
     exact RO.fin (by kernel_rfl) ⟨kb, cb2, kc, cc2, rfl, (.of rfl)⟩ (Sub.pick [3, 2, 0, 1] rfl)
    have hk49 := fun (w1 : World) (hI : Inv w [rowI (aD zW) 2 26 1 [(.slice (subB lb lc (a % q) 1) (q - (a % q)) (lc - (a % q))), (.slice lb (a % q) lc)], oI bx2 28 [nS, nS], oI bx1 28 (laCells l pb pc lb lc)] w1) => (haveI := Inv.tab (P := Tryd.prog) hI; (by
     have hC := cloneB w1 pb pc (l.pre.take n) ((hI.sl h.pre).btake n) (by rw [hpn]; omega)
     rw [hpn] at hC; exact hC))
    refine RO.fork [4] (by kernel_rfl) rfl ⟨⟨_, rfl, rfl, l_call ent100 (CallT.op hk49) rfl ?_⟩, trivial⟩
    clear hk49
    rintro vr O' ⟨N, rfl, kb, kc, rfl, rfl⟩
    refine ⟨Sub.pick [3] rfl, ?_⟩
    have hk57 := fun (w1 : World) (hI : Inv w [rowI kb kc 5 1 (byts (l.pre.take n)), rowI (aD zW) 2 26 1 [(.slice (subB lb lc (a % q) 1) (q - (a % q)) (lc - (a % q))), (.slice lb (a % q) lc)], oI bx2 28 [nS, nS], oI bx1 28 (laCells l pb pc lb lc)] w1) => (haveI := Inv.tab (P := Tryd.prog) hI; (by
     have hC := concatB w1 (aD zW) 2 [.slice (subB lb lc (a % q) 1) (q - a % q) (lc - a % q), .slice lb (a % q) lc] [(l.loop.take q).drop (a % q), (l.loop.take q).take (a % q)] (hI.slOf (mG 1 rfl)) (WordsR.two ((hI.sl h.loop).bsub h.lc hmq hql) (((hI.sl h.loop).btake q).btake (a % q)) hr1 hr2) (by simp) (by rw [hfe, hfl]; omega)
     rw [hfe, hfl] at hC; exact hC))
    refine RO.fork [12] (by kernel_rfl) rfl ⟨⟨_, rfl, rfl, l_call ent101 (CallT.op hk57) rfl ?_⟩, trivial⟩
    clear hk57
    rintro vr O' ⟨N, rfl, cb2, cc2, rfl, rfl⟩
    refine ⟨Sub.pick [4] rfl, ?_⟩
    refine RO.quietT 13 rfl (by kernel_rfl) (q_build (cs := [(.slice kb n kc), (.slice cb2 q cc2)]) plan28 inf28 (by kernel_rfl)) ?_
    refine RO.fork [14] (by kernel_rfl) rfl ⟨⟨_, rfl, rfl, l_sb (v := (.agg #[(.slice kb n kc), (.slice cb2 q cc2)])) (vs := [(.slice kb n kc), (.slice cb2 q cc2)]) 3 inf28 rfl rfl rfl rfl rfl rfl (by simp [putL]) ⟨Sub.pick [4] rfl, ?_⟩⟩, trivial⟩
    exact RO.fin (by kernel_rfl) ⟨kb, cb2, kc, cc2, rfl, (.of rfl)⟩ (Sub.pick [3, 1, 0, 1] rfl)
   rintro ρ O ⟨kb, cb2, kc, cc2, rfl, hH⟩
   obtain ⟨ρ0, rfl⟩ := hH.elim
   clear hH
   refine T.ret (Res.drop ?_)
   refine Res.cell1 (i := 0) Tryd.results90 underlying28 rfl inf28 rfl rfl rfl ?_
   exact ⟨[rowI kb kc 5 1 (byts (l.pre.take n)), rowI cb2 cc2 5 1 (byts ((l.loop.take q).drop (a % q) ++ (l.loop.take q).take (a % q)))], (Sub.pick [1, 1] rfl), _, kb, cb2, kc, cc2, by show _ = Value.agg (List.toArray [.slice kb (l.pre.take n).length kc, .slice cb2 ((l.loop.take q).drop (a % q) ++ (l.loop.take q).take (a % q)).length cc2]); rw [hpn, hfl], rfl, hco⟩
  have hge32 : ¬ l.pre[n - 1] ≠ l.loop[(a - 1) % q] := by omega
  refine T.skip (T.s (T.rg (TO.qm rfl (TO.q (q_subN (a := n) (b := 1) rfl rfl (by omega) (by omega)) (TO.qa rfl (TO.nl (T.s (T.rg (TO.qm rfl (TO.q (q_subN (a := a) (b := 1) rfl rfl (by omega) (by omega)) (TO.qa rfl (TO.nl (T.s (T.rg (TO.qm rfl (TO.q (q_eql rfl rfl) (TO.nl (T.condP rfl (fun hc => ?_) (fun hc => ?_)))))))))))))))))))
  ·have hlt38 : a - 1 = 0 := by omega
   refine T.rg (TO.qm rfl (TO.q (q_len underlying26 rfl) (TO.qa rfl (TO.nl ?_))))
   have h9 := hcp.step (by omega) (by rw [gd (by omega), gd (by omega)]; omega)
   rw [if_pos (by omega)] at h9
   exact ⟨n - 1, by omega, _, rfl, h9, (.of rfl)⟩
  have hge38 : ¬ a - 1 = 0 := by omega
  refine T.skip ?_
  have h9 := hcp.step (by omega) (by rw [gd (by omega), gd (by omega)]; omega)
  rw [if_neg (by omega)] at h9
  exact ⟨n - 1, by omega, _, rfl, h9, (.of rfl)⟩
 have hge17 : ¬ n > 0 := by omega
 have hx : 0 < n → l.pre.getD (n - 1) 0 ≠ l.loop.getD ((a - 1) % q) 0 := fun h9 => absurd h9 (by omega)
 refine T.exit ?_
 refine T.s ?_
 have hmq9 : a % q < q := Nat.mod_lt _ hq0
 have hmq := hmq9
 have hpn : (l.pre.take n).length = n := by rw [List.length_take]; omega
 have hr1 : ((l.loop.take q).drop (a % q)).length = q - a % q := by rw [List.length_drop, List.length_take]; omega
 have hr2 : ((l.loop.take q).take (a % q)).length = a % q := by rw [List.length_take, List.length_take]; omega
 have hfe : [(l.loop.take q).drop (a % q), (l.loop.take q).take (a % q)].flatten = (l.loop.take q).drop (a % q) ++ (l.loop.take q).take (a % q) := by simp
 have hfl : ((l.loop.take q).drop (a % q) ++ (l.loop.take q).take (a % q)).length = q := by rw [List.length_append, hr1, hr2]; omega
 have hco := canon_of h0 hr hcp hx
 refine T.rg (TO.qm rfl (TO.qm rfl (TO.q (q_len underlying26 rfl) (TO.q (q_remN (a := a) (b := q) rfl rfl (by omega)) (TO.qa rfl (TO.nl ?_))))))
 refine T.cut (fun ρ O => ∃ (kb cb2 : Option Addr) (kc cc2 : Nat), O = [oI bx2 28 [(.slice kb n kc), (.slice cb2 q cc2)], rowI kb kc 5 1 (byts (l.pre.take n)), rowI cb2 cc2 5 1 (byts ((l.loop.take q).drop (a % q) ++ (l.loop.take q).take (a % q))), oI bx1 28 (laCells l pb pc lb lc)] ∧ Heads [(0, (.agg (laCells l pb pc lb lc).toArray)), (1, (.pointer (aD bx1))), (2, (.pointer (aD bx2))), (3, (.slice lb q lc)), (4, vI (n : Int)), (5, vI ((a % q : Nat) : Int))] ρ) ?_ ?_
 ·refine T.tree [oI bx1 28 (laCells l pb pc lb lc)] 15 mixed rfl (Sub.pick [1] rfl) (fun _ _ _ h => h) ?_
  refine RO.quietT 0 rfl (by kernel_rfl) (q_fa underlying28 rfl inf26 rfl rfl) ?_
  refine RO.quietT 1 rfl (by kernel_rfl) (q_lb 0 underlying26 rfl rfl rfl rfl) ?_
  refine RO.quietT 2 rfl (by kernel_rfl) (q_move rfl) ?_
  refine RO.quietT 3 rfl (by kernel_rfl) (q_sliceTo (hi := n) underlying26 inf5 rfl rfl (by omega)) ?_
  refine RO.quietT 5 rfl (by kernel_rfl) (q_move rfl) ?_
  refine RO.quietT 6 rfl (by kernel_rfl) (q_move rfl) ?_
  refine RO.quietT 7 rfl (by kernel_rfl) (q_sliceFrom (lo := (a % q)) underlying26 inf5 rfl rfl (by omega) (by omega)) ?_
  refine RO.quietT 8 rfl (by kernel_rfl) (q_move rfl) ?_
  refine RO.quietT 9 rfl (by kernel_rfl) (q_move rfl) ?_
  refine RO.quietT 10 rfl (by kernel_rfl) (q_sliceTo (hi := (a % q)) underlying26 inf5 rfl rfl (by omega)) ?_
  have hk49 := fun (w1 : World) (hI : Inv w [oI bx2 28 [nS, nS], oI bx1 28 (laCells l pb pc lb lc)] w1) => (haveI := Inv.tab (P := Tryd.prog) hI; (by
   have hC := cloneB w1 pb pc (l.pre.take n) ((hI.sl h.pre).btake n) (by rw [hpn]; omega)
   rw [hpn] at hC; exact hC))
  refine RO.fork [4, 11] (by kernel_rfl) rfl ⟨⟨_, rfl, rfl, l_call ent100 (CallT.op hk49) rfl ?_⟩, ⟨_, rfl, rfl, l_buildSlice (m := 2) (parts := [(0, .tmp 52), (1, .tmp 55)]) (cs := [(.slice (subB lb lc (a % q) 1) (q - (a % q)) (lc - (a % q))), (.slice lb (a % q) lc)]) underlying129 inf26 (by decide) (by kernel_rfl) rfl (fun zW => ⟨Sub.pick [2] rfl, ?_⟩)⟩, trivial⟩
  ·clear hk49
   rintro vr O' ⟨N, rfl, kb, kc, rfl, rfl⟩
   refine ⟨Sub.pick [2] rfl, ?_⟩
   refine RO.fork [11] (by kernel_rfl) rfl ⟨⟨_, rfl, rfl, l_buildSlice (m := 2) (parts := [(0, .tmp 52), (1, .tmp 55)]) (cs := [(.slice (subB lb lc (a % q) 1) (q - (a % q)) (lc - (a % q))), (.slice lb (a % q) lc)]) underlying129 inf26 (by decide) (by kernel_rfl) rfl (fun zW => ⟨Sub.pick [3] rfl, ?_⟩)⟩, trivial⟩
   have hk57 := fun (w1 : World) (hI : Inv w [rowI (aD zW) 2 26 1 [(.slice (subB lb lc (a % q) 1) (q - (a % q)) (lc - (a % q))), (.slice lb (a % q) lc)], rowI kb kc 5 1 (byts (l.pre.take n)), oI bx2 28 [nS, nS], oI bx1 28 (laCells l pb pc lb lc)] w1) => (haveI := Inv.tab (P := Tryd.prog) hI; (by
    have hC := concatB w1 (aD zW) 2 [.slice (subB lb lc (a % q) 1) (q - a % q) (lc - a % q), .slice lb (a % q) lc] [(l.loop.take q).drop (a % q), (l.loop.take q).take (a % q)] (hI.slOf (mG 0 rfl)) (WordsR.two ((hI.sl h.loop).bsub h.lc hmq hql) (((hI.sl h.loop).btake q).btake (a % q)) hr1 hr2) (by simp) (by rw [hfe, hfl]; omega)
    rw [hfe, hfl] at hC; exact hC))
   refine RO.fork [12] (by kernel_rfl) rfl ⟨⟨_, rfl, rfl, l_call ent101 (CallT.op hk57) rfl ?_⟩, trivial⟩
   clear hk57
   rintro vr O' ⟨N, rfl, cb2, cc2, rfl, rfl⟩
   refine ⟨Sub.pick [4] rfl, ?_⟩
   refine RO.quietT 13 rfl (by kernel_rfl) (q_build (cs := [(.slice kb n kc), (.slice cb2 q cc2)]) plan28 inf28 (by kernel_rfl)) ?_
   refine RO.fork [14] (by kernel_rfl) rfl ⟨⟨_, rfl, rfl, l_sb (v := (.agg #[(.slice kb n kc), (.slice cb2 q cc2)])) (vs := [(.slice kb n kc), (.slice cb2 q cc2)]) 3 inf28 rfl rfl rfl rfl rfl rfl (by simp [putL]) ⟨Sub.pick [4] rfl, ?_⟩⟩, trivial⟩
   exact RO.fin (by kernel_rfl) ⟨kb, cb2, kc, cc2, rfl, (.of rfl)⟩ (Sub.pick [3, 2, 0, 1] rfl)
  have hk49 := fun (w1 : World) (hI : Inv w [rowI (aD zW) 2 26 1 [(.slice (subB lb lc (a % q) 1) (q - (a % q)) (lc - (a % q))), (.slice lb (a % q) lc)], oI bx2 28 [nS, nS], oI bx1 28 (laCells l pb pc lb lc)] w1) => (haveI := Inv.tab (P := Tryd.prog) hI; (by
   have hC := cloneB w1 pb pc (l.pre.take n) ((hI.sl h.pre).btake n) (by rw [hpn]; omega)
   rw [hpn] at hC; exact hC))
  refine RO.fork [4] (by kernel_rfl) rfl ⟨⟨_, rfl, rfl, l_call ent100 (CallT.op hk49) rfl ?_⟩, trivial⟩
  clear hk49
  rintro vr O' ⟨N, rfl, kb, kc, rfl, rfl⟩
  refine ⟨Sub.pick [3] rfl, ?_⟩
  have hk57 := fun (w1 : World) (hI : Inv w [rowI kb kc 5 1 (byts (l.pre.take n)), rowI (aD zW) 2 26 1 [(.slice (subB lb lc (a % q) 1) (q - (a % q)) (lc - (a % q))), (.slice lb (a % q) lc)], oI bx2 28 [nS, nS], oI bx1 28 (laCells l pb pc lb lc)] w1) => (haveI := Inv.tab (P := Tryd.prog) hI; (by
   have hC := concatB w1 (aD zW) 2 [.slice (subB lb lc (a % q) 1) (q - a % q) (lc - a % q), .slice lb (a % q) lc] [(l.loop.take q).drop (a % q), (l.loop.take q).take (a % q)] (hI.slOf (mG 1 rfl)) (WordsR.two ((hI.sl h.loop).bsub h.lc hmq hql) (((hI.sl h.loop).btake q).btake (a % q)) hr1 hr2) (by simp) (by rw [hfe, hfl]; omega)
   rw [hfe, hfl] at hC; exact hC))
  refine RO.fork [12] (by kernel_rfl) rfl ⟨⟨_, rfl, rfl, l_call ent101 (CallT.op hk57) rfl ?_⟩, trivial⟩
  clear hk57
  rintro vr O' ⟨N, rfl, cb2, cc2, rfl, rfl⟩
  refine ⟨Sub.pick [4] rfl, ?_⟩
  refine RO.quietT 13 rfl (by kernel_rfl) (q_build (cs := [(.slice kb n kc), (.slice cb2 q cc2)]) plan28 inf28 (by kernel_rfl)) ?_
  refine RO.fork [14] (by kernel_rfl) rfl ⟨⟨_, rfl, rfl, l_sb (v := (.agg #[(.slice kb n kc), (.slice cb2 q cc2)])) (vs := [(.slice kb n kc), (.slice cb2 q cc2)]) 3 inf28 rfl rfl rfl rfl rfl rfl (by simp [putL]) ⟨Sub.pick [4] rfl, ?_⟩⟩, trivial⟩
  exact RO.fin (by kernel_rfl) ⟨kb, cb2, kc, cc2, rfl, (.of rfl)⟩ (Sub.pick [3, 1, 0, 1] rfl)
 rintro ρ O ⟨kb, cb2, kc, cc2, rfl, hH⟩
 obtain ⟨ρ0, rfl⟩ := hH.elim
 clear hH
 refine T.ret (Res.drop ?_)
 refine Res.cell1 (i := 0) Tryd.results90 underlying28 rfl inf28 rfl rfl rfl ?_
 exact ⟨[rowI kb kc 5 1 (byts (l.pre.take n)), rowI cb2 cc2 5 1 (byts ((l.loop.take q).drop (a % q) ++ (l.loop.take q).take (a % q)))], (Sub.pick [1, 1] rfl), _, kb, cb2, kc, cc2, by show _ = Value.agg (List.toArray [.slice kb (l.pre.take n).length kc, .slice cb2 ((l.loop.take q).drop (a % q) ++ (l.loop.take q).take (a % q)).length cc2]); rw [hpn, hfl], rfl, hco⟩
end Go.Proofs.YtnikhiohindggaaDoor


namespace Go.Proofs.YtnikhiohindggaaDoor
open Go.Lx Go.RowKit _root_.Go.Proofs.Tryd
theorem inF2 (base : World) [Tab Tryd.prog base] (pb : Nat) (b : Option Addr) (c : Nat) (l : List Nat) (n : Nat) (hnl : n = l.length) (hb : l.length < 1000000) (OO : List Lx.Item) (hS : ∀ w, Inv base ([oI pb 23 [(.slice b n c)]] ++ OO) w → Sl w b (nats l)) (u : Nat) :
  CallT Tryd.prog base 86 [vI ((u : Nat) : Int), (.pointer (aD pb))] ([oI pb 23 [(.slice b n c)]] ++ OO) (fun v O' => v = .bool (decide ((fun u : Nat => decide (u ∈ l)) u = true)) ∧ O' = [oI pb 23 [(.slice b n c)]] ++ OO) := by
 subst hnl; exact inF base pb b c l hb OO hS u
theorem canonicalA (w : World) [Tab Tryd.prog w] (y1 y2 y3 : List Nat) (pb lb : Option Addr) (pc lc : Nat) (h : LaAt w ⟨y1, y2 ++ y3⟩ pb lb pc lc) (hL : LaB ⟨y1, y2 ++ y3⟩) (h0 : 0 < (⟨y1, y2 ++ y3⟩ : La).loop.length) :
  PureT Tryd.prog 90 [.agg #[.slice pb y1.length pc, .slice lb (y2.length + y3.length) lc]] w fun v N => ∃ c pb2 lb2 pc2 lc2, v = .agg (laCells c pb2 pc2 lb2 lc2).toArray ∧ N = [rowI pb2 pc2 5 1 (byts c.pre), rowI lb2 lc2 5 1 (byts c.loop)] ∧ CanonOf ⟨y1, y2 ++ y3⟩ c := by
 have h9 := canonicalF w ⟨y1, y2 ++ y3⟩ pb lb pc lc h hL h0
 rw [show (laCells (⟨y1, y2 ++ y3⟩ : La) pb pc lb lc).toArray = #[.slice pb y1.length pc, .slice lb (y2.length + y3.length) lc] by show #[Value.slice pb y1.length pc, Value.slice lb (y2 ++ y3).length lc] = _; rw [List.length_append]] at h9
 exact h9
theorem findC0 (base : World) [Tab Tryd.prog base] (p : Par) (k : DK) (h : AtP base p k) (hv : Val p.d) (hn : p.next.length ≤ 4096) (hw : letN p.d ≤ 64) (OO : List Lx.Item) (al one two : Nat → Bool) (fal fone ftwo : Value) (hfc : fal.cells = #[fal]) (hal : ∀ u, u < p.next.length → CallV Tryd.prog base fal [vI ((u : Nat) : Int)] OO (fun v O' => v = .bool (decide (al u = true)) ∧ O' = OO)) (hone : ∀ u, u < p.next.length → CallV Tryd.prog base fone [vI ((u : Nat) : Int)] OO (fun v O' => v = .bool (decide (one u = true)) ∧ O' = OO)) (htwo : ∀ u, u < p.next.length → CallV Tryd.prog base ftwo [vI ((u : Nat) : Int)] OO (fun v O' => v = .bool (decide (two u = true)) ∧ O' = OO)) :
  CallT Tryd.prog base 63 [pV p k, fal, fone, ftwo] OO (fun v O' => ∃ b l pb pc lb lc, v = .tuple #[.agg (laCells l pb pc lb lc).toArray, .bool b] ∧ O' = [rowI pb pc 5 1 (byts l.pre), rowI lb lc 5 1 (byts l.loop)] ++ OO ∧ FdR p.d al one two b l) := by
 refine CallT.enter func63 rfl ntmps63 rfl ?_
 have hvl := h.rows.1
 have hnn : p.d.next.length = p.next.length := rfl
 refine T.s (T.rg (TO.l rfl (l_box (v := (pV p k)) (cs := (pC p k)) rfl rfl (fun z1 => ?_))))
 refine TO.l rfl (l_box (v := fal) (cs := [fal]) rfl hfc (fun z2 => ?_))
 refine TO.l rfl (l_alloc inf28 rfl (fun z3 => ?_))
 refine TO.qa rfl (TO.nl (T.s (T.rg (TO.qa rfl (TO.nl (T.s (T.rg (TO.l rfl (l_makeMap KIn Value.bool (fun mq4 => ?_))))))))))
 refine TO.q (q_fa underlying25 rfl inf3 rfl rfl) (TO.q (q_lb 3 underlying3 rfl rfl rfl rfl) (TO.l rfl (l_mapInsert (a := p.start) (v := true) 0 underlying79 (KeyOk.int underlying3) rfl rfl rfl rfl (by simp) ?_)))
 refine TO.qm rfl (TO.l rfl (l_alloc inf79 rfl (fun z5 => ?_)))
 refine TO.l rfl (l_sb (v := (.map (some mq4))) (vs := [(.map (some mq4))]) 0 inf79 rfl rfl rfl rfl rfl rfl (by simp [putL]) ?_)
 refine TO.nl (T.s (T.s (T.rg (TO.q (q_fa underlying25 rfl inf3 rfl rfl) (TO.q (q_lb 4 underlying3 rfl rfl rfl rfl) (TO.l rfl (l_build1 (v := (vI p.start)) underlying23 inf3 rfl rfl rfl (fun z6 => ?_))))))))
 refine TO.qa rfl (TO.nl (T.block ?_))
 refine T.loopS (fun (i : Nat) ρ O => ∃ (tb : Option Addr) (tc : Nat), O = ([rowI tb tc 3 1 (nats ((bfsN p.d i).drop i)), oI z5 79 [(.map (some mq4))], mapI KIn Value.bool mq4 (rchM (bfsN p.d i)), oI z3 28 [nS, nS], oI z2 69 [fal], oI z1 25 (pC p k)] ++ OO) ∧ i ≤ (bfsN p.d i).length ∧ Heads [(0, (pV p k)), (1, fal), (2, fone), (3, ftwo), (4, (.pointer (aD z1))), (5, (.pointer (aD z2))), (8, (.pointer (aD z3))), (9, .bool false), (10, (.func (.func 84) #[] #[])), (11, (.pointer (aD z5))), (12, (.slice tb (((bfsN p.d i).drop i).length) tc))] ρ) (fun i => p.next.length + 1 - i) 0 ?_ ?_
 ·refine ⟨(aD z6), 1, ?_, Nat.zero_le _, (.of rfl)⟩
  rw [show rchM (bfsN p.d 0) = _ from rchM_zero hv, show nats ((bfsN p.d 0).drop 0) = _ from bfs_zero hv]; rfl
 rintro i ρ O ⟨tb, tc, rfl, hi, hH⟩
 obtain ⟨ρ0, rfl⟩ := hH.elim
 clear hH
 have hbl := bfsN_len (hv) i
 have hdl := List.length_drop (i := i) (l := bfsN p.d i)
 refine T.s (T.s (T.rg (TO.qm rfl (TO.q (q_len underlying23 rfl) (TO.q (q_gtr rfl rfl) (TO.nl (T.condP rfl (fun hc => ?_) (fun hc => ?_))))))))
 ·have hlt36 : ((bfsN p.d i).drop i).length > 0 := by omega
  have hil : i < (bfsN p.d i).length := by omega
  obtain ⟨s, hsi⟩ : ∃ s, (bfsN p.d i)[i]? = some s := ⟨_, List.getElem?_eq_getElem hil⟩
  have hsn : s < p.next.length := (bfsN_ok (hv) i).2 s (List.mem_of_getElem? hsi)
  have hd0 : (nats ((bfsN p.d i).drop i))[0]? = some (vI ((s : Nat) : Int)) := by rw [List.getElem?_map, List.getElem?_drop, Nat.add_zero, hsi]; rfl
  obtain ⟨v1, c1, g1, s1⟩ := h.rows.get hsn
  have hrl : p.next[s].length = letN p.d := hv.len _ (List.getElem_mem hsn)
  refine T.skip (T.s (T.block (T.s ?_)))
  refine T.draws _ [(0, 0), (1, 0), (2, 0), (3, 0), (4, 0), (5, 0), (6, 0), (7, 0), (8, 0)] mixed (by kernel_rfl) (Sub.of (List.Sublist.refl _)) (fun _ _ _ h => h) ?_
  refine DO.q rfl (q_fa underlying25 rfl inf22 rfl rfl) (DO.q rfl (q_lb 5 underlying22 rfl rfl rfl rfl) (DO.q rfl (q_move rfl) (DO.q rfl (q_ix (i := 0) underlying23 inf3 rfl rfl (rowO (mG 0 rfl)) (by omega) (by rw [List.length_map]; omega)) (DO.q rfl (q_ld underlying3 rfl rfl (rowO (mG 0 rfl)) hd0) (DO.q rfl (q_ix (i := s) underlying22 inf23 rfl rfl (Sl.o h.outer) hsn (hvl ▸ hsn)) (DO.q rfl (q_ld underlying23 rfl rfl (Sl.o h.outer) g1) (DO.q rfl (q_len underlying23 rfl) (DO.q rfl (q_move rfl) ?_))))))))
  refine DO.done ?_
  refine T.block ?_
  refine T.loopS (fun (x : Nat) ρ O => ∃ (tb : Option Addr) (tc : Nat), O = ([rowI tb tc 3 1 (nats ((bfsM p.d i s x).drop i)), oI z5 79 [(.map (some mq4))], mapI KIn Value.bool mq4 (rchM (bfsM p.d i s x)), oI z3 28 [nS, nS], oI z2 69 [fal], oI z1 25 (pC p k)] ++ OO) ∧ x ≤ letN p.d ∧ i < (bfsM p.d i s x).length ∧ Heads [(0, (pV p k)), (1, fal), (2, fone), (3, ftwo), (4, (.pointer (aD z1))), (5, (.pointer (aD z2))), (8, (.pointer (aD z3))), (9, .bool false), (10, (.func (.func 84) #[] #[])), (11, (.pointer (aD z5))), (12, (.slice tb (((bfsM p.d i s x).drop i).length) tc)), (45, (.slice v1 p.next[s].length c1)), (46, vI (p.next[s].length : Int)), (47, vI ((x : Nat) : Int))] ρ) (fun x => letN p.d - x) 0 ?_ ?_
  ·exact ⟨tb, tc, rfl, Nat.zero_le _, hil, (.of rfl)⟩
  rintro x ρ O ⟨tb, tc, rfl, hx, hil2, hH⟩
  obtain ⟨ρ0, rfl⟩ := hH.elim
  clear hH
  have hml := (bfsM_len hv (i := i) (o := s) (x := x) hsn hx).1
  have hdl2 := List.length_drop (i := i) (l := bfsM p.d i s x)
  refine T.s (T.rg (TO.q (q_lss rfl rfl) (TO.nl (T.s (T.condP rfl (fun hc => ?_) (fun hc => ?_))))))
  ·have hlt48 : x < p.next[s].length := by omega
   have hxl : x < letN p.d := by omega
   obtain ⟨hun, _, hxk1, hx1i⟩ := hv.toN_lt (show s < p.d.next.length from hsn) hxl
   have hx1 : (ints p.next[s])[x]? = some (vI ((toN p.d s x : Nat) : Int)) := (ints_get hxk1).trans (congrArg (fun a => some (Value.int .i64 a)) hx1i)
   refine T.skip (T.s (T.block (T.s (T.rg (TO.q (q_ix (i := x) underlying23 inf3 rfl rfl (Sl.o s1) hxk1 (by rw [List.length_map]; exact hxk1)) (TO.q (q_ld underlying3 rfl rfl (Sl.o s1) hx1) (TO.qa rfl (TO.nl (T.s (T.rg (TO.q (q_lb 1 underlying79 rfl rfl rfl rfl) (TO.qm rfl (TO.q (QT.cast (q_lookup (K := KIn) (V := Value.bool) (a := ((toN p.d s x : Nat) : Int)) underlying79 inf4 (KeyOk.int underlying3) rfl rfl (mG 2 rfl)) (v' := .bool (decide (toN p.d s x ∈ (bfsM p.d i s x)))) (by rw [← rchM_at (bfsM p.d i s x) (toN p.d s x)]; cases lookL ((toN p.d s x : Nat) : Int) (rchM (bfsM p.d i s x)) with | none => rfl | some b => cases b <;> rfl)) (TO.q (q_not rfl) (TO.nl (T.condP (p := toN p.d s x ∉ (bfsM p.d i s x)) (congrArg Value.bool (by rw [decide_not])) (fun hc => ?_) (fun hc => ?_)))))))))))))))))
   ·have hnew : toN p.d s x ∉ (bfsM p.d i s x) := hc
    refine T.s (T.rg (TO.q (q_lb 1 underlying79 rfl rfl rfl rfl) (TO.qm rfl (TO.l rfl (l_mapPut (K := KIn) (V := Value.bool) (a := ((toN p.d s x : Nat) : Int)) (v := true) 2 underlying79 (KeyOk.int underlying3) rfl rfl rfl rfl (rchM_new hnew) ?_)))))
    refine TO.nl (T.rg (TO.qm rfl (TO.qm rfl (TO.l rfl (l_build1 (v := vI ((toN p.d s x : Nat) : Int)) underlying23 inf3 rfl rfl rfl (fun z7 => ?_))))))
    refine TO.l rfl (l_append 1 underlying23 underlying23 inf3 rfl rfl rfl rfl (by simp) (by decide) (Src.row (j := 0) rfl (by simp)) (by simp [oneB]) (by omega) (by decide) (by decide) (fun z8 zc9 => ?_))
    refine TO.qa rfl (TO.nl (T.rg (TO.q (q_addN (a := x) (b := 1) rfl rfl (by omega)) (TO.qm rfl (TO.nl ?_)))))
    exact ⟨x + 1, by omega, ([rowI z8 zc9 3 1 ((nats ((bfsM p.d i s x).drop i)) ++ [vI ((toN p.d s x : Nat) : Int)]), oI z5 79 [(.map (some mq4))], mapI KIn Value.bool mq4 (rchM (bfsM p.d i s x) ++ [(((toN p.d s x : Nat) : Int), true)]), oI z3 28 [nS, nS], oI z2 69 [fal], oI z1 25 (pC p k)] ++ OO), (by exact Sub.d (.k (.k (.k (.k (.k (.k .rf))))))), z8, zc9, by rw [bfsM_step, add_new hnew, rchM_snoc, drop_snoc (by omega)]; simp only [List.map_append, List.map_cons, List.map_nil], by omega, by rw [bfsM_step, add_new hnew, List.length_append]; omega, ⟨rfl, rfl, rfl, rfl, rfl, rfl, rfl, rfl, rfl, rfl, (by rw [bfsM_step, add_new hnew, drop_snoc (by omega), List.length_append]; rfl), rfl, rfl, rfl, trivial⟩⟩
   have hold : toN p.d s x ∈ (bfsM p.d i s x) := Classical.not_not.1 hc
   refine T.skip (T.rg (TO.q (q_addN (a := x) (b := 1) rfl rfl (by omega)) (TO.qm rfl (TO.nl ?_))))
   exact ⟨x + 1, by omega, ([rowI tb tc 3 1 (nats ((bfsM p.d i s x).drop i)), oI z5 79 [(.map (some mq4))], mapI KIn Value.bool mq4 (rchM (bfsM p.d i s x)), oI z3 28 [nS, nS], oI z2 69 [fal], oI z1 25 (pC p k)] ++ OO), (by exact Sub.rf), tb, tc, by rw [bfsM_step, add_old hold], by omega, by rw [bfsM_step, add_old hold]; exact hil2, ⟨rfl, rfl, rfl, rfl, rfl, rfl, rfl, rfl, rfl, rfl, (by rw [bfsM_step, add_old hold]; rfl), rfl, rfl, rfl, trivial⟩⟩
  have hge48 : ¬ x < p.next[s].length := by omega
  refine T.exit ?_
  refine T.rg (TO.qm rfl (TO.l rfl (l_tail 0 underlying23 inf3 (by decide) rfl rfl rfl (by simp) (by omega) (fun z10 => ?_))))
  refine TO.qa rfl (TO.nl ?_)
  have hxe : x = letN p.d := by omega
  have e9 : bfsM p.d i s x = bfsN p.d (i + 1) := by rw [hxe]; exact bfsM_all hsi
  have e8 : (bfsN p.d (i + 1)).drop (i + 1) = ((bfsN p.d (i + 1)).drop i).drop 1 := by rw [List.drop_drop]
  exact ⟨i + 1, by omega, ([rowI z10 (tc - 1) 3 1 ((nats ((bfsM p.d i s x).drop i)).drop 1), oI z5 79 [(.map (some mq4))], mapI KIn Value.bool mq4 (rchM (bfsM p.d i s x)), oI z3 28 [nS, nS], oI z2 69 [fal], oI z1 25 (pC p k)] ++ OO), (by exact Sub.rf), z10, tc - 1, by rw [e9, e8, ← List.map_drop], by rw [← e9]; omega, ⟨rfl, rfl, rfl, rfl, rfl, rfl, rfl, rfl, rfl, rfl, (by rw [e9, List.length_drop, List.length_drop, Nat.sub_sub]; rfl), trivial⟩⟩
 have hge36 : ¬ ((bfsN p.d i).drop i).length > 0 := by omega
 refine T.exit ?_
 refine T.s ?_
 have hie : (bfsN p.d i).length = i := by omega
 have hord : order p.d = bfsN p.d i := order_eq hie (by have h9 : p.d.next.length = p.next.length := rfl; omega)
 refine T.rg (TO.q (q_makeFunc) (TO.qa rfl (TO.nl (T.s (T.s (T.rg (TO.q (q_la 5 underlying25 rfl inf25 rfl rfl rfl) ?_)))))))
 have hk64 := fun (w1 : World) (hI : Inv base ([rowI tb tc 3 1 (nats ((bfsN p.d i).drop i)), oI z5 79 [(.map (some mq4))], mapI KIn Value.bool mq4 (rchM (bfsN p.d i)), oI z3 28 [nS, nS], oI z2 69 [fal], oI z1 25 (pC p k)] ++ OO) w1) => (haveI := Inv.tab (P := Tryd.prog) hI; ofC w1 p k)
 refine TO.l rfl (l_call ent51 (CallT.op hk64) rfl ?_)
 clear hk64
 rintro vr O' ⟨N, rfl, gx, rfl, rfl⟩
 refine TO.qm rfl ?_
 have hk66 := CallT.atR (O := ([oI gx 25 (pC p k), rowI tb tc 3 1 (nats ((bfsN p.d i).drop i)), oI z5 79 [(.map (some mq4))], mapI KIn Value.bool mq4 (rchM (bfsN p.d i)), oI z3 28 [nS, nS], oI z2 69 [fal], oI z1 25 (pC p k)] ++ OO)) [rowI tb tc 3 1 (nats ((bfsN p.d i).drop i)), oI z3 28 [nS, nS], oI z1 25 (pC p k)] (componentsC base p k h hv hn hw (DE_lt hv) ([oI z5 79 [(.map (some mq4))], mapI KIn Value.bool mq4 (rchM (bfsN p.d i)), oI z2 69 [fal]] ++ OO) (alI p.d al) (.func (.func 85) #[] #[(.pointer (aD z5)), (.pointer (aD z2))]) rfl (fun u hu => CallV.of_fn (first := []) (args := [vI ((u : Nat) : Int)]) (caps := [(.pointer (aD z5)), (.pointer (aD z2))]) ent85 (hord ▸ insF base z5 mq4 z2 (bfsN p.d i) fal al OO u (hal u hu))) gx) (by exact Sub.pull [oI gx 25 (pC p k)] _ (.pull [oI gx 25 (pC p k), oI z5 79 [(.map (some mq4))], mapI KIn Value.bool mq4 (rchM (bfsN p.d i))] _ (.pull [oI gx 25 (pC p k), oI z5 79 [(.map (some mq4))], mapI KIn Value.bool mq4 (rchM (bfsN p.d i)), oI z2 69 [fal]] _ (.k (.k (.k (.k .rf)))))))
 refine TO.l rfl (l_call ent53 hk66 rfl ?_)
 clear hk66
 rintro vr O' ⟨A1, rfl, all, ab9, ac9, ps, rfl, rfl, hps, hpo⟩
 have hpl := parts_len hps
 have hfew := hpo.few
 refine TO.q (q_len underlying22 rfl) (TO.qm rfl (TO.nl (T.block ?_)))
 refine T.sub (O' := [rowI tb tc 3 1 (nats ((bfsN p.d i).drop i)), oI z3 28 [nS, nS], oI z1 25 (pC p k), rowI ab9 ac9 23 1 (vals ps), oI gx 25 (pC p k), oI z5 79 [(.map (some mq4))], mapI KIn Value.bool mq4 (rchM (bfsN p.d i)), oI z2 69 [fal]] ++ (itms 3 ps ++ OO)) (Sub.tailSwap Sub.rf) ?_
 refine T.loopS (fun (i3 : Nat) ρ O => O = ([rowI tb tc 3 1 (nats ((bfsN p.d i).drop i)), oI z3 28 [nS, nS], oI z1 25 (pC p k), rowI ab9 ac9 23 1 (vals ps), oI gx 25 (pC p k), oI z5 79 [(.map (some mq4))], mapI KIn Value.bool mq4 (rchM (bfsN p.d i)), oI z2 69 [fal]] ++ (itms 3 ps ++ OO)) ∧ i3 ≤ all.length ∧ FndI one two (all.take i3) ∧ Heads [(0, (pV p k)), (1, fal), (2, fone), (3, ftwo), (4, (.pointer (aD z1))), (5, (.pointer (aD z2))), (8, (.pointer (aD z3))), (9, .bool false), (10, (.func (.func 84) #[] #[])), (11, (.pointer (aD z5))), (12, (.slice tb (((bfsN p.d i).drop i).length) tc)), (15, (.func (.func 85) #[] #[(.pointer (aD z5)), (.pointer (aD z2))])), (66, (.slice ab9 ps.length ac9)), (67, vI (ps.length : Int)), (68, vI ((i3 : Nat) : Int))] ρ) (fun i3 => all.length - i3) 0 ?_ ?_
 ·exact ⟨rfl, Nat.zero_le _, (fun P hP => (List.not_mem_nil hP).elim), (.of rfl)⟩
 rintro i3 ρ O ⟨rfl, hi3, hF, hH⟩
 obtain ⟨ρ0, rfl⟩ := hH.elim
 clear hH
 refine T.s (T.rg (TO.q (q_lss rfl rfl) (TO.nl (T.s (T.condP rfl (fun hc => ?_) (fun hc => ?_))))))
 ·have hlt69 : i3 < ps.length := by omega
  have hil3 : i3 < all.length := by omega
  obtain ⟨l, hle⟩ : ∃ l, all[i3] = l := ⟨_, rfl⟩
  obtain ⟨rb9, rc9, hRi⟩ := part_rec hps hil3
  rw [hle] at hRi
  have hi2 : i3 < ps.length := by omega
  have hlm : l ∈ all := hle ▸ List.getElem_mem hil3
  have hsub := hpo.sub l hlm
  have hll : l.length ≤ 4096 := by
   have h1 := hpo.len
   have h2 : l.length ≤ all.flatten.length := (List.sublist_flatten_of_mem hlm).length_le
   omega
  have hly := intY_len l
  refine T.skip (T.s (T.block (T.s (T.rg ?_))))
  refine TO.q (q_ix (i := i3) underlying22 inf23 rfl rfl (rowO (mG 3 rfl)) hi2 (by rw [List.length_map]; exact hi2)) (TO.q (q_ld underlying23 rfl rfl (rowO (mG 3 rfl)) (by rw [List.getElem?_map, hRi]; rfl)) ?_)
  refine TO.l rfl (l_alloc inf23 rfl (fun z11 => ?_))
  refine TO.l rfl (l_sb (v := (.slice rb9 ((intY l).length) rc9)) (vs := [(.slice rb9 ((intY l).length) rc9)]) 0 inf23 rfl rfl rfl rfl rfl rfl (by simp [putL]) ?_)
  refine TO.nl (T.s (T.rg (TO.q (q_lb 0 underlying23 rfl rfl rfl rfl) (TO.qm rfl ?_))))
  have hk74 := indexFuncI base rb9 rc9 (intY l) ([oI z11 23 [(.slice rb9 ((intY l).length) rc9)], rowI tb tc 3 1 (nats ((bfsN p.d i).drop i)), oI z3 28 [nS, nS], oI z1 25 (pC p k), rowI ab9 ac9 23 1 (vals ps), oI gx 25 (pC p k), oI z5 79 [(.map (some mq4))], mapI KIn Value.bool mq4 (rchM (bfsN p.d i)), oI z2 69 [fal]] ++ (itms 3 ps ++ OO)) (fun w9 hI9 => by rw [ints_intY]; exact hI9.slOf (List.mem_append_right _ (List.mem_append_left _ (part_row hRi)))) (by omega) fone (fun x => decide (one x.toNat = true)) (fun x hx => by obtain ⟨u, hu, rfl⟩ := mem_intY hx; exact CallV.keepR ([oI z11 23 [(.slice rb9 ((intY l).length) rc9)], rowI tb tc 3 1 (nats ((bfsN p.d i).drop i)), oI z3 28 [nS, nS], oI z1 25 (pC p k), rowI ab9 ac9 23 1 (vals ps), oI gx 25 (pC p k), oI z5 79 [(.map (some mq4))], mapI KIn Value.bool mq4 (rchM (bfsN p.d i)), oI z2 69 [fal]] ++ itms 3 ps) (hone u (hsub u hu).1))
  refine TO.l rfl (l_call ent76 hk74 rfl ?_)
  clear hk74
  rintro vr O' ⟨i9, rfl, hi9, e9⟩
  rw [e9]
  clear e9
  refine TO.qa rfl (TO.nl (T.s (T.s (T.rg (TO.qm rfl ?_)))))
  by_cases h76 : i9 < 0
  ·refine TO.q (QT.toB (q_lss rfl rfl) (decide_eq_true h76)) ?_
   refine TO.qm rfl (TO.pd rfl rfl (TO.pd rfl rfl (TO.pd rfl rfl (TO.pd rfl rfl (TO.q (q_pick1 rfl rfl) (TO.nl ?_))))))
   refine T.cond1 rfl ?_
   refine T.exit ?_
   refine T.rg (TO.q (q_addN (a := i3) (b := 1) rfl rfl (by omega)) (TO.qm rfl (TO.nl ?_)))
   exact ⟨i3 + 1, by omega, ([rowI tb tc 3 1 (nats ((bfsN p.d i).drop i)), oI z3 28 [nS, nS], oI z1 25 (pC p k), rowI ab9 ac9 23 1 (vals ps), oI gx 25 (pC p k), oI z5 79 [(.map (some mq4))], mapI KIn Value.bool mq4 (rchM (bfsN p.d i)), oI z2 69 [fal]] ++ (itms 3 ps ++ OO)), (by exact Sub.d (.k (.k (.k (.k (.k (.k (.k (.k .rf))))))))), rfl, by omega, hF.step hil3 (by rw [hle]; first | exact (fun g => hno2 g.2) | exact (fun g => no_any (hi9.resolve_right (fun ⟨k9, hk9, e9, _⟩ => by omega)).2 g.1)), (.of rfl)⟩
  refine TO.q (QT.toB (q_lss rfl rfl) (decide_eq_false h76)) (TO.qm rfl (TO.gq rfl rfl (q_lb 0 underlying23 rfl rfl rfl rfl) (TO.gq rfl rfl (q_move rfl) ?_)))
  have hk80 := containsFuncI base rb9 rc9 (intY l) ([oI z11 23 [(.slice rb9 ((intY l).length) rc9)], rowI tb tc 3 1 (nats ((bfsN p.d i).drop i)), oI z3 28 [nS, nS], oI z1 25 (pC p k), rowI ab9 ac9 23 1 (vals ps), oI gx 25 (pC p k), oI z5 79 [(.map (some mq4))], mapI KIn Value.bool mq4 (rchM (bfsN p.d i)), oI z2 69 [fal]] ++ (itms 3 ps ++ OO)) (fun w9 hI9 => by rw [ints_intY]; exact hI9.slOf (List.mem_append_right _ (List.mem_append_left _ (part_row hRi)))) (by omega) ftwo (fun x => decide (two x.toNat = true)) (fun x hx => by obtain ⟨u, hu, rfl⟩ := mem_intY hx; exact CallV.keepR ([oI z11 23 [(.slice rb9 ((intY l).length) rc9)], rowI tb tc 3 1 (nats ((bfsN p.d i).drop i)), oI z3 28 [nS, nS], oI z1 25 (pC p k), rowI ab9 ac9 23 1 (vals ps), oI gx 25 (pC p k), oI z5 79 [(.map (some mq4))], mapI KIn Value.bool mq4 (rchM (bfsN p.d i)), oI z2 69 [fal]] ++ itms 3 ps) (htwo u (hsub u hu).1))
  refine TO.gd rfl rfl rfl (l_call ent46 hk80 rfl ?_)
  clear hk80
  rintro vr O' ⟨rfl, e9⟩
  rw [e9]
  clear e9
  refine TO.gq rfl rfl (q_not rfl) (TO.q (q_pick0 rfl rfl) (TO.nl (T.condP (p := ¬ ((intY l).any fun x => decide (two x.toNat = true)) = true) (congrArg Value.bool (by cases (intY l).any fun x => decide (two x.toNat = true) <;> rfl)) (fun hc => ?_) (fun hc => ?_))))
  ·have hno2 : ¬ ∃ v ∈ l, two v = true := no_any (Bool.eq_false_iff.2 hc)
   refine T.exit ?_
   refine T.rg (TO.q (q_addN (a := i3) (b := 1) rfl rfl (by omega)) (TO.qm rfl (TO.nl ?_)))
   exact ⟨i3 + 1, by omega, ([rowI tb tc 3 1 (nats ((bfsN p.d i).drop i)), oI z3 28 [nS, nS], oI z1 25 (pC p k), rowI ab9 ac9 23 1 (vals ps), oI gx 25 (pC p k), oI z5 79 [(.map (some mq4))], mapI KIn Value.bool mq4 (rchM (bfsN p.d i)), oI z2 69 [fal]] ++ (itms 3 ps ++ OO)), (by exact Sub.d (.k (.k (.k (.k (.k (.k (.k (.k .rf))))))))), rfl, by omega, hF.step hil3 (by rw [hle]; first | exact (fun g => hno2 g.2) | exact (fun g => no_any (hi9.resolve_right (fun ⟨k9, hk9, e9, _⟩ => by omega)).2 g.1)), (.of rfl)⟩
  obtain ⟨u9, hu9, htw9⟩ := yes_any (Classical.not_not.1 hc)
  obtain ⟨k9, hk9, rfl, hon9, _⟩ : ∃ (k9 : Nat) (hk : k9 < (intY l).length), i9 = (k9 : Int) ∧ decide (one ((intY l)[k9]).toNat = true) = true ∧ ((intY l).take k9).any (fun x => decide (one x.toNat = true)) = false := hi9.resolve_left (fun g => by omega)
  have hk9l : k9 < l.length := by omega
  obtain ⟨s9, hs9⟩ : ∃ s9, l[k9] = s9 := ⟨_, rfl⟩
  have hs9l : s9 ∈ l := hs9 ▸ List.getElem_mem hk9l
  have hon : one s9 = true := by rw [intY_get hk9, Int.toNat_natCast, hs9] at hon9; exact of_decide_eq_true hon9
  have hs9n := (hsub s9 hs9l).1
  have hgs : (nats l)[k9]? = some (vI ((s9 : Nat) : Int)) := by rw [← hs9]; exact nats_get hk9l
  refine T.skip (T.s (T.rg (TO.q (q_lb 0 underlying23 rfl rfl rfl rfl) (TO.qm rfl (TO.q (q_ix (i := k9) underlying23 inf3 rfl rfl (fun w9 hI9 => hI9.slOf (List.mem_append_right _ (List.mem_append_left _ (part_row hRi)))) (by omega) (by rw [List.length_map]; omega)) (TO.q (q_ld underlying3 rfl rfl (fun w9 hI9 => hI9.slOf (List.mem_append_right _ (List.mem_append_left _ (part_row hRi)))) hgs) (TO.l rfl (l_alloc inf3 rfl (fun z12 => ?_)))))))))
  refine TO.l rfl (l_sb (v := vI ((s9 : Nat) : Int)) (vs := [(vI ((s9 : Nat) : Int))]) 0 inf3 rfl rfl rfl rfl rfl rfl (by simp [putL]) ?_)
  refine TO.nl (T.s (T.rg (TO.q (q_makeFunc) (TO.qa rfl (TO.nl (T.s (T.rg (TO.q (q_fa underlying25 rfl inf22 rfl rfl) (TO.q (q_lb 4 underlying22 rfl rfl rfl rfl) (TO.q (q_fa underlying25 rfl inf3 rfl rfl) (TO.q (q_lb 4 underlying3 rfl rfl rfl rfl) (TO.qm rfl (TO.q (q_makeFunc) ?_)))))))))))))
  have hk95 := CallT.arg2 (Int.toNat_of_nonneg hv.s0) (CallT.atR (O := ([oI z12 3 [(vI ((s9 : Nat) : Int))], oI z11 23 [(.slice rb9 ((intY l).length) rc9)], rowI tb tc 3 1 (nats ((bfsN p.d i).drop i)), oI z3 28 [nS, nS], oI z1 25 (pC p k), rowI ab9 ac9 23 1 (vals ps), oI gx 25 (pC p k), oI z5 79 [(.map (some mq4))], mapI KIn Value.bool mq4 (rchM (bfsN p.d i)), oI z2 69 [fal]] ++ (itms 3 ps ++ OO))) [oI z11 23 [(.slice rb9 ((intY l).length) rc9)], rowI tb tc 3 1 (nats ((bfsN p.d i).drop i)), oI z3 28 [nS, nS], oI z1 25 (pC p k), rowI ab9 ac9 23 1 (vals ps), oI gx 25 (pC p k), oI z5 79 [(.map (some mq4))], mapI KIn Value.bool mq4 (rchM (bfsN p.d i)), oI z2 69 [fal]] (pathF base p.d k.nb k.nc (vals k.qs) h.outer h.rows hv hn hw ([oI z12 3 [(vI ((s9 : Nat) : Int))]] ++ (itms 3 ps ++ OO)) (fun _ => true) (fun u => decide (u = s9)) (.func (.func 84) #[] #[]) (.func (.func 88) #[] #[(.pointer (aD z12))]) (fun u _ => CallV.keepA (CallV.of_fn (first := []) (args := [vI ((u : Nat) : Int)]) (caps := []) ent84 (anyF base u))) (fun u _ => CallV.pick [0] [oI z12 3 [(vI ((s9 : Nat) : Int))]] (itms 3 ps ++ OO) [oI z12 3 [(vI ((s9 : Nat) : Int))]] rfl (CallV.of_fn (first := []) (args := [vI ((u : Nat) : Int)]) (caps := [(.pointer (aD z12))]) ent88 (eqF4 base z12 s9 u))) p.d.start.toNat (start_lt (hv)) (find_way1 hv hpo hlm hs9l)) (by exact Sub.pull [oI z12 3 [(vI ((s9 : Nat) : Int))]] _ (.pull [oI z12 3 [(vI ((s9 : Nat) : Int))]] _ (.pull [oI z12 3 [(vI ((s9 : Nat) : Int))]] _ (.pull [oI z12 3 [(vI ((s9 : Nat) : Int))]] _ (.pull [oI z12 3 [(vI ((s9 : Nat) : Int))]] _ (.pull [oI z12 3 [(vI ((s9 : Nat) : Int))]] _ (.pull [oI z12 3 [(vI ((s9 : Nat) : Int))]] _ (.pull [oI z12 3 [(vI ((s9 : Nat) : Int))]] _ (.pull [oI z12 3 [(vI ((s9 : Nat) : Int))]] _ (.k .rf)))))))))))
  refine TO.l rfl (l_call ent87 hk95 rfl ?_)
  clear hk95
  rintro vr O' ⟨A1, rfl, y1, t1, wb1, wc1, hw1, rfl, rfl⟩
  have ht1 : t1 = s9 := of_decide_eq_true hw1.to_
  rw [ht1] at hw1
  have hl1 := PathR.small (d := p.d) (by omega) hw1
  refine TO.qm rfl (TO.q (q_extract (vs := _) rfl rfl) (TO.q (q_extract (vs := _) rfl rfl) (TO.qa rfl (TO.qa rfl (TO.nl (T.s (T.rg (TO.q (q_fa underlying25 rfl inf22 rfl rfl) (TO.q (q_lb 3 underlying22 rfl rfl rfl rfl) (TO.q (q_lb 10 underlying3 rfl rfl rfl rfl) (TO.qm rfl (TO.qm rfl ?_))))))))))))
  have hk104 := CallT.atR (O := ([oI z11 23 [(.slice rb9 ((intY l).length) rc9)], rowI tb tc 3 1 (nats ((bfsN p.d i).drop i)), oI z3 28 [nS, nS], oI z1 25 (pC p k), rowI ab9 ac9 23 1 (vals ps), oI gx 25 (pC p k), oI z5 79 [(.map (some mq4))], mapI KIn Value.bool mq4 (rchM (bfsN p.d i)), oI z2 69 [fal], rowI wb1 wc1 5 1 (byts y1), oI z12 3 [(vI ((s9 : Nat) : Int))]] ++ (itms 3 ps ++ OO))) [rowI tb tc 3 1 (nats ((bfsN p.d i).drop i)), oI z3 28 [nS, nS], oI z1 25 (pC p k), rowI ab9 ac9 23 1 (vals ps), oI gx 25 (pC p k), oI z5 79 [(.map (some mq4))], mapI KIn Value.bool mq4 (rchM (bfsN p.d i)), oI z2 69 [fal], rowI wb1 wc1 5 1 (byts y1), oI z12 3 [(vI ((s9 : Nat) : Int))]] (pathF base p.d k.nb k.nc (vals k.qs) h.outer h.rows hv hn hw ([oI z11 23 [(.slice rb9 ((intY l).length) rc9)]] ++ (itms 3 ps ++ OO)) (fun u => decide (u ∈ l)) two (.func (.func 86) #[] #[(.pointer (aD z11))]) ftwo (fun u _ => CallV.of_fn (first := []) (args := [vI ((u : Nat) : Int)]) (caps := [(.pointer (aD z11))]) ent86 (inF2 base z11 rb9 rc9 l (intY l).length hly (by omega) (itms 3 ps ++ OO) (fun w9 hI9 => hI9.slOf (List.mem_append_right _ (List.mem_append_left _ (part_row hRi)))) u)) (fun u hu => CallV.keepR ([oI z11 23 [(.slice rb9 ((intY l).length) rc9)]] ++ itms 3 ps) (htwo u hu)) s9 hs9n (find_way2 hv hpo hlm hs9l hu9 htw9 false)) (by exact Sub.pull [oI z11 23 [(.slice rb9 ((intY l).length) rc9)]] _ (.pull [oI z11 23 [(.slice rb9 ((intY l).length) rc9)]] _ (.pull [oI z11 23 [(.slice rb9 ((intY l).length) rc9)]] _ (.pull [oI z11 23 [(.slice rb9 ((intY l).length) rc9)]] _ (.pull [oI z11 23 [(.slice rb9 ((intY l).length) rc9)]] _ (.pull [oI z11 23 [(.slice rb9 ((intY l).length) rc9)]] _ (.pull [oI z11 23 [(.slice rb9 ((intY l).length) rc9)]] _ (.pull [oI z11 23 [(.slice rb9 ((intY l).length) rc9)]] _ (.pull [oI z11 23 [(.slice rb9 ((intY l).length) rc9)]] _ (.pull [oI z11 23 [(.slice rb9 ((intY l).length) rc9)]] _ (.k .rf)))))))))))
  refine TO.l rfl (l_call ent87 hk104 rfl ?_)
  clear hk104
  rintro vr O' ⟨A1, rfl, y2, t2, wb2, wc2, hw2, rfl, rfl⟩
  have hl2 := PathR.small (d := p.d) (by omega) hw2
  have ht2l : t2 ∈ l := by
   by_cases e : y2 = []
   ·have h9 := hw2.run; rw [e] at h9; exact (show s9 = t2 from h9) ▸ hs9l
   ·have h9 := last_vis p.d y2 s9 e; rw [hw2.run] at h9; exact of_decide_eq_true (hw2.vis _ h9)
  have ht2n := (hsub t2 ht2l).1
  refine TO.qm rfl (TO.q (q_extract (vs := _) rfl rfl) (TO.q (q_extract (vs := _) rfl rfl) (TO.qa rfl (TO.qa rfl (TO.nl (T.s (T.rg (TO.q (q_fa underlying25 rfl inf22 rfl rfl) (TO.q (q_lb 2 underlying22 rfl rfl rfl rfl) (TO.qm rfl (TO.qm rfl (TO.q (q_lb 9 underlying3 rfl rfl rfl rfl) ?_))))))))))))
  by_cases h113 : ((t2 : Nat) : Int) = ((s9 : Nat) : Int)
  ·refine TO.q (QT.toB (q_eql rfl rfl) (decide_eq_true h113)) ?_
   refine TO.qm rfl (TO.q (q_makeFunc) ?_)
   have hk116 := CallT.atR (O := ([rowI tb tc 3 1 (nats ((bfsN p.d i).drop i)), oI z3 28 [nS, nS], oI z1 25 (pC p k), rowI ab9 ac9 23 1 (vals ps), oI gx 25 (pC p k), oI z5 79 [(.map (some mq4))], mapI KIn Value.bool mq4 (rchM (bfsN p.d i)), oI z2 69 [fal], rowI wb1 wc1 5 1 (byts y1), oI z12 3 [(vI ((s9 : Nat) : Int))], rowI wb2 wc2 5 1 (byts y2), oI z11 23 [(.slice rb9 ((intY l).length) rc9)]] ++ (itms 3 ps ++ OO))) [rowI tb tc 3 1 (nats ((bfsN p.d i).drop i)), oI z3 28 [nS, nS], oI z1 25 (pC p k), rowI ab9 ac9 23 1 (vals ps), oI gx 25 (pC p k), oI z5 79 [(.map (some mq4))], mapI KIn Value.bool mq4 (rchM (bfsN p.d i)), oI z2 69 [fal], rowI wb1 wc1 5 1 (byts y1), rowI wb2 wc2 5 1 (byts y2)] (pathT base p.d k.nb k.nc (vals k.qs) h.outer h.rows hv hn hw ([oI z11 23 [(.slice rb9 ((intY l).length) rc9)], oI z12 3 [(vI ((s9 : Nat) : Int))]] ++ (itms 3 ps ++ OO)) (fun u => decide (u ∈ l)) (fun u => decide (u = s9)) (.func (.func 86) #[] #[(.pointer (aD z11))]) (.func (.func 89) #[] #[(.pointer (aD z12))]) (fun u _ => CallV.of_fn (first := []) (args := [vI ((u : Nat) : Int)]) (caps := [(.pointer (aD z11))]) ent86 (inF2 base z11 rb9 rc9 l (intY l).length hly (by omega) ([oI z12 3 [(vI ((s9 : Nat) : Int))]] ++ (itms 3 ps ++ OO)) (fun w9 hI9 => hI9.slOf (List.mem_append_right _ (List.mem_append_right _ (List.mem_append_left _ (part_row hRi))))) u)) (fun u _ => CallV.pick [1] [oI z11 23 [(.slice rb9 ((intY l).length) rc9)], oI z12 3 [(vI ((s9 : Nat) : Int))]] (itms 3 ps ++ OO) [oI z12 3 [(vI ((s9 : Nat) : Int))]] rfl (CallV.of_fn (first := []) (args := [vI ((u : Nat) : Int)]) (caps := [(.pointer (aD z12))]) ent89 (eqF5 base z12 s9 u))) t2 ht2n (find_way2 hv hpo hlm ht2l hs9l (decide_eq_true rfl) true)) (by exact Sub.k (.k (.k (.k (.k (.k (.k (.k (.k (.pull [oI z12 3 [(vI ((s9 : Nat) : Int))]] _ (.pull [oI z12 3 [(vI ((s9 : Nat) : Int))]] _ (.k .rf))))))))))))
   refine TO.l rfl (l_call ent87 hk116 rfl ?_)
   clear hk116
   rintro vr O' ⟨A1, rfl, y3, t3_, wb3, wc3, hw3, rfl, rfl⟩
   have ht3 : t3_ = s9 := of_decide_eq_true hw3.to_
   rw [ht3] at hw3
   have hl3 := PathR.small (d := p.d) (by omega) hw3
   refine TO.qm rfl (TO.q (q_extract (vs := _) rfl rfl) (TO.q (q_extract (vs := _) rfl rfl) (TO.qa rfl (TO.qa rfl (TO.nl (T.s ?_))))))
   have hpos3 : 0 < y2.length + y3.length := by
    by_cases e : t2 = s9
    ·have := hw3.ne (by first | rfl | exact absurd (show ((t2 : Nat) : Int) = ((s9 : Nat) : Int) by omega) h113); have := List.length_pos_iff.2 this; omega
    ·have : y3 ≠ [] := fun e9 => by have h9 := hw3.run; rw [e9] at h9; exact e h9
     have := List.length_pos_iff.2 this; omega
   have hLB : LaB ⟨y1, y2 ++ y3⟩ := ⟨by show y1.length ≤ 1000000; omega, by show (y2 ++ y3).length ≤ 1000000; rw [List.length_append]; omega, fun x hx => by have := hw1.wd x hx; omega, fun x hx => by rcases List.mem_append.1 hx with hx | hx; (have := hw2.wd x hx; omega); (have := hw3.wd x hx; omega)⟩
   refine T.rg (TO.qm rfl (TO.qm rfl (TO.qm rfl (TO.l rfl (l_append 9 underlying26 underlying26 inf5 rfl rfl rfl rfl (by simp) (by decide) (Src.row (j := 10) rfl (by simp)) (by simp [oneB]) (by omega) (by decide) (by decide) (fun z13 zc14 => ?_))))))
   refine TO.q (q_build (cs := [(.slice wb1 y1.length wc1), (.slice z13 (y2.length + y3.length) zc14)]) plan28 inf28 (by kernel_rfl)) ?_
   have hk124 := fun (w1 : World) (hI : Inv base ([rowI tb tc 3 1 (nats ((bfsN p.d i).drop i)), oI z3 28 [nS, nS], oI z1 25 (pC p k), rowI ab9 ac9 23 1 (vals ps), oI gx 25 (pC p k), oI z5 79 [(.map (some mq4))], mapI KIn Value.bool mq4 (rchM (bfsN p.d i)), oI z2 69 [fal], rowI wb1 wc1 5 1 (byts y1), rowI z13 zc14 5 1 ((byts y2) ++ (byts y3)), rowI wb3 wc3 5 1 (byts y3), oI z11 23 [(.slice rb9 ((intY l).length) rc9)], oI z12 3 [(vI ((s9 : Nat) : Int))]] ++ (itms 3 ps ++ OO)) w1) => (haveI := Inv.tab (P := Tryd.prog) hI; canonicalA w1 y1 y2 y3 wb1 z13 wc1 zc14 (LaAt.rows (hI.row (i := 8) rfl) (by show rowP _ _ _ 1 (byts (y2 ++ y3)) w1; rw [show byts (y2 ++ y3) = byts y2 ++ byts y3 from List.map_append]; exact hI.row (i := 9) rfl)) hLB (by show 0 < (y2 ++ y3).length; rw [List.length_append]; have := hpos3; omega))
   refine TO.l rfl (l_call ent90 (CallT.op hk124) rfl ?_)
   clear hk124
   rintro vr O' ⟨N, rfl, c9, pb9, lb9, pc9, lc9, rfl, rfl, hcan⟩
   refine TO.l rfl (l_sb (v := (.agg #[(.slice pb9 c9.pre.length pc9), (.slice lb9 c9.loop.length lc9)])) (vs := [(.slice pb9 c9.pre.length pc9), (.slice lb9 c9.loop.length lc9)]) 3 inf28 rfl rfl rfl rfl rfl rfl (by simp [putL]) ?_)
   refine TO.qa rfl (TO.nl (T.ret (Res.drop ?_)))
   refine Res.cell1b (.bool true) (i := 3) Tryd.results63 underlying28 rfl inf28 rfl rfl rfl rfl ?_
   exact ⟨[rowI pb9 pc9 5 1 (byts c9.pre), rowI lb9 lc9 5 1 (byts c9.loop)] ++ OO, Sub.dropMid (by exact Sub.k (.k (.d (.d (.d (.d (.d (.d (.d (.d (.d (.d (.d (.d (.d .rf))))))))))))))), true, c9, pb9, pc9, lb9, lc9, rfl, rfl, find_some hv hpo hlm hs9l hon hw1 hw2 (by rw [decide_eq_true (show t2 = s9 by omega)]; exact hw3) hcan⟩
  refine TO.q (QT.toB (q_eql rfl rfl) (decide_eq_false h113)) (TO.qm rfl (TO.q (q_makeFunc) ?_))
  have hk116 := CallT.atR (O := ([rowI tb tc 3 1 (nats ((bfsN p.d i).drop i)), oI z3 28 [nS, nS], oI z1 25 (pC p k), rowI ab9 ac9 23 1 (vals ps), oI gx 25 (pC p k), oI z5 79 [(.map (some mq4))], mapI KIn Value.bool mq4 (rchM (bfsN p.d i)), oI z2 69 [fal], rowI wb1 wc1 5 1 (byts y1), oI z12 3 [(vI ((s9 : Nat) : Int))], rowI wb2 wc2 5 1 (byts y2), oI z11 23 [(.slice rb9 ((intY l).length) rc9)]] ++ (itms 3 ps ++ OO))) [rowI tb tc 3 1 (nats ((bfsN p.d i).drop i)), oI z3 28 [nS, nS], oI z1 25 (pC p k), rowI ab9 ac9 23 1 (vals ps), oI gx 25 (pC p k), oI z5 79 [(.map (some mq4))], mapI KIn Value.bool mq4 (rchM (bfsN p.d i)), oI z2 69 [fal], rowI wb1 wc1 5 1 (byts y1), rowI wb2 wc2 5 1 (byts y2)] (pathF base p.d k.nb k.nc (vals k.qs) h.outer h.rows hv hn hw ([oI z11 23 [(.slice rb9 ((intY l).length) rc9)], oI z12 3 [(vI ((s9 : Nat) : Int))]] ++ (itms 3 ps ++ OO)) (fun u => decide (u ∈ l)) (fun u => decide (u = s9)) (.func (.func 86) #[] #[(.pointer (aD z11))]) (.func (.func 89) #[] #[(.pointer (aD z12))]) (fun u _ => CallV.of_fn (first := []) (args := [vI ((u : Nat) : Int)]) (caps := [(.pointer (aD z11))]) ent86 (inF2 base z11 rb9 rc9 l (intY l).length hly (by omega) ([oI z12 3 [(vI ((s9 : Nat) : Int))]] ++ (itms 3 ps ++ OO)) (fun w9 hI9 => hI9.slOf (List.mem_append_right _ (List.mem_append_right _ (List.mem_append_left _ (part_row hRi))))) u)) (fun u _ => CallV.pick [1] [oI z11 23 [(.slice rb9 ((intY l).length) rc9)], oI z12 3 [(vI ((s9 : Nat) : Int))]] (itms 3 ps ++ OO) [oI z12 3 [(vI ((s9 : Nat) : Int))]] rfl (CallV.of_fn (first := []) (args := [vI ((u : Nat) : Int)]) (caps := [(.pointer (aD z12))]) ent89 (eqF5 base z12 s9 u))) t2 ht2n (find_way2 hv hpo hlm ht2l hs9l (decide_eq_true rfl) false)) (by exact Sub.k (.k (.k (.k (.k (.k (.k (.k (.k (.pull [oI z12 3 [(vI ((s9 : Nat) : Int))]] _ (.pull [oI z12 3 [(vI ((s9 : Nat) : Int))]] _ (.k .rf))))))))))))
  refine TO.l rfl (l_call ent87 hk116 rfl ?_)
  clear hk116
  rintro vr O' ⟨A1, rfl, y3, t3_, wb3, wc3, hw3, rfl, rfl⟩
  have ht3 : t3_ = s9 := of_decide_eq_true hw3.to_
  rw [ht3] at hw3
  have hl3 := PathR.small (d := p.d) (by omega) hw3
  refine TO.qm rfl (TO.q (q_extract (vs := _) rfl rfl) (TO.q (q_extract (vs := _) rfl rfl) (TO.qa rfl (TO.qa rfl (TO.nl (T.s ?_))))))
  have hpos3 : 0 < y2.length + y3.length := by
   by_cases e : t2 = s9
   ·have := hw3.ne (by first | rfl | exact absurd (show ((t2 : Nat) : Int) = ((s9 : Nat) : Int) by omega) h113); have := List.length_pos_iff.2 this; omega
   ·have : y3 ≠ [] := fun e9 => by have h9 := hw3.run; rw [e9] at h9; exact e h9
    have := List.length_pos_iff.2 this; omega
  have hLB : LaB ⟨y1, y2 ++ y3⟩ := ⟨by show y1.length ≤ 1000000; omega, by show (y2 ++ y3).length ≤ 1000000; rw [List.length_append]; omega, fun x hx => by have := hw1.wd x hx; omega, fun x hx => by rcases List.mem_append.1 hx with hx | hx; (have := hw2.wd x hx; omega); (have := hw3.wd x hx; omega)⟩
  refine T.rg (TO.qm rfl (TO.qm rfl (TO.qm rfl (TO.l rfl (l_append 9 underlying26 underlying26 inf5 rfl rfl rfl rfl (by simp) (by decide) (Src.row (j := 10) rfl (by simp)) (by simp [oneB]) (by omega) (by decide) (by decide) (fun z15 zc16 => ?_))))))
  refine TO.q (q_build (cs := [(.slice wb1 y1.length wc1), (.slice z15 (y2.length + y3.length) zc16)]) plan28 inf28 (by kernel_rfl)) ?_
  have hk124 := fun (w1 : World) (hI : Inv base ([rowI tb tc 3 1 (nats ((bfsN p.d i).drop i)), oI z3 28 [nS, nS], oI z1 25 (pC p k), rowI ab9 ac9 23 1 (vals ps), oI gx 25 (pC p k), oI z5 79 [(.map (some mq4))], mapI KIn Value.bool mq4 (rchM (bfsN p.d i)), oI z2 69 [fal], rowI wb1 wc1 5 1 (byts y1), rowI z15 zc16 5 1 ((byts y2) ++ (byts y3)), rowI wb3 wc3 5 1 (byts y3), oI z11 23 [(.slice rb9 ((intY l).length) rc9)], oI z12 3 [(vI ((s9 : Nat) : Int))]] ++ (itms 3 ps ++ OO)) w1) => (haveI := Inv.tab (P := Tryd.prog) hI; canonicalA w1 y1 y2 y3 wb1 z15 wc1 zc16 (LaAt.rows (hI.row (i := 8) rfl) (by show rowP _ _ _ 1 (byts (y2 ++ y3)) w1; rw [show byts (y2 ++ y3) = byts y2 ++ byts y3 from List.map_append]; exact hI.row (i := 9) rfl)) hLB (by show 0 < (y2 ++ y3).length; rw [List.length_append]; have := hpos3; omega))
  refine TO.l rfl (l_call ent90 (CallT.op hk124) rfl ?_)
  clear hk124
  rintro vr O' ⟨N, rfl, c9, pb9, lb9, pc9, lc9, rfl, rfl, hcan⟩
  refine TO.l rfl (l_sb (v := (.agg #[(.slice pb9 c9.pre.length pc9), (.slice lb9 c9.loop.length lc9)])) (vs := [(.slice pb9 c9.pre.length pc9), (.slice lb9 c9.loop.length lc9)]) 3 inf28 rfl rfl rfl rfl rfl rfl (by simp [putL]) ?_)
  refine TO.qa rfl (TO.nl (T.ret (Res.drop ?_)))
  refine Res.cell1b (.bool true) (i := 3) Tryd.results63 underlying28 rfl inf28 rfl rfl rfl rfl ?_
  exact ⟨[rowI pb9 pc9 5 1 (byts c9.pre), rowI lb9 lc9 5 1 (byts c9.loop)] ++ OO, Sub.dropMid (by exact Sub.k (.k (.d (.d (.d (.d (.d (.d (.d (.d (.d (.d (.d (.d (.d .rf))))))))))))))), true, c9, pb9, pc9, lb9, lc9, rfl, rfl, find_some hv hpo hlm hs9l hon hw1 hw2 (by rw [decide_eq_false (show ¬ t2 = s9 by omega)]; exact hw3) hcan⟩
 have hge69 : ¬ i3 < ps.length := by omega
 refine T.exit ?_
 refine T.s (T.nilRow 5 1 (T.nilRow 5 1 ?_))
 refine T.rg (TO.q (q_build plan28 inf28 rfl) (TO.l rfl (l_sb (v := (.agg #[nS, nS])) (vs := [nS, nS]) 3 inf28 rfl rfl rfl rfl rfl rfl (by simp [putL]) ?_)))
 refine TO.qa rfl (TO.nl (T.ret (Res.drop ?_)))
 refine Res.cell1b (.bool false) (i := 3) Tryd.results63 underlying28 rfl inf28 rfl rfl rfl rfl ?_
 have hie3 : all.take i3 = all := List.take_of_length_le (by omega)
 rw [hie3] at hF
 exact ⟨[rowI none 0 5 1 [], rowI none 0 5 1 []] ++ OO, Sub.dropMid (by exact Sub.k (.k (.d (.d (.d (.d (.d (.d (.d (.d .rf)))))))))), false, ⟨[], []⟩, none, 0, none, 0, rfl, rfl, ⟨rfl, find_none hv hpo hF⟩⟩
end Go.Proofs.YtnikhiohindggaaDoor


namespace Go.Proofs.YtnikhiohindggaaDoor
open Go.Lx Go.RowKit _root_.Go.Proofs.Tryd
theorem findC (base : World) [Tab Tryd.prog base] (p : Par) (k : DK) (h : AtP base p k) (hv : Val p.d) (hn : p.next.length ≤ 4096) (hw : letN p.d ≤ 64) (OO : List Lx.Item) (al one two : Nat → Bool) (fal fone ftwo : Value) (hfc : fal.cells = #[fal]) (hal : ∀ u, u < p.next.length → CallV Tryd.prog base fal [vI ((u : Nat) : Int)] OO (fun v O' => v = .bool (decide (al u = true)) ∧ O' = OO)) (hone : ∀ u, u < p.next.length → CallV Tryd.prog base fone [vI ((u : Nat) : Int)] OO (fun v O' => v = .bool (decide (one u = true)) ∧ O' = OO)) (htwo : ∀ u, u < p.next.length → CallV Tryd.prog base ftwo [vI ((u : Nat) : Int)] OO (fun v O' => v = .bool (decide (two u = true)) ∧ O' = OO)) :
  CallT Tryd.prog base 63 [pV p k, fal, fone, ftwo] OO (fun v O' => ∃ b l kl, v = .tuple #[lV l kl, .bool b] ∧ O' = lI 5 l kl :: OO ∧ FdR p.d al one two b l) :=
 (findC0 base p k h hv hn hw OO al one two fal fone ftwo hfc hal hone htwo).packR fun v O' hR => by
  obtain ⟨b, l, pb, pc, lb, lc, rfl, rfl, hf⟩ := hR
  exact ⟨True, _, OO, trivial, rfl, b, l, ⟨pb, pc, lb, lc⟩, rfl, rfl, hf⟩
theorem topF (base : World) [Tab Tryd.prog base] (p : Par) (k : DK) (h : AtP base p k) (hv : ValidP p) (pb kb a u : Nat) (hu : u < p.next.length) :
  CallT Tryd.prog base 66 [vI ((u : Nat) : Int), (.pointer (aD pb)), (.pointer (aD kb))] [oI pb 25 (pC p k), oI kb 3 [vI ((a : Nat) : Int)]] (fun v O' => v = .bool (decide (topW p a u = true)) ∧ O' = [oI pb 25 (pC p k), oI kb 3 [vI ((a : Nat) : Int)]]) := by
 refine CallT.enter func66 rfl ntmps66 rfl ?_
 have hup : u < p.prio.length := by rw [hv.pl]; exact hu
 refine T.s (T.rg (TO.qa rfl (TO.nl (T.s ?_))))
 refine T.draws _ [(0, 0), (1, 0), (2, 0), (3, 0), (4, 0), (5, 0), (6, 0), (7, 0)] mixed (by kernel_rfl) (Sub.of (List.Sublist.refl _)) (fun _ _ _ h => h) ?_
 refine DO.q rfl (q_fa underlying25 rfl inf23 rfl rfl) (DO.q rfl (q_lb 0 underlying23 rfl rfl rfl rfl) (DO.q rfl (q_move rfl) (DO.q rfl (q_ix (i := u) underlying23 inf3 rfl rfl (Sl.o h.prio) hup (by rw [List.length_map]; exact hup)) ?_)))
 refine DO.q rfl (q_ld underlying3 rfl rfl (Sl.o h.prio) (by rw [ints, List.getElem?_map, hv.prAt hu]; rfl)) (DO.q rfl (q_lb 1 underlying3 rfl rfl rfl rfl) (DO.q rfl (q_eql rfl rfl) (DO.q rfl (q_assign rfl) ?_)))
 refine DO.done ?_
 refine T.ret ?_
 refine Res.one (.bool (decide (((prN p u : Nat) : Int) = ((a : Nat) : Int)))) Tryd.results66 rfl ?_
 exact ⟨congrArg Value.bool (decide_eq_decide.2 (by simp only [topW, decide_eq_true_eq]; omega)), rfl⟩
theorem leF (base : World) [Tab Tryd.prog base] (p : Par) (k : DK) (h : AtP base p k) (hv : ValidP p) (pb kb a u : Nat) (hu : u < p.next.length) :
  CallT Tryd.prog base 67 [vI ((u : Nat) : Int), (.pointer (aD pb)), (.pointer (aD kb))] [oI pb 25 (pC p k), oI kb 3 [vI ((a : Nat) : Int)]] (fun v O' => v = .bool (decide (alW p a u = true)) ∧ O' = [oI pb 25 (pC p k), oI kb 3 [vI ((a : Nat) : Int)]]) := by
 refine CallT.enter func67 rfl ntmps67 rfl ?_
 have hup : u < p.prio.length := by rw [hv.pl]; exact hu
 refine T.s (T.rg (TO.qa rfl (TO.nl (T.s ?_))))
 refine T.draws _ [(0, 0), (1, 0), (2, 0), (3, 0), (4, 0), (5, 0), (6, 0), (7, 0)] mixed (by kernel_rfl) (Sub.of (List.Sublist.refl _)) (fun _ _ _ h => h) ?_
 refine DO.q rfl (q_fa underlying25 rfl inf23 rfl rfl) (DO.q rfl (q_lb 0 underlying23 rfl rfl rfl rfl) (DO.q rfl (q_move rfl) (DO.q rfl (q_ix (i := u) underlying23 inf3 rfl rfl (Sl.o h.prio) hup (by rw [List.length_map]; exact hup)) ?_)))
 refine DO.q rfl (q_ld underlying3 rfl rfl (Sl.o h.prio) (by rw [ints, List.getElem?_map, hv.prAt hu]; rfl)) (DO.q rfl (q_lb 1 underlying3 rfl rfl rfl rfl) (DO.q rfl (q_leq rfl rfl) (DO.q rfl (q_assign rfl) ?_)))
 refine DO.done ?_
 refine T.ret ?_
 refine Res.one (.bool (decide (((prN p u : Nat) : Int) ≤ ((a : Nat) : Int)))) Tryd.results67 rfl ?_
 exact ⟨congrArg Value.bool (decide_eq_decide.2 (by simp only [alW, decide_eq_true_eq]; omega)), rfl⟩
theorem oneF (base : World) [Tab Tryd.prog base] (p : Par) (k : DK) (h : AtP base p k) (hv : ValidP p) (q : Par) (hq : ValidP q) (pb mb kb a u : Nat) (hub : u < 1000000000000) (hu : u < p.next.length * q.next.length) :
  CallT Tryd.prog base 64 [vI ((u : Nat) : Int), (.pointer (aD pb)), (.pointer (aD mb)), (.pointer (aD kb))] [oI pb 25 (pC p k), oI mb 3 [vI ((q.next.length : Nat) : Int)], oI kb 3 [vI ((a : Nat) : Int)]] (fun v O' => v = .bool (decide ((fun v : Nat => decide (f1 p q v = a)) u = true)) ∧ O' = [oI pb 25 (pC p k), oI mb 3 [vI ((q.next.length : Nat) : Int)], oI kb 3 [vI ((a : Nat) : Int)]]) := by
 refine CallT.enter func64 rfl ntmps64 rfl ?_
 obtain ⟨hud, hum⟩ := pr_split (n := q.next.length) (k := p.next.length) (c := u) hu
 have hqp : 0 < q.next.length := hq.val.n0
 have hq4 := hq.n4
 have hup : u / q.next.length < p.prio.length := by rw [hv.pl]; exact hud
 have huq : u % q.next.length < q.prio.length := by rw [hq.pl]; exact hum
 have hu9 : u < 1000000000000 := hub
 refine T.s (T.rg (TO.qa rfl (TO.nl (T.s ?_))))
 refine T.draws _ [(0, 0), (1, 0), (2, 0), (3, 0), (4, 0), (5, 0), (6, 0), (7, 0), (8, 0), (9, 0)] mixed (by kernel_rfl) (Sub.of (List.Sublist.refl _)) (fun _ _ _ h => h) ?_
 refine DO.q rfl (q_fa underlying25 rfl inf23 rfl rfl) (DO.q rfl (q_lb 0 underlying23 rfl rfl rfl rfl) (DO.q rfl (q_move rfl) (DO.q rfl (q_lb 1 underlying3 rfl rfl rfl rfl) ?_)))
 refine DO.q rfl (q_quoN (a := u) (b := q.next.length) rfl rfl (by omega) (by omega)) (DO.q rfl (q_ix (i := (u / q.next.length)) underlying23 inf3 rfl rfl (Sl.o h.prio) hup (by rw [List.length_map]; exact hup)) (DO.q rfl (q_ld underlying3 rfl rfl (Sl.o h.prio) (by rw [ints, List.getElem?_map, hv.prAt hud]; rfl)) (DO.q rfl (q_lb 2 underlying3 rfl rfl rfl rfl) ?_)))
 refine DO.q rfl (q_eql rfl rfl) (DO.q rfl (q_assign rfl) ?_)
 refine DO.done ?_
 refine T.ret ?_
 refine Res.one (.bool (decide (((prN p (u / q.next.length) : Nat) : Int) = ((a : Nat) : Int)))) Tryd.results64 rfl ?_
 exact ⟨congrArg Value.bool (decide_eq_decide.2 (by show ((prN p (u / q.next.length) : Nat) : Int) = ((a : Nat) : Int) ↔ decide (prN p (u / q.next.length) = a) = true; rw [decide_eq_true_eq]; omega)), rfl⟩
theorem twoF (base : World) [Tab Tryd.prog base] (p : Par) (hv : ValidP p) (q : Par) (k2 : DK) (h2 : AtP base q k2) (hq : ValidP q) (qb mb jb c u : Nat) (hub : u < 1000000000000) (hu : u < p.next.length * q.next.length) :
  CallT Tryd.prog base 65 [vI ((u : Nat) : Int), (.pointer (aD qb)), (.pointer (aD mb)), (.pointer (aD jb))] [oI qb 25 (pC q k2), oI mb 3 [vI ((q.next.length : Nat) : Int)], oI jb 3 [vI ((c : Nat) : Int)]] (fun v O' => v = .bool (decide ((fun v : Nat => decide (f2 q v = c)) u = true)) ∧ O' = [oI qb 25 (pC q k2), oI mb 3 [vI ((q.next.length : Nat) : Int)], oI jb 3 [vI ((c : Nat) : Int)]]) := by
 refine CallT.enter func65 rfl ntmps65 rfl ?_
 obtain ⟨hud, hum⟩ := pr_split (n := q.next.length) (k := p.next.length) (c := u) hu
 have hqp : 0 < q.next.length := hq.val.n0
 have hq4 := hq.n4
 have hup : u / q.next.length < p.prio.length := by rw [hv.pl]; exact hud
 have huq : u % q.next.length < q.prio.length := by rw [hq.pl]; exact hum
 have hu9 : u < 1000000000000 := hub
 refine T.s (T.rg (TO.qa rfl (TO.nl (T.s ?_))))
 refine T.draws _ [(0, 0), (1, 0), (2, 0), (3, 0), (4, 0), (5, 0), (6, 0), (7, 0), (8, 0), (9, 0)] mixed (by kernel_rfl) (Sub.of (List.Sublist.refl _)) (fun _ _ _ h => h) ?_
 refine DO.q rfl (q_fa underlying25 rfl inf23 rfl rfl) (DO.q rfl (q_lb 0 underlying23 rfl rfl rfl rfl) (DO.q rfl (q_move rfl) (DO.q rfl (q_lb 1 underlying3 rfl rfl rfl rfl) ?_)))
 refine DO.q rfl (q_remN (a := u) (b := q.next.length) rfl rfl (by omega)) (DO.q rfl (q_ix (i := (u % q.next.length)) underlying23 inf3 rfl rfl (Sl.o h2.prio) huq (by rw [List.length_map]; exact huq)) (DO.q rfl (q_ld underlying3 rfl rfl (Sl.o h2.prio) (by rw [ints, List.getElem?_map, hq.prAt hum]; rfl)) (DO.q rfl (q_lb 2 underlying3 rfl rfl rfl rfl) ?_)))
 refine DO.q rfl (q_eql rfl rfl) (DO.q rfl (q_assign rfl) ?_)
 refine DO.done ?_
 refine T.ret ?_
 refine Res.one (.bool (decide (((prN q (u % q.next.length) : Nat) : Int) = ((c : Nat) : Int)))) Tryd.results65 rfl ?_
 exact ⟨congrArg Value.bool (decide_eq_decide.2 (by show ((prN q (u % q.next.length) : Nat) : Int) = ((c : Nat) : Int) ↔ decide (prN q (u % q.next.length) = c) = true; rw [decide_eq_true_eq]; omega)), rfl⟩
theorem bothF (base : World) [Tab Tryd.prog base] (p : Par) (k : DK) (h : AtP base p k) (hv : ValidP p) (q : Par) (k2 : DK) (h2 : AtP base q k2) (hq : ValidP q) (pb mb kb qb jb a c u : Nat) (hub : u < 1000000000000) (hu : u < p.next.length * q.next.length) :
  CallT Tryd.prog base 62 [vI ((u : Nat) : Int), (.pointer (aD pb)), (.pointer (aD mb)), (.pointer (aD kb)), (.pointer (aD qb)), (.pointer (aD jb))] [oI pb 25 (pC p k), oI mb 3 [vI ((q.next.length : Nat) : Int)], oI kb 3 [vI ((a : Nat) : Int)], oI qb 25 (pC q k2), oI jb 3 [vI ((c : Nat) : Int)]] (fun v O' => v = .bool (decide (alD p q a c u = true)) ∧ O' = [oI pb 25 (pC p k), oI mb 3 [vI ((q.next.length : Nat) : Int)], oI kb 3 [vI ((a : Nat) : Int)], oI qb 25 (pC q k2), oI jb 3 [vI ((c : Nat) : Int)]]) := by
 refine CallT.enter func62 rfl ntmps62 rfl ?_
 obtain ⟨hud, hum⟩ := pr_split (n := q.next.length) (k := p.next.length) (c := u) hu
 have hqp : 0 < q.next.length := hq.val.n0
 have hq4 := hq.n4
 have hup : u / q.next.length < p.prio.length := by rw [hv.pl]; exact hud
 have huq : u % q.next.length < q.prio.length := by rw [hq.pl]; exact hum
 have hu9 : u < 1000000000000 := hub
 refine T.s (T.rg (TO.qa rfl (TO.nl (T.s ?_))))
 refine T.draws _ [(0, 0), (1, 0), (2, 0), (3, 0), (4, 0), (5, 0), (6, 0), (7, 0), (8, 0), (9, 0), (10, 0), (11, 0), (12, 0), (13, 0), (14, 0), (15, 0), (16, 0), (17, 0), (18, 0), (19, 0), (20, 0)] mixed (drawF_ok (by kernel_rfl)) (Sub.of (List.Sublist.refl _)) (fun _ _ _ h => h) ?_
 refine DO.q rfl (q_fa underlying25 rfl inf23 rfl rfl) (DO.q rfl (q_lb 0 underlying23 rfl rfl rfl rfl) (DO.q rfl (q_move rfl) (DO.q rfl (q_lb 1 underlying3 rfl rfl rfl rfl) ?_)))
 refine DO.q rfl (q_quoN (a := u) (b := q.next.length) rfl rfl (by omega) (by omega)) (DO.q rfl (q_ix (i := (u / q.next.length)) underlying23 inf3 rfl rfl (Sl.o h.prio) hup (by rw [List.length_map]; exact hup)) (DO.q rfl (q_ld underlying3 rfl rfl (Sl.o h.prio) (by rw [ints, List.getElem?_map, hv.prAt hud]; rfl)) (DO.q rfl (q_lb 2 underlying3 rfl rfl rfl rfl) ?_)))
 refine DO.q rfl (q_leq rfl rfl) ?_
 by_cases h17 : ((prN p (u / q.next.length) : Nat) : Int) ≤ ((a : Nat) : Int)
 ·refine DO.q rfl (QT.toB (q_move rfl) (decide_eq_true h17)) ?_
  refine DO.guarded rfl rfl rfl (q_fa underlying25 rfl inf23 rfl rfl) ?_
  refine DO.guarded rfl rfl rfl (q_lb 3 underlying23 rfl rfl rfl rfl) ?_
  refine DO.guarded rfl rfl rfl (q_move rfl) ?_
  refine DO.guarded rfl rfl rfl (q_lb 1 underlying3 rfl rfl rfl rfl) ?_
  refine DO.guarded rfl rfl rfl (q_remN (a := u) (b := q.next.length) rfl rfl (by omega)) ?_
  refine DO.guarded rfl rfl rfl (q_ix (i := (u % q.next.length)) underlying23 inf3 rfl rfl (Sl.o h2.prio) huq (by rw [List.length_map]; exact huq)) ?_
  refine DO.guarded rfl rfl rfl (q_ld underlying3 rfl rfl (Sl.o h2.prio) (by rw [ints, List.getElem?_map, hq.prAt hum]; rfl)) ?_
  refine DO.guarded rfl rfl rfl (q_lb 4 underlying3 rfl rfl rfl rfl) ?_
  refine DO.guarded rfl rfl rfl (q_leq rfl rfl) ?_
  refine DO.q rfl (q_pick1 rfl rfl) (DO.q rfl (q_assign rfl) ?_)
  refine DO.done ?_
  refine T.ret ?_
  refine Res.one (.bool (decide (((prN q (u % q.next.length) : Nat) : Int) ≤ ((c : Nat) : Int)))) Tryd.results62 rfl ?_
  exact ⟨congrArg Value.bool (decide_eq_decide.2 (by show ((prN q (u % q.next.length) : Nat) : Int) ≤ ((c : Nat) : Int) ↔ (decide (prN p (u / q.next.length) ≤ a) && decide (prN q (u % q.next.length) ≤ c)) = true; rw [Bool.and_eq_true, decide_eq_true_eq, decide_eq_true_eq]; omega)), rfl⟩
 refine DO.q rfl (QT.toB (q_move rfl) (decide_eq_false h17)) (DO.passed rfl rfl rfl (DO.passed rfl rfl rfl (DO.passed rfl rfl rfl (DO.passed rfl rfl rfl (DO.passed rfl rfl rfl (DO.passed rfl rfl rfl (DO.passed rfl rfl rfl ?_)))))))
 refine DO.passed rfl rfl rfl (DO.passed rfl rfl rfl (DO.q rfl (q_pick0 rfl rfl) (DO.q rfl (q_assign rfl) ?_)))
 refine DO.done ?_
 refine T.ret ?_
 refine Res.one (.bool false) Tryd.results62 rfl ?_
 exact ⟨congrArg Value.bool (decide_eq_false (fun g => by have g2 : (decide (prN p (u / q.next.length) ≤ a) && decide (prN q (u % q.next.length) ≤ c)) = true := g; rw [Bool.and_eq_true, decide_eq_true_eq] at g2; omega)).symm, rfl⟩
theorem pairC0 (w : World) [Tab Tryd.prog w] (p : Par) (k : DK) (h : AtP w p k) (hv : ValidP p) (q : Par) (k2 : DK) (h2 : AtP w q k2) (hq : ValidP q) (hvv : p.vars = q.vars) (hnm : p.next.length * q.next.length ≤ 4096) :
  PureT Tryd.prog 60 [pV p k, pV q k2] w fun v N => ∃ nb nc qs, v = .agg (parCells (pairP p q) nb nc none 0).toArray ∧ N = [rowI nb nc 23 1 (vals qs), rowI none 0 3 1 (ints [])] ++ itms 3 qs ∧ nums qs = prNext p.d q.d := by
 refine CallT.enter func60 rfl ntmps60 rfl ?_
 have hvl := h.rows.1
 have hvl2 := h2.rows.1
 have hw6 := hv.letN6
 have hn4 := hv.n4
 have hm4 := hq.n4
 have hst := pr_lt hv.st hq.st
 have hLq : letN q.d = letN p.d := by show 2 ^ q.vars.toNat = 2 ^ p.vars.toNat; rw [hvv]
 refine T.s (T.rg (TO.l rfl (l_box (v := (pV p k)) (cs := (pC p k)) rfl rfl (fun z1 => ?_))))
 refine TO.l rfl (l_box (v := (pV q k2)) (cs := (pC q k2)) rfl rfl (fun z2 => ?_))
 refine TO.l rfl (l_alloc inf25 rfl (fun z3 => ?_))
 refine TO.nl (T.s (T.rg (TO.q (q_fa underlying25 rfl inf22 rfl rfl) (TO.q (q_lb 1 underlying22 rfl rfl rfl rfl) (TO.q (q_len underlying22 rfl) (TO.qa rfl (TO.nl (T.s (T.rg (TO.q (q_fa underlying25 rfl inf3 rfl rfl) (TO.q (q_lb 2 underlying3 rfl rfl rfl rfl) (TO.q (q_fa underlying25 rfl inf3 rfl rfl) (TO.q (QT.cast (q_lb 2 underlying3 rfl rfl rfl rfl) (v' := vI ((p.start.toNat : Nat) : Int)) (congrArg (Value.int .i64) (Int.toNat_of_nonneg hv.val.s0).symm)) (TO.qm rfl (TO.q (q_mulN (a := p.start.toNat) (b := q.next.length) rfl rfl (by omega)) (TO.q (q_fa underlying25 rfl inf3 rfl rfl) (TO.q (QT.cast (q_lb 1 underlying3 rfl rfl rfl rfl) (v' := vI ((q.start.toNat : Nat) : Int)) (congrArg (Value.int .i64) (Int.toNat_of_nonneg hq.val.s0).symm)) (TO.q (q_addN (a := (p.start.toNat * q.next.length)) (b := q.start.toNat) rfl rfl (by omega)) (TO.q (q_build (cs := [(vI p.vars), vI (((p.start.toNat * q.next.length) + q.start.toNat : Nat) : Int), nS, nS]) plan25 inf25 (by kernel_rfl)) (TO.l rfl (l_alloc inf25 rfl (fun z4 => ?_))))))))))))))))))))))
 refine TO.l rfl (l_sb (v := (.agg #[(vI p.vars), vI (((p.start.toNat * q.next.length) + q.start.toNat : Nat) : Int), nS, nS])) (vs := [(vI p.vars), vI (((p.start.toNat * q.next.length) + q.start.toNat : Nat) : Int), nS, nS]) 0 inf25 rfl rfl rfl rfl rfl rfl (by simp [putL]) ?_)
 refine TO.nl (T.s (T.s (T.rg (TO.q (q_fa underlying25 rfl inf22 rfl rfl) (TO.q (q_lb 3 underlying22 rfl rfl rfl rfl) (TO.q (q_len underlying22 rfl) (TO.qm rfl (TO.nl (T.block (T.nilRow 23 1 ?_))))))))))
 refine T.loopS (fun (s : Nat) ρ O => ∃ (nb : Option Addr) (nc : Nat) (qs : List Rec), O = ([rowI nb nc 23 1 (vals qs), oI z4 25 [(vI p.vars), vI (((p.start.toNat * q.next.length) + q.start.toNat : Nat) : Int), (.slice nb qs.length nc), nS], oI z3 25 [(vI 0), (vI 0), nS, nS], oI z2 25 (pC q k2), oI z1 25 (pC p k)] ++ (itms 3 qs)) ∧ s ≤ p.next.length ∧ nums qs = (prNext p.d q.d).take (s * q.next.length) ∧ Heads [(0, (pV p k)), (1, (pV q k2)), (2, (.pointer (aD z1))), (3, (.pointer (aD z2))), (4, (.pointer (aD z3))), (5, vI (q.next.length : Int)), (6, (.pointer (aD z4))), (27, (.slice k.nb p.next.length k.nc)), (28, vI (p.next.length : Int)), (29, vI ((s : Nat) : Int))] ρ) (fun s => p.next.length - s) 0 ?_ ?_
 ·exact ⟨none, 0, [], rfl, Nat.zero_le _, by simp, (.of rfl)⟩
 rintro s ρ O ⟨nb, nc, qs, rfl, hs, hqs, hH⟩
 obtain ⟨ρ0, rfl⟩ := hH.elim
 clear hH
 refine T.s (T.rg (TO.q (q_lss rfl rfl) (TO.nl (T.s (T.condP rfl (fun hc => ?_) (fun hc => ?_))))))
 ·have hlt30 : s < p.next.length := by omega
  have hsn : s < p.next.length := by omega
  obtain ⟨v1, c1, g1, s1⟩ := h.rows.get hsn
  have hr1 : p.next[s].length = letN p.d := hv.val.len _ (List.getElem_mem hsn)
  refine T.skip (T.s (T.block (T.s (T.rg (TO.q (q_ix (i := s) underlying22 inf23 rfl rfl (Sl.o h.outer) hsn (hvl ▸ hsn)) (TO.q (q_ld underlying23 rfl rfl (Sl.o h.outer) g1) (TO.qa rfl (TO.nl (T.s (T.rg (TO.q (q_fa underlying25 rfl inf22 rfl rfl) (TO.q (q_lb 3 underlying22 rfl rfl rfl rfl) (TO.q (q_len underlying22 rfl) (TO.qm rfl (TO.nl (T.block ?_))))))))))))))))
  refine T.loopS (fun (u : Nat) ρ O => ∃ (nb : Option Addr) (nc : Nat) (qs : List Rec), O = ([rowI nb nc 23 1 (vals qs), oI z4 25 [(vI p.vars), vI (((p.start.toNat * q.next.length) + q.start.toNat : Nat) : Int), (.slice nb qs.length nc), nS], oI z3 25 [(vI 0), (vI 0), nS, nS], oI z2 25 (pC q k2), oI z1 25 (pC p k)] ++ (itms 3 qs)) ∧ u ≤ q.next.length ∧ nums qs = (prNext p.d q.d).take (s * q.next.length + u) ∧ Heads [(0, (pV p k)), (1, (pV q k2)), (2, (.pointer (aD z1))), (3, (.pointer (aD z2))), (4, (.pointer (aD z3))), (5, vI (q.next.length : Int)), (6, (.pointer (aD z4))), (8, (.slice v1 p.next[s].length c1)), (27, (.slice k.nb p.next.length k.nc)), (28, vI (p.next.length : Int)), (29, vI ((s : Nat) : Int)), (34, (.slice k2.nb q.next.length k2.nc)), (35, vI (q.next.length : Int)), (36, vI ((u : Nat) : Int))] ρ) (fun u => q.next.length - u) 0 ?_ ?_
  ·exact ⟨nb, nc, qs, rfl, Nat.zero_le _, hqs, (.of rfl)⟩
  rintro u ρ O ⟨nb, nc, qs, rfl, hu, hqs, hH⟩
  obtain ⟨ρ0, rfl⟩ := hH.elim
  clear hH
  refine T.s (T.rg (TO.q (q_lss rfl rfl) (TO.nl (T.s (T.condP rfl (fun hc => ?_) (fun hc => ?_))))))
  ·have hlt37 : u < q.next.length := by omega
   have hun : u < q.next.length := by omega
   obtain ⟨v2, c2, g2, s2⟩ := h2.rows.get hun
   have hr2 : q.next[u].length = letN p.d := (hq.val.len _ (List.getElem_mem hun)).trans hLq
   have hsu := pr_lt hsn hun
   have hnx : (prNext p.d q.d).take (s * q.next.length + (u + 1)) = (prNext p.d q.d).take (s * q.next.length + u) ++ [prRow p.d q.d s u] := prNext_step (a := p.d) (b := q.d) hsn hun
   refine T.skip (T.s (T.block (T.s (T.rg (TO.q (q_ix (i := u) underlying22 inf23 rfl rfl (Sl.o h2.outer) hun (hvl2 ▸ hun)) (TO.q (q_ld underlying23 rfl rfl (Sl.o h2.outer) g2) (TO.qa rfl (TO.nl (T.s (T.rg (TO.qm rfl (TO.q (q_len underlying23 rfl) (TO.l rfl (l_makeSlice (m := p.next[s].length) underlying23 inf3 rfl rfl (by omega) (by omega) (fun z5 => ?_)))))))))))))))
   refine TO.qa rfl (TO.nl (T.s (T.s (T.rg (TO.qm rfl (TO.q (q_len underlying23 rfl) (TO.qm rfl (TO.nl (T.block ?_)))))))))
   have hql : qs.length ≤ 4096 := by
    have h1 := congrArg List.length hqs
    rw [List.length_map, List.length_take, prNext_len] at h1
    have h3 : p.d.next.length = p.next.length := rfl
    have h4 : q.d.next.length = q.next.length := rfl
    rw [h3, h4] at h1; omega
   refine T.loopS (fun (x : Nat) ρ O => O = ([rowI (aD z5) p.next[s].length 3 1 (ints (rCut (prRow p.d q.d s u) x)), rowI nb nc 23 1 (vals qs), oI z4 25 [(vI p.vars), vI (((p.start.toNat * q.next.length) + q.start.toNat : Nat) : Int), (.slice nb qs.length nc), nS], oI z3 25 [(vI 0), (vI 0), nS, nS], oI z2 25 (pC q k2), oI z1 25 (pC p k)] ++ (itms 3 qs)) ∧ x ≤ letN p.d ∧ Heads [(0, (pV p k)), (1, (pV q k2)), (2, (.pointer (aD z1))), (3, (.pointer (aD z2))), (4, (.pointer (aD z3))), (5, vI (q.next.length : Int)), (6, (.pointer (aD z4))), (8, (.slice v1 p.next[s].length c1)), (10, (.slice v2 q.next[u].length c2)), (11, (.slice (aD z5) p.next[s].length p.next[s].length)), (27, (.slice k.nb p.next.length k.nc)), (28, vI (p.next.length : Int)), (29, vI ((s : Nat) : Int)), (34, (.slice k2.nb q.next.length k2.nc)), (35, vI (q.next.length : Int)), (36, vI ((u : Nat) : Int)), (44, vI (p.next[s].length : Int)), (45, vI ((x : Nat) : Int))] ρ) (fun x => letN p.d - x) 0 ?_ ?_
   ·exact ⟨by rw [rCut_zero, prRow_len, hr1]; simp, Nat.zero_le _, (.of rfl)⟩
   rintro x ρ O ⟨rfl, hx, hH⟩
   obtain ⟨ρ0, rfl⟩ := hH.elim
   clear hH
   have hcl := rCut_len (prRow p.d q.d s u) (x := x) (by rw [prRow_len]; exact hx)
   refine T.s (T.rg (TO.q (q_lss rfl rfl) (TO.nl (T.s (T.condP rfl (fun hc => ?_) (fun hc => ?_))))))
   ·have hlt46 : x < p.next[s].length := by omega
    have hxl : x < letN p.d := by omega
    have hxq : x < letN q.d := by omega
    obtain ⟨ht1, hx1, e1, _⟩ := hv.to hsn hxl
    obtain ⟨ht2, hx2, e2, _⟩ := hq.to hun hxq
    have hto := pr_lt ht1 ht2
    have hpl := prRow_len p.d q.d s u
    have hprx := prRow_at (a := p.d) (b := q.d) (s := s) (t := u) hxl
    refine T.skip (T.s (T.block (T.s (T.rg (TO.qm rfl (TO.qa rfl (TO.nl ?_)))))))
    refine T.draws _ [(0, 0), (1, 0), (2, 0), (3, 0), (4, 0), (5, 0), (6, 0), (7, 0), (8, 0), (9, 0), (10, 0), (11, 0), (12, 0), (13, 0), (14, 2)] mixed (drawF_ok (by kernel_rfl)) (Sub.of (List.Sublist.refl _)) (fun _ _ _ h => h) ?_
    refine DO.q rfl (q_move rfl) (DO.q rfl (q_move rfl) (DO.q rfl (q_move rfl) (DO.q rfl (q_move rfl) (DO.q rfl (q_ix (i := x) underlying23 inf3 rfl rfl (Sl.o s1) hx1 (by rw [List.length_map]; exact hx1)) (DO.q rfl (q_ld underlying3 rfl rfl (Sl.o s1) e1) (DO.q rfl (q_move rfl) (DO.q rfl (q_mulN (a := (toN p.d s x)) (b := q.next.length) rfl rfl (by omega)) (DO.q rfl (q_move rfl) (DO.q rfl (q_move rfl) (DO.q rfl (q_ix (i := x) underlying23 inf3 rfl rfl (Sl.o s2) hx2 (by rw [List.length_map]; exact hx2)) (DO.q rfl (q_ld underlying3 rfl rfl (Sl.o s2) e2) (DO.q rfl (q_addN (a := ((toN p.d s x) * q.next.length)) (b := (toN q.d u x)) rfl rfl (by omega)) (DO.q rfl (q_ix (i := x) underlying23 inf3 rfl rfl (rowO (mG 0 rfl)) hx1 (by rw [List.length_map]; omega)) ?_)))))))))))))
    refine DO.last rfl rfl (l_st (j := x) (v := vI ((((toN p.d s x) * q.next.length) + (toN q.d u x) : Nat) : Int)) (vs := [(vI ((((toN p.d s x) * q.next.length) + (toN q.d u x) : Nat) : Int))]) (cs := ints (rCut (prRow p.d q.d s u) x)) 0 inf3 rfl rfl rfl rfl rfl (by simp) rfl (by first | (simp; omega) | (simp_all; omega)) ?_)
    refine DO.sub (O' := ([rowI (aD z5) p.next[s].length 3 1 (ints (rCut (prRow p.d q.d s u) (x + 1))), rowI nb nc 23 1 (vals qs), oI z4 25 [(vI p.vars), vI (((p.start.toNat * q.next.length) + q.start.toNat : Nat) : Int), (.slice nb qs.length nc), nS], oI z3 25 [(vI 0), (vI 0), nS, nS], oI z2 25 (pC q k2), oI z1 25 (pC p k)] ++ (itms 3 qs))) (by rw [show putL (ints (rCut (prRow p.d q.d s u) x)) x [(vI ((((toN p.d s x) * q.next.length) + (toN q.d u x) : Nat) : Int))] = ints (rCut (prRow p.d q.d s u) (x + 1)) from (by rw [← rCut_set (v := ((toN p.d s x * q.next.length + toN q.d u x : Nat) : Int)) (by omega) hprx]; simp [putL])]; exact Sub.of (List.Sublist.refl _)) ?_
    refine DO.done ?_
    refine T.rg (TO.q (q_addN (a := x) (b := 1) rfl rfl (by omega)) (TO.qm rfl (TO.nl ?_)))
    exact ⟨x + 1, by omega, ([rowI (aD z5) p.next[s].length 3 1 (ints (rCut (prRow p.d q.d s u) (x + 1))), rowI nb nc 23 1 (vals qs), oI z4 25 [(vI p.vars), vI (((p.start.toNat * q.next.length) + q.start.toNat : Nat) : Int), (.slice nb qs.length nc), nS], oI z3 25 [(vI 0), (vI 0), nS, nS], oI z2 25 (pC q k2), oI z1 25 (pC p k)] ++ (itms 3 qs)), (by exact Sub.rf), rfl, by omega, (.of rfl)⟩
   have hge46 : ¬ x < p.next[s].length := by omega
   refine T.exit ?_
   refine T.rg (TO.q (q_fa underlying25 rfl inf22 rfl rfl) (TO.q (q_lb 2 underlying22 rfl rfl rfl rfl) (TO.qm rfl (TO.l rfl (l_build1 (v := (.slice (aD z5) p.next[s].length p.next[s].length)) underlying22 inf23 rfl rfl rfl (fun z6 => ?_))))))
   refine TO.l rfl (l_append 2 underlying22 underlying22 inf23 rfl rfl rfl rfl (by simp) (by decide) (Src.row (j := 0) rfl (by simp)) (by simp [oneB]) (by omega) (by decide) (by decide) (fun z7 zc8 => ?_))
   refine TO.q (q_fa underlying25 rfl inf22 rfl rfl) (TO.l rfl (l_sb (v := (.slice z7 (qs.length + 1) zc8)) (vs := [(.slice z7 (qs.length + 1) zc8)]) 3 inf22 rfl rfl rfl rfl rfl rfl (by simp [putL]) ?_))
   refine TO.nl ?_
   have hrc : rCut (prRow p.d q.d s u) x = (prRow p.d q.d s u) := by
    have h9 := rCut_end (prRow p.d q.d s u)
    rw [prRow_len] at h9
    rw [show x = letN p.d by omega]; exact h9
   refine T.sub (O' := [rowI (aD z6) 1 23 1 [(.slice (aD z5) p.next[s].length p.next[s].length)], Rec.itm 3 ⟨(aD z5), p.next[s].length, (prRow p.d q.d s u)⟩, rowI z7 zc8 23 1 ((vals qs) ++ [(.slice (aD z5) p.next[s].length p.next[s].length)]), oI z4 25 [(vI p.vars), vI (((p.start.toNat * q.next.length) + q.start.toNat : Nat) : Int), (.slice z7 (qs.length + 1) zc8), nS], oI z3 25 [(vI 0), (vI 0), nS, nS], oI z2 25 (pC q k2), oI z1 25 (pC p k)] ++ (itms 3 qs)) (by rw [hrc]; exact Sub.rf) ?_
   refine T.sub (O' := [rowI z7 zc8 23 1 (vals (qs ++ [⟨(aD z5), p.next[s].length, (prRow p.d q.d s u)⟩])), oI z4 25 [(vI p.vars), vI (((p.start.toNat * q.next.length) + q.start.toNat : Nat) : Int), (.slice z7 (qs.length + 1) zc8), nS], oI z3 25 [(vI 0), (vI 0), nS, nS], oI z2 25 (pC q k2), oI z1 25 (pC p k)] ++ (itms 3 (qs ++ [⟨(aD z5), p.next[s].length, (prRow p.d q.d s u)⟩]))) (by rw [show vals (qs ++ [(⟨(aD z5), p.next[s].length, (prRow p.d q.d s u)⟩ : Rec)]) = vals qs ++ [Value.slice (aD z5) p.next[s].length p.next[s].length] by simp [Rec.val, prRow_len, hr1]]; exact Sub.ca [rowI (aD z6) 1 23 1 [(.slice (aD z5) p.next[s].length p.next[s].length)]]) ?_
   refine T.rg (TO.q (q_addN (a := u) (b := 1) rfl rfl (by omega)) (TO.qm rfl (TO.nl ?_)))
   exact ⟨u + 1, by omega, ([rowI z7 zc8 23 1 (vals (qs ++ [⟨(aD z5), p.next[s].length, (prRow p.d q.d s u)⟩])), oI z4 25 [(vI p.vars), vI (((p.start.toNat * q.next.length) + q.start.toNat : Nat) : Int), (.slice z7 (qs.length + 1) zc8), nS], oI z3 25 [(vI 0), (vI 0), nS, nS], oI z2 25 (pC q k2), oI z1 25 (pC p k)] ++ (itms 3 (qs ++ [⟨(aD z5), p.next[s].length, (prRow p.d q.d s u)⟩]))), (by exact Sub.rf), z7, zc8, qs ++ [⟨(aD z5), p.next[s].length, (prRow p.d q.d s u)⟩], by rw [List.length_append]; rfl, by omega, by rw [hnx, ← hqs]; exact List.map_append, (.of rfl)⟩
  have hge37 : ¬ u < q.next.length := by omega
  refine T.exit ?_
  refine T.rg (TO.q (q_addN (a := s) (b := 1) rfl rfl (by omega)) (TO.qm rfl (TO.nl ?_)))
  have hue : u = q.next.length := by omega
  exact ⟨s + 1, by omega, ([rowI nb nc 23 1 (vals qs), oI z4 25 [(vI p.vars), vI (((p.start.toNat * q.next.length) + q.start.toNat : Nat) : Int), (.slice nb qs.length nc), nS], oI z3 25 [(vI 0), (vI 0), nS, nS], oI z2 25 (pC q k2), oI z1 25 (pC p k)] ++ (itms 3 qs)), (by exact Sub.rf), nb, nc, qs, rfl, by omega, by rw [hqs, hue, Nat.succ_mul], (.of rfl)⟩
 have hge30 : ¬ s < p.next.length := by omega
 refine T.exit ?_
 refine T.s (T.nilRow 3 1 ?_)
 refine T.rg (TO.q (q_la 2 underlying25 rfl inf25 rfl rfl rfl) (TO.l rfl (l_sb (v := (.agg #[(vI p.vars), vI (((p.start.toNat * q.next.length) + q.start.toNat : Nat) : Int), (.slice nb qs.length nc), nS])) (vs := [(vI p.vars), vI (((p.start.toNat * q.next.length) + q.start.toNat : Nat) : Int), (.slice nb qs.length nc), nS]) 3 inf25 rfl rfl rfl rfl rfl rfl (by simp [putL]) ?_)))
 refine TO.nl (T.ret (Res.drop ?_))
 refine Res.cell1 (i := 3) Tryd.results60 underlying25 rfl inf25 rfl rfl rfl ?_
 have hse : s = p.next.length := by omega
 have hnq : nums qs = prNext p.d q.d := by rw [hqs, hse, List.take_of_length_le (by rw [prNext_len]; exact Nat.le_refl _)]
 have hlen9 : qs.length = (prNext p.d q.d).length := by rw [← hnq, List.length_map]
 exact ⟨[rowI nb nc 23 1 (vals qs), rowI none 0 3 1 (ints [])] ++ itms 3 qs, (by exact Sub.pull [rowI none 0 3 1 []] _ (.k (.d (.d (.d (.d .rf)))))), nb, nc, qs, by show _ = Value.agg #[vI p.vars, vI ((p.start.toNat * q.next.length + q.start.toNat : Nat) : Int), .slice nb (prNext p.d q.d).length nc, nS]; rw [← hlen9]; rfl, rfl, hnq⟩
theorem pairC (w : World) [Tab Tryd.prog w] (p : Par) (k : DK) (h : AtP w p k) (hv : ValidP p) (q : Par) (k2 : DK) (h2 : AtP w q k2) (hq : ValidP q) (hvv : p.vars = q.vars) (hnm : p.next.length * q.next.length ≤ 4096) :
  PureT Tryd.prog 60 [pV p k, pV q k2] w fun v N => ∃ k9 : DK, v = pV (pairP p q) k9 ∧ N = [pI 23 3 (pairP p q) k9] :=
 (pairC0 w p k h hv q k2 h2 hq hvv hnm).packR fun v O' hR => by
  obtain ⟨nb, nc, qs, rfl, rfl, hq9⟩ := hR
  exact ⟨nums qs = (pairP p q).next, _, [], hq9, (List.append_nil _).symm, ⟨nb, nc, none, 0, qs⟩, rfl, rfl⟩
end Go.Proofs.YtnikhiohindggaaDoor

