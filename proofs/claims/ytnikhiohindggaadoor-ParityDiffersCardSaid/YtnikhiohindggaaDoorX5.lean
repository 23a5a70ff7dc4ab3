/- Contracts of functions of the program (X5): what each call answers and that it leaves memory as it was. Conditions: those each theorem names. -/
import Derived.Test.YtnikhiohindggaaDoorCoreL
import Derived.Test.YtnikhiohindggaaDoorYs
import Derived.Test.YtnikhiohindggaaDoorY4
import Derived.Test.YtnikhiohindggaaDoorX1
import Derived.Test.YtnikhiohindggaaDoorYm
set_option linter.unusedSectionVars false
set_option linter.unusedSimpArgs false
set_option linter.unusedVariables false
set_option linter.unnecessarySimpa false
set_option maxHeartbeats 8000000
set_option maxRecDepth 20000
namespace Go.Proofs.YtnikhiohindggaaDoor
open Go.Lx Go.RowKit _root_.Go.Proofs.Tryd
theorem hasR (w : World) [Tab Tryd.prog w] (b : Option Addr) (c : Nat) (xs : List Int) (x : Int) (hs : Sl w b (ints xs)) (hb : xs.length < 9223372036854775807) :
  PureT Tryd.prog 72 [.slice b xs.length c, vI x] w fun v N => v = .bool (decide (x ∈ xs)) ∧ N = [] := by
 refine CallT.enter func72 rfl ntmps72 rfl ?_
 refine T.s (T.rg (TO.qa rfl (TO.nl (T.s (T.rg (TO.qm rfl (TO.qm rfl ?_)))))))
 have hk7 := fun (w1 : World) (hI : Inv w [] w1) => (haveI := tbz hI; hasInt w1 b c xs x (hI.sl hs) hb)
 refine TO.l rfl (l_call ent92 (CallT.op hk7) rfl ?_)
 clear hk7
 rintro vr O' ⟨N, rfl, rfl, rfl⟩
 refine TO.qa rfl (TO.nl (T.ret (Res.drop ?_)))
 refine Res.one (.bool (decide (x ∈ xs))) Tryd.results72 rfl ?_
 exact ⟨[], Sub.of (List.nil_sublist _), rfl, rfl⟩
theorem reachP (w : World) [Tab Tryd.prog w] (p q : Par) (hp : ValidP p) (hq : ValidP q) (hv : p.vars = q.vars) (hN : p.next.length * q.next.length ≤ 4096) (xb : Option Addr) (xc : Nat) (rs : List Rec) (hat : AtP w (prodP p q) ⟨xb, xc, none, 0, rs⟩) (sb : Option Addr) (sc : Nat) (ss : List Bool) (hs : Sl w sb (bools ss)) (hsl : ss.length = p.next.length * q.next.length) :
  PureT Tryd.prog 71 [.agg #[vI p.vars, vI 0, .slice xb (p.next.length * q.next.length) xc, nS], .slice sb (p.next.length * q.next.length) sc] w fun v N => ∃ b c qs, v = .slice b (p.next.length * q.next.length) c ∧ N = rowI b c 81 1 (bvals qs) :: bitms 4 qs ∧ SqM (p.next.length * q.next.length) qs ∧ ∀ a b, a < p.next.length * q.next.length → b < p.next.length * q.next.length → (gB qs a b = true ↔ Pp (InS (DE (prodP p q).d) (sB ss)) a b) := by
 have hl := prodP_len p q
 have h9 := reachC0 w (prodP p q) ⟨xb, xc, none, 0, rs⟩ hat ⟨prodP_val hp hq hv, by rw [hl]; exact hN⟩ sb sc ss hs (by rw [hl]; exact hsl)
 rw [show pV (prodP p q) ⟨xb, xc, none, 0, rs⟩ = .agg #[vI p.vars, vI 0, .slice xb (prodP p q).next.length xc, nS] from rfl, hl] at h9
 exact h9
theorem differR (w : World) [Tab Tryd.prog w] (p : Par) (k : DK) (h : AtP w p k) (q : Par) (k2 : DK) (h2 : AtP w q k2) (hp : ValidP p) (hq : ValidP q) (hv : p.vars = q.vars) (hN : p.next.length * q.next.length ≤ 4096) :
  PureT Tryd.prog 34 [pV p k, pV q k2] w fun v N => ∃ b : Bool, v = .bool b ∧ (b = true ↔ differP p q) ∧ N = [] := by
 refine CallT.enter func34 rfl ntmps34 rfl ?_
 have hn4 := hp.n4
 have hm4 := hq.n4
 have hpl := hp.pl
 have hql := hq.pl
 have hvl := h.rows.1
 have hvl2 := h2.rows.1
 have h6 := hp.letN6
 have hm0 : 0 < q.next.length := by have := hq.st; omega
 have hL : letN p.d = letN q.d := by unfold letN; show 2 ^ p.vars.toNat = 2 ^ q.vars.toNat; rw [hv]
 refine T.s (T.rg (TO.l rfl (l_box (v := (pV p k)) (cs := (pC p k)) rfl rfl (fun z1 => ?_))))
 refine TO.l rfl (l_box (v := (pV q k2)) (cs := (pC q k2)) rfl rfl (fun z2 => ?_))
 refine TO.qa rfl (TO.nl (T.s ?_))
 refine T.draws _ [(0, 0), (1, 0), (2, 0), (3, 0), (4, 0), (5, 0), (6, 0), (7, 0)] mixed (by kernel_rfl) (Sub.of (List.Sublist.refl _)) (fun _ _ _ h => h) ?_
 refine DO.q rfl (q_fa uT25 rfl inf22 rfl rfl) (DO.q rfl (q_lb 1 uT22 rfl rfl rfl rfl) (DO.q rfl (q_len uT22 rfl) (DO.q rfl (q_fa uT25 rfl inf22 rfl rfl) (DO.q rfl (q_lb 0 uT22 rfl rfl rfl rfl) (DO.q rfl (q_len uT22 rfl) (DO.q rfl (q_assign rfl) (DO.q rfl (q_assign rfl) ?_)))))))
 refine DO.done ?_
 refine T.reset [oI z2 25 (pC q k2), oI z1 25 (pC p k)] [(0, (pV p k)), (1, (pV q k2)), (2, (.pointer (aD z1))), (3, (.pointer (aD z2))), (4, .bool false), (5, vI (p.next.length : Int)), (6, vI (q.next.length : Int))] rfl (.of rfl) (fun ρ0 => ?_)
 refine T.s (T.rg (TO.q (q_fa uT25 rfl inf3 rfl rfl) (TO.q (q_lb 1 uT3 rfl rfl rfl rfl) (TO.q (q_build (cs := [(vI p.vars), (vI 0), nS, nS]) plan25 inf25 (by kernel_rfl)) (TO.l rfl (l_alloc inf25 rfl (fun z3 => ?_)))))))
 refine TO.l rfl (l_sb (v := (.agg #[(vI p.vars), (vI 0), nS, nS])) (vs := [(vI p.vars), (vI 0), nS, nS]) 0 inf25 rfl rfl rfl rfl rfl rfl (by simp [putL]) ?_)
 refine TO.nl (T.s (T.s (T.rg (TO.qa rfl (TO.nl (T.block (T.nilRow 23 1 (T.nilRow 3 1 ?_))))))))
 refine T.loop (fun (s : Nat) ρ O => ∃ (xb : Option Addr) (xc : Nat) (rs : List Rec), O = ([rowI xb xc 23 1 (vals rs), rowI none 0 3 1 [], oI z3 25 [(vI p.vars), (vI 0), (.slice xb (s * q.next.length) xc), nS], oI z2 25 (pC q k2), oI z1 25 (pC p k)] ++ (itms 3 rs)) ∧ s ≤ p.next.length ∧ nums rs = (prNext p.d q.d).take (s * q.next.length) ∧ Heads [(0, (pV p k)), (1, (pV q k2)), (2, (.pointer (aD z1))), (3, (.pointer (aD z2))), (4, .bool false), (5, vI (p.next.length : Int)), (6, vI (q.next.length : Int)), (7, (.pointer (aD z3))), (8, vI ((s : Nat) : Int))] ρ) (fun s => p.next.length - s) 0 ?_ ?_
 ·exact ⟨none, 0, [], by rw [Nat.zero_mul]; rfl, Nat.zero_le _, by rw [Nat.zero_mul]; rfl, (.of rfl)⟩
 rintro s ρ O ⟨xb, xc, rs, rfl, hs, hrs, hH⟩
 obtain ⟨ρ0, rfl⟩ := hH.elim
 clear hH
 refine T.s (T.s (T.rg (TO.qm rfl (TO.qm rfl (TO.q (q_lss rfl rfl) (TO.nl (T.condP rfl (fun hc => ?_) (fun hc => ?_))))))))
 ·have hlt33 : s < p.next.length := by omega
  have hsn : s < p.next.length := by omega
  obtain ⟨v1, c1, g1, s1⟩ := h.rows.get hsn
  have hr1 : p.next[s].length = letN p.d := hp.val.len _ (List.getElem_mem hsn)
  refine T.skip (T.s (T.block (T.s (T.rg (TO.qa rfl (TO.nl (T.block ?_)))))))
  refine T.loop (fun (t : Nat) ρ O => ∃ (yb : Option Addr) (yc : Nat) (ys : List Rec), O = ([rowI yb yc 23 1 (vals ys), rowI none 0 3 1 [], oI z3 25 [(vI p.vars), (vI 0), (.slice yb (s * q.next.length + t) yc), nS], oI z2 25 (pC q k2), oI z1 25 (pC p k)] ++ (itms 3 ys)) ∧ t ≤ q.next.length ∧ nums ys = (prNext p.d q.d).take (s * q.next.length + t) ∧ Heads [(0, (pV p k)), (1, (pV q k2)), (2, (.pointer (aD z1))), (3, (.pointer (aD z2))), (4, .bool false), (5, vI (p.next.length : Int)), (6, vI (q.next.length : Int)), (7, (.pointer (aD z3))), (8, vI ((s : Nat) : Int)), (9, vI ((t : Nat) : Int))] ρ) (fun t => q.next.length - t) 0 ?_ ?_
  ·exact ⟨xb, xc, rs, rfl, Nat.zero_le _, hrs, (.of rfl)⟩
  rintro t ρ O ⟨yb, yc, ys, rfl, ht, hys, hH⟩
  obtain ⟨ρ0, rfl⟩ := hH.elim
  clear hH
  refine T.s (T.s (T.rg (TO.qm rfl (TO.qm rfl (TO.q (q_lss rfl rfl) (TO.nl (T.condP rfl (fun hc => ?_) (fun hc => ?_))))))))
  ·have hlt38 : t < q.next.length := by omega
   have htn : t < q.next.length := by omega
   obtain ⟨v2, c2, g2, s2⟩ := h2.rows.get htn
   have hr2 : q.next[t].length = letN q.d := hq.val.len _ (List.getElem_mem htn)
   have hpair := pr_lt hsn htn
   have hyl : ys.length = s * q.next.length + t := by
    have h9 := congrArg List.length hys
    rw [List.length_take, nums, List.length_map, prNext_len] at h9
    rw [h9]; exact Nat.min_eq_left (Nat.le_of_lt hpair)
   refine T.skip (T.s (T.block (T.s (T.rg (TO.qa rfl (TO.nl (T.s (T.s (T.rg (TO.qa rfl (TO.nl (T.block (T.nilRow 3 1 ?_)))))))))))))
   refine T.loop (fun (x : Nat) ρ O => ∃ (rb : Option Addr) (rc : Nat), O = ([rowI rb rc 3 1 (ints ((prRow p.d q.d s t).take x)), rowI yb yc 23 1 (vals ys), rowI none 0 3 1 [], oI z3 25 [(vI p.vars), (vI 0), (.slice yb (s * q.next.length + t) yc), nS], oI z2 25 (pC q k2), oI z1 25 (pC p k)] ++ (itms 3 ys)) ∧ x ≤ letN p.d ∧ Heads [(0, (pV p k)), (1, (pV q k2)), (2, (.pointer (aD z1))), (3, (.pointer (aD z2))), (4, .bool false), (5, vI (p.next.length : Int)), (6, vI (q.next.length : Int)), (7, (.pointer (aD z3))), (8, vI ((s : Nat) : Int)), (9, vI ((t : Nat) : Int)), (10, (.slice rb x rc)), (11, vI ((x : Nat) : Int))] ρ) (fun x => letN p.d - x) 0 ?_ ?_
   ·exact ⟨none, 0, rfl, Nat.zero_le _, (.of rfl)⟩
   rintro x ρ O ⟨rb, rc, rfl, hx, hH⟩
   obtain ⟨ρ0, rfl⟩ := hH.elim
   clear hH
   refine T.s (T.s (T.rg (TO.qm rfl (TO.q (q_fa uT25 rfl inf22 rfl rfl) (TO.q (q_lb 5 uT22 rfl rfl rfl rfl) (TO.qm rfl (TO.q (q_ix (i := s) uT22 inf23 rfl rfl (Sl.o h.outer) hsn (hvl ▸ hsn)) (TO.q (q_ld uT23 rfl rfl (Sl.o h.outer) g1) (TO.q (q_len uT23 rfl) (TO.q (q_lss rfl rfl) (TO.nl (T.condP rfl (fun hc => ?_) (fun hc => ?_)))))))))))))
   ·have hlt48 : x < p.next[s].length := by omega
    have hxl : x < letN p.d := by omega
    obtain ⟨hto1, hxk1, hx1, _⟩ := hp.to hsn hxl
    obtain ⟨hto2, hxk2, hx2, _⟩ := hq.to htn (hL ▸ hxl)
    have hpl9 := pr_lt hto1 hto2
    refine T.skip (T.s (T.block ?_))
    refine T.draws [rowI yb yc 23 1 (vals ys), rowI none 0 3 1 [], oI z3 25 [(vI p.vars), (vI 0), (.slice yb (s * q.next.length + t) yc), nS], oI z2 25 (pC q k2), oI z1 25 (pC p k)] [(0, 0), (1, 0), (2, 0), (3, 0), (4, 0), (5, 0), (6, 0), (7, 0), (8, 0), (9, 0), (10, 0), (11, 0), (12, 0), (13, 0), (14, 0), (15, 0), (16, 0), (17, 0), (18, 0), (19, 0), (20, 1), (21, 2), (22, 2)] mixed (drawF_ok (by kernel_rfl)) (Sub.pick0 [1, 1, 1, 1, 1] [rowI rb rc 3 1 (ints ((prRow p.d q.d s t).take x)), rowI yb yc 23 1 (vals ys), rowI none 0 3 1 [], oI z3 25 [(vI p.vars), (vI 0), (.slice yb (s * q.next.length + t) yc), nS], oI z2 25 (pC q k2), oI z1 25 (pC p k)] (itms 3 ys) rfl rfl) (fun _ _ _ h => h) ?_
    refine DO.q rfl (q_move rfl) (DO.q rfl (q_fa uT25 rfl inf22 rfl rfl) (DO.q rfl (q_lb 4 uT22 rfl rfl rfl rfl) (DO.q rfl (q_move rfl) (DO.q rfl (q_ix (i := s) uT22 inf23 rfl rfl (Sl.o h.outer) hsn (hvl ▸ hsn)) (DO.q rfl (q_ld uT23 rfl rfl (Sl.o h.outer) g1) (DO.q rfl (q_move rfl) (DO.q rfl (q_ix (i := x) uT23 inf3 rfl rfl (Sl.o s1) hxk1 (by rw [List.length_map]; exact hxk1)) (DO.q rfl (q_ld uT3 rfl rfl (Sl.o s1) hx1) (DO.q rfl (q_move rfl) (DO.q rfl (q_mulN (a := (toN p.d s x)) (b := q.next.length) rfl rfl (by omega)) (DO.q rfl (q_fa uT25 rfl inf22 rfl rfl) (DO.q rfl (q_lb 3 uT22 rfl rfl rfl rfl) (DO.q rfl (q_move rfl) (DO.q rfl (q_ix (i := t) uT22 inf23 rfl rfl (Sl.o h2.outer) htn (hvl2 ▸ htn)) (DO.q rfl (q_ld uT23 rfl rfl (Sl.o h2.outer) g2) (DO.q rfl (q_move rfl) (DO.q rfl (q_ix (i := x) uT23 inf3 rfl rfl (Sl.o s2) hxk2 (by rw [List.length_map]; exact hxk2)) (DO.q rfl (q_ld uT3 rfl rfl (Sl.o s2) hx2) (DO.q rfl (q_addN (a := ((toN p.d s x) * q.next.length)) (b := (toN q.d t x)) rfl rfl (by omega)) ?_)))))))))))))))))))
    refine DO.loud rfl rfl (l_build1 (v := vI ((((toN p.d s x) * q.next.length) + (toN q.d t x) : Nat) : Int)) uT23 inf3 rfl rfl rfl (fun z4 => ⟨Sub.pick0 [2, 2, 2, 2, 2] [rowI (aD z4) 1 3 1 [vI ((((toN p.d s x) * q.next.length) + (toN q.d t x) : Nat) : Int)], rowI rb rc 3 1 (ints ((prRow p.d q.d s t).take x)), rowI yb yc 23 1 (vals ys), rowI none 0 3 1 [], oI z3 25 [(vI p.vars), (vI 0), (.slice yb (s * q.next.length + t) yc), nS], oI z2 25 (pC q k2), oI z1 25 (pC p k)] (itms 3 ys) rfl rfl, ?_⟩))
    refine DO.last rfl rfl (l_append 1 uT23 uT23 inf3 rfl rfl rfl rfl (by simp [prRow_len]; omega) (by decide) (Src.row (j := 0) rfl (by simp)) (by simp [oneB]) (by omega) (by decide) (by decide) (fun z5 zc6 => ?_))
    refine DO.last rfl rfl (LT.oq rfl rfl (q_assign rfl) ?_)
    refine DO.sub (O' := ([rowI z5 zc6 3 1 ((ints ((prRow p.d q.d s t).take x)) ++ [vI ((((toN p.d s x) * q.next.length) + (toN q.d t x) : Nat) : Int)]), rowI yb yc 23 1 (vals ys), rowI none 0 3 1 [], oI z3 25 [(vI p.vars), (vI 0), (.slice yb (s * q.next.length + t) yc), nS], oI z2 25 (pC q k2), oI z1 25 (pC p k)] ++ (itms 3 ys))) (Sub.pickR [1, 1, 1, 1, 1, 1] [rowI (aD z4) 1 3 1 [vI ((((toN p.d s x) * q.next.length) + (toN q.d t x) : Nat) : Int)], rowI z5 zc6 3 1 ((ints ((prRow p.d q.d s t).take x)) ++ [vI ((((toN p.d s x) * q.next.length) + (toN q.d t x) : Nat) : Int)]), rowI yb yc 23 1 (vals ys), rowI none 0 3 1 [], oI z3 25 [(vI p.vars), (vI 0), (.slice yb (s * q.next.length + t) yc), nS], oI z2 25 (pC q k2), oI z1 25 (pC p k)] (itms 3 ys) rfl rfl) ?_
    refine DO.done ?_
    refine T.rg (TO.qm rfl (TO.q (q_addN (a := x) (b := 1) rfl rfl (by omega)) (TO.qa rfl (TO.nl ?_))))
    exact ⟨x + 1, by omega, z5, zc6, by rw [prR_ints hxl], by omega, (.of rfl)⟩
   have hge48 : ¬ x < p.next[s].length := by omega
   have hxm : min x (letN p.d) = x := by omega
   have hE : vals ys ++ [.slice rb x rc] = vals (ys ++ [⟨rb, rc, (prRow p.d q.d s t).take x⟩]) := by
    have h9 : ((prRow p.d q.d s t).take x).length = x := by rw [List.length_take, prRow_len]; exact hxm
    rw [show vals (ys ++ [(⟨rb, rc, (prRow p.d q.d s t).take x⟩ : Rec)]) = vals ys ++ [.slice rb ((prRow p.d q.d s t).take x).length rc] by simp [Rec.val], h9]
   have hnx : nums (ys ++ [⟨rb, rc, (prRow p.d q.d s t).take x⟩]) = (prNext p.d q.d).take (s * q.next.length + (t + 1)) := by
    rw [numsK_snoc, hys, show s * q.next.length + (t + 1) = s * q.next.length + t + 1 from rfl, prN_take hsn htn, prR_full s t (by omega)]
   refine T.exit ?_
   refine T.rg (TO.q (q_fa uT25 rfl inf22 rfl rfl) (TO.q (q_lb 3 uT22 rfl rfl rfl rfl) (TO.qm rfl (TO.l rfl (l_build1 (v := (.slice rb x rc)) uT22 inf23 rfl rfl rfl (fun z7 => ?_))))))
   refine TO.l rfl (l_append 2 uT22 uT22 inf23 rfl rfl rfl rfl (by rw [List.length_map]; omega) (by decide) (Src.row (j := 0) rfl (by simp)) (by simp [oneB]) (by omega) (by decide) (by decide) (fun z8 zc9 => ?_))
   refine TO.q (q_fa uT25 rfl inf22 rfl rfl) (TO.l rfl (l_sb (v := (.slice z8 ((s * q.next.length + t) + 1) zc9)) (vs := [(.slice z8 ((s * q.next.length + t) + 1) zc9)]) 4 inf22 rfl rfl rfl rfl rfl rfl (by simp [putL]) ?_))
   refine TO.sub (O' := ([rowI rb rc 3 1 (ints ((prRow p.d q.d s t).take x)), rowI z8 zc9 23 1 ((vals ys) ++ [(.slice rb x rc)]), rowI none 0 3 1 [], oI z3 25 [(vI p.vars), (vI 0), (.slice z8 ((s * q.next.length + t) + 1) zc9), nS], oI z2 25 (pC q k2), oI z1 25 (pC p k)] ++ (itms 3 ys))) (Sub.pickR [1, 1, 1, 1, 1, 1] [rowI (aD z7) 1 23 1 [(.slice rb x rc)], rowI rb rc 3 1 (ints ((prRow p.d q.d s t).take x)), rowI z8 zc9 23 1 ((vals ys) ++ [(.slice rb x rc)]), rowI none 0 3 1 [], oI z3 25 [(vI p.vars), (vI 0), (.slice z8 ((s * q.next.length + t) + 1) zc9), nS], oI z2 25 (pC q k2), oI z1 25 (pC p k)] (itms 3 ys) rfl rfl) ?_
   refine TO.nl (T.rg (TO.qm rfl (TO.q (q_addN (a := t) (b := 1) rfl rfl (by omega)) (TO.qa rfl ?_))))
   have hR9 : rowI rb rc 3 1 (ints ((prRow p.d q.d s t).take x)) = Rec.itm 3 ⟨rb, rc, (prRow p.d q.d s t).take x⟩ := rfl
   refine TO.sub (O' := [rowI z8 zc9 23 1 ((vals ys) ++ [(.slice rb x rc)]), rowI none 0 3 1 [], oI z3 25 [(vI p.vars), (vI 0), (.slice z8 ((s * q.next.length + t) + 1) zc9), nS], oI z2 25 (pC q k2), oI z1 25 (pC p k)] ++ (itms 3 (ys ++ [⟨rb, rc, (prRow p.d q.d s t).take x⟩]))) (by rw [hR9]; exact Sub.cnt [] (by intro a; simp only [itms, bitms, oI, List.set_cons_zero, List.set_cons_succ, putL, List.cons_append, List.nil_append, List.append_nil, List.append_assoc, List.map_append, List.map_cons, List.map_nil, cnt_append, cnt_cons, cnt_nil, vI, nS, aD] <;> omega)) ?_
   refine TO.nl ?_
   exact ⟨t + 1, by omega, z8, zc9, ys ++ [⟨rb, rc, (prRow p.d q.d s t).take x⟩], (by rw [hE]; first | done | rfl), by omega, hnx, (.of rfl)⟩
  have hge38 : ¬ t < q.next.length := by omega
  have hsm : (s + 1) * q.next.length = s * q.next.length + t := by rw [Nat.succ_mul]; omega
  refine T.exit ?_
  refine T.rg (TO.qm rfl (TO.q (q_addN (a := s) (b := 1) rfl rfl (by omega)) (TO.qa rfl (TO.nl ?_))))
  exact ⟨s + 1, by omega, yb, yc, ys, by rw [hsm], by omega, by rw [hsm]; exact hys, (.of rfl)⟩
 have hge33 : ¬ s < p.next.length := by omega
 refine T.exit ?_
 refine T.s ?_
 have hsn : s = p.next.length := by omega
 rw [hsn] at hrs
 refine T.sub (O' := [rowI xb xc 23 1 (vals rs), rowI none 0 3 1 [], oI z3 25 [(vI p.vars), (vI 0), (.slice xb (p.next.length * q.next.length) xc), nS], oI z2 25 (pC q k2), oI z1 25 (pC p k)] ++ (itms 3 rs)) (by rw [hsn]; exact Sub.rf) ?_
 refine T.rg (TO.qm rfl (TO.qm rfl (TO.q (q_mulN (a := p.next.length) (b := q.next.length) rfl rfl (by omega)) (TO.l rfl (l_makeSlice (m := p.next.length * q.next.length) uT81 inf4 rfl rfl (by omega) (by omega) (fun z10 => ?_))))))
 refine TO.qa rfl (TO.nl ?_)
 refine T.reset ([rowI (aD z10) (p.next.length * q.next.length) 4 1 (List.replicate (p.next.length * q.next.length) (.bool false)), rowI xb xc 23 1 (vals rs), rowI none 0 3 1 [], oI z3 25 [(vI p.vars), (vI 0), (.slice xb (p.next.length * q.next.length) xc), nS], oI z2 25 (pC q k2), oI z1 25 (pC p k)] ++ (itms 3 rs)) [(0, (pV p k)), (1, (pV q k2)), (2, (.pointer (aD z1))), (3, (.pointer (aD z2))), (4, .bool false), (5, vI (p.next.length : Int)), (6, vI (q.next.length : Int)), (7, (.pointer (aD z3))), (8, vI ((s : Nat) : Int)), (12, (.slice (aD z10) (p.next.length * q.next.length) (p.next.length * q.next.length)))] rfl (.of rfl) (fun ρ0 => ?_)
 refine T.s (T.s (T.rg (TO.qa rfl (TO.nl (T.block ?_)))))
 have eA : bools (tabB (p.next.length * q.next.length) (fun v => decide (v < 0))) = List.replicate (p.next.length * q.next.length) (.bool false) := by rw [← bools_rep, tabB_rep]; rfl
 refine T.loop (fun (g4 : Nat) ρ O => O = ([rowI (aD z10) (p.next.length * q.next.length) 4 1 (bools (tabB (p.next.length * q.next.length) (fun v => decide (v < g4)))), rowI xb xc 23 1 (vals rs), rowI none 0 3 1 [], oI z3 25 [(vI p.vars), (vI 0), (.slice xb (p.next.length * q.next.length) xc), nS], oI z2 25 (pC q k2), oI z1 25 (pC p k)] ++ (itms 3 rs)) ∧ g4 ≤ p.next.length * q.next.length ∧ Heads [(0, (pV p k)), (1, (pV q k2)), (2, (.pointer (aD z1))), (3, (.pointer (aD z2))), (4, .bool false), (5, vI (p.next.length : Int)), (6, vI (q.next.length : Int)), (7, (.pointer (aD z3))), (8, vI ((s : Nat) : Int)), (12, (.slice (aD z10) (p.next.length * q.next.length) (p.next.length * q.next.length))), (13, vI ((g4 : Nat) : Int))] ρ) (fun g4 => p.next.length * q.next.length - g4) 0 ?_ ?_
 ·exact ⟨(by rw [eA]; first | done | rfl), Nat.zero_le _, (.of rfl)⟩
 rintro g4 ρ O ⟨rfl, hu, hH⟩
 obtain ⟨ρ0, rfl⟩ := hH.elim
 clear hH
 refine T.s (T.s (T.rg (TO.qm rfl (TO.qm rfl (TO.qm rfl (TO.q (q_mulN (a := p.next.length) (b := q.next.length) rfl rfl (by omega)) (TO.q (q_lss rfl rfl) (TO.nl (T.condP rfl (fun hc => ?_) (fun hc => ?_))))))))))
 ·have hlt87 : g4 < p.next.length * q.next.length := by omega
  have hun : g4 < p.next.length * q.next.length := by omega
  have eS9 : (tabB (p.next.length * q.next.length) (fun v => decide (v < g4))).set g4 true = tabB (p.next.length * q.next.length) (fun v => decide (v < (g4 + 1))) := by rw [tabB_set hun]; exact tabB_ext fun v _ => (lt_step v g4).symm
  refine T.skip (T.s (T.block (T.rg (TO.qm rfl (TO.qm rfl (TO.q (q_ix (i := g4) uT81 inf4 rfl rfl (rowO (mG 0 rfl)) hun (by rw [List.length_map, tabB_len]; exact hun)) (TO.l rfl (l_st (j := g4) (v := .bool true) (vs := [(.bool true)]) (cs := bools (tabB (p.next.length * q.next.length) (fun v => decide (v < g4)))) 0 inf4 rfl rfl rfl rfl rfl (by simp) rfl (by rw [List.length_map, tabB_len]; exact hun) ?_))))))))
  refine TO.sub (O' := ([rowI (aD z10) (p.next.length * q.next.length) 4 1 (bools ((tabB (p.next.length * q.next.length) (fun v => decide (v < g4))).set g4 true)), rowI xb xc 23 1 (vals rs), rowI none 0 3 1 [], oI z3 25 [(vI p.vars), (vI 0), (.slice xb (p.next.length * q.next.length) xc), nS], oI z2 25 (pC q k2), oI z1 25 (pC p k)] ++ (itms 3 rs))) (by rw [show putL (bools (tabB (p.next.length * q.next.length) (fun v => decide (v < g4)))) g4 [(.bool true)] = bools ((tabB (p.next.length * q.next.length) (fun v => decide (v < g4))).set g4 true) from (by simp [putL])]; exact Sub.of (List.Sublist.refl _)) ?_
  refine TO.nl (T.rg (TO.qm rfl (TO.q (q_addN (a := g4) (b := 1) rfl rfl (by omega)) (TO.qa rfl (TO.nl ?_)))))
  exact ⟨g4 + 1, by omega, (by rw [← eS9]; first | done | rfl), by omega, (.of rfl)⟩
 have hge87 : ¬ g4 < p.next.length * q.next.length := by omega
 have hfull : nums rs = (prodP p q).next := by rw [hrs]; exact prN_full (Nat.le_refl _)
 have hstN := prG_st hp hq hv
 obtain ⟨st, est⟩ : ∃ z, p.start.toNat * q.next.length + q.start.toNat = z := ⟨_, rfl⟩
 rw [est] at hstN
 have hs1 : Value.int .i64 p.start = vI ((p.start.toNat : Nat) : Int) := congrArg (Value.int .i64) (Int.toNat_of_nonneg hp.val.s0).symm
 have hs2 : Value.int .i64 q.start = vI ((q.start.toNat : Nat) : Int) := congrArg (Value.int .i64) (Int.toNat_of_nonneg hq.val.s0).symm
 refine T.exit ?_
 refine T.s ?_
 have eU : tabB (p.next.length * q.next.length) (fun v => decide (v < g4)) = tabB (p.next.length * q.next.length) (fun _ => true) := tabB_ext fun v hv9 => decide_eq_true (by omega)
 refine T.sub (O' := [rowI (aD z10) (p.next.length * q.next.length) 4 1 (bools (tabB (p.next.length * q.next.length) (fun _ => true))), rowI xb xc 23 1 (vals rs), rowI none 0 3 1 [], oI z3 25 [(vI p.vars), (vI 0), (.slice xb (p.next.length * q.next.length) xc), nS], oI z2 25 (pC q k2), oI z1 25 (pC p k)] ++ (itms 3 rs)) (by rw [← eU]; exact Sub.rf) ?_
 refine T.rg (TO.q (q_fa uT25 rfl inf3 rfl rfl) (TO.q (QT.cast (q_lb 5 uT3 rfl rfl rfl rfl) (v' := vI ((p.start.toNat : Nat) : Int)) hs1) (TO.qm rfl (TO.q (q_mulN (a := p.start.toNat) (b := q.next.length) rfl rfl (by omega)) (TO.q (q_fa uT25 rfl inf3 rfl rfl) (TO.q (QT.cast (q_lb 4 uT3 rfl rfl rfl rfl) (v' := vI ((q.start.toNat : Nat) : Int)) hs2) (TO.q (QT.cast (q_addN (a := (p.start.toNat * q.next.length)) (b := q.start.toNat) rfl rfl (by omega)) (v' := vI ((st : Nat) : Int)) (congrArg (fun n9 : Nat => Value.int .i64 ((n9 : Nat) : Int)) est)) (TO.qa rfl (TO.nl (T.s (T.rg (TO.q (q_la 3 uT25 rfl inf25 rfl rfl rfl) (TO.qm rfl ?_)))))))))))))
 have hk102 := fun (w1 : World) (hI : Inv w ([rowI (aD z10) (p.next.length * q.next.length) 4 1 (bools (tabB (p.next.length * q.next.length) (fun _ => true))), rowI xb xc 23 1 (vals rs), rowI none 0 3 1 [], oI z3 25 [(vI p.vars), (vI 0), (.slice xb (p.next.length * q.next.length) xc), nS], oI z2 25 (pC q k2), oI z1 25 (pC p k)] ++ (itms 3 rs)) w1) => (haveI := tbz hI; reachP w1 p q hp hq hv hN xb xc rs (hI.atRows (mG 1 rfl) (mG 2 rfl) (fun q9 h9 => List.mem_append_right _ (List.mem_map_of_mem h9)) hfull) (aD z10) (p.next.length * q.next.length) (tabB (p.next.length * q.next.length) (fun _ => true)) (hI.slOf (cs := bools (tabB (p.next.length * q.next.length) (fun _ => true))) (mG 0 rfl)) (tabB_len _ _))
 refine TO.l rfl (l_call ent71 (CallT.op hk102) rfl ?_)
 clear hk102
 rintro vr O' ⟨N, rfl, mb, mc, qs, rfl, rfl, hSq, hgq⟩
 have hstq : st < qs.length := by rw [hSq.len]; exact hstN
 have hqr := hSq.row _ (List.getElem_mem hstq)
 refine TO.sub (O' := ([rowI mb mc 81 1 (bvals qs), rowI (aD z10) (p.next.length * q.next.length) 4 1 (bools (tabB (p.next.length * q.next.length) (fun _ => true))), rowI xb xc 23 1 (vals rs), rowI none 0 3 1 [], oI z3 25 [(vI p.vars), (vI 0), (.slice xb (p.next.length * q.next.length) xc), nS], oI z2 25 (pC q k2), oI z1 25 (pC p k)] ++ ((bitms 4 qs) ++ (itms 3 rs)))) (Sub.ca []) ?_
 refine TO.qm rfl (TO.q (q_ix (i := st) uT87 inf81 rfl rfl (rowO (mG 0 rfl)) hstN (by rw [List.length_map]; exact hstq)) (TO.q (q_ld uT81 rfl rfl (rowO (mG 0 rfl)) (bvalsK_at hstq)) (TO.qa rfl ?_)))
 refine TO.sub (bsub_take hstq [rowI mb mc 81 1 (bvals qs), rowI (aD z10) (p.next.length * q.next.length) 4 1 (bools (tabB (p.next.length * q.next.length) (fun _ => true))), rowI xb xc 23 1 (vals rs), rowI none 0 3 1 [], oI z3 25 [(vI p.vars), (vI 0), (.slice xb (p.next.length * q.next.length) xc), nS], oI z2 25 (pC q k2), oI z1 25 (pC p k)] (itms 3 rs)) ?_
 refine TO.sub (O' := [rowI qs[st].b qs[st].c 4 1 (bools qs[st].xs), rowI (aD z10) (p.next.length * q.next.length) 4 1 (bools (tabB (p.next.length * q.next.length) (fun _ => true))), rowI xb xc 23 1 (vals rs), rowI none 0 3 1 [], oI z3 25 [(vI p.vars), (vI 0), (.slice xb (p.next.length * q.next.length) xc), nS], oI z2 25 (pC q k2), oI z1 25 (pC p k)] ++ (itms 3 rs)) (Sub.pickR [0, 1, 1, 1, 1, 1, 1] [rowI qs[st].b qs[st].c 4 1 (bools qs[st].xs), rowI mb mc 81 1 (bvals qs), rowI (aD z10) (p.next.length * q.next.length) 4 1 (bools (tabB (p.next.length * q.next.length) (fun _ => true))), rowI xb xc 23 1 (vals rs), rowI none 0 3 1 [], oI z3 25 [(vI p.vars), (vI 0), (.slice xb (p.next.length * q.next.length) xc), nS], oI z2 25 (pC q k2), oI z1 25 (pC p k)] (itms 3 rs) rfl rfl) ?_
 refine TO.nl ?_
 refine T.reset ([rowI qs[st].b qs[st].c 4 1 (bools qs[st].xs), rowI (aD z10) (p.next.length * q.next.length) 4 1 (bools (tabB (p.next.length * q.next.length) (fun _ => true))), rowI xb xc 23 1 (vals rs), rowI none 0 3 1 [], oI z3 25 [(vI p.vars), (vI 0), (.slice xb (p.next.length * q.next.length) xc), nS], oI z2 25 (pC q k2), oI z1 25 (pC p k)] ++ (itms 3 rs)) [(0, (pV p k)), (1, (pV q k2)), (2, (.pointer (aD z1))), (3, (.pointer (aD z2))), (4, .bool false), (5, vI (p.next.length : Int)), (6, vI (q.next.length : Int)), (7, (.pointer (aD z3))), (8, vI ((s : Nat) : Int)), (12, (.slice (aD z10) (p.next.length * q.next.length) (p.next.length * q.next.length))), (13, vI ((g4 : Nat) : Int)), (14, vI ((st : Nat) : Int)), (15, (.slice qs[st].b qs[st].xs.length qs[st].c))] rfl (.of rfl) (fun ρ0 => ?_)
 refine T.s (T.rg (TO.qm rfl (TO.qm rfl (TO.q (q_ix (i := st) uT81 inf4 rfl rfl (rowO (mG 0 rfl)) (by omega) (by rw [List.length_map]; omega)) (TO.l rfl (l_st (j := st) (v := .bool true) (vs := [(.bool true)]) (cs := bools qs[st].xs) 0 inf4 rfl rfl rfl rfl rfl (by simp) rfl (by rw [List.length_map]; show st + 1 ≤ _; omega) ?_))))))
 refine TO.sub (O' := ([rowI qs[st].b qs[st].c 4 1 (bools (qs[st].xs.set st true)), rowI (aD z10) (p.next.length * q.next.length) 4 1 (bools (tabB (p.next.length * q.next.length) (fun _ => true))), rowI xb xc 23 1 (vals rs), rowI none 0 3 1 [], oI z3 25 [(vI p.vars), (vI 0), (.slice xb (p.next.length * q.next.length) xc), nS], oI z2 25 (pC q k2), oI z1 25 (pC p k)] ++ (itms 3 rs))) (by rw [show putL (bools qs[st].xs) st [(.bool true)] = bools (qs[st].xs.set st true) from (by simp [putL])]; exact Sub.of (List.Sublist.refl _)) ?_
 refine TO.nl (T.s (T.s (T.rg (TO.qa rfl (TO.nl (T.block ?_))))))
 have hFr0 := FromI.of hp hq hv est.symm hSq hstq hgq
 obtain ⟨xs, exs⟩ : ∃ z, qs[st].xs.set st true = z := ⟨_, rfl⟩
 rw [exs] at hFr0
 have hxl := hFr0.len
 refine T.sub (O' := [rowI qs[st].b qs[st].c 4 1 (bools xs), rowI (aD z10) (p.next.length * q.next.length) 4 1 (bools (tabB (p.next.length * q.next.length) (fun _ => true))), rowI xb xc 23 1 (vals rs), rowI none 0 3 1 [], oI z3 25 [(vI p.vars), (vI 0), (.slice xb (p.next.length * q.next.length) xc), nS], oI z2 25 (pC q k2), oI z1 25 (pC p k)] ++ (itms 3 rs)) (by rw [exs]; exact Sub.rf) ?_
 refine T.loop (fun (i : Nat) ρ O => ∃ (ss : List Bool), O = ([rowI qs[st].b qs[st].c 4 1 (bools xs), rowI (aD z10) (p.next.length * q.next.length) 4 1 (bools ss), rowI xb xc 23 1 (vals rs), rowI none 0 3 1 [], oI z3 25 [(vI p.vars), (vI 0), (.slice xb (p.next.length * q.next.length) xc), nS], oI z2 25 (pC q k2), oI z1 25 (pC p k)] ++ (itms 3 rs)) ∧ i ≤ 17 ∧ ss.length = p.next.length * q.next.length ∧ DifI p q i 0 ∧ Heads [(0, (pV p k)), (1, (pV q k2)), (2, (.pointer (aD z1))), (3, (.pointer (aD z2))), (5, vI (p.next.length : Int)), (6, vI (q.next.length : Int)), (7, (.pointer (aD z3))), (12, (.slice (aD z10) (p.next.length * q.next.length) (p.next.length * q.next.length))), (14, vI ((st : Nat) : Int)), (15, (.slice qs[st].b qs[st].xs.length qs[st].c)), (16, vI ((i : Nat) : Int))] ρ) (fun i => 17 - i) 0 ?_ ?_
 ·exact ⟨_, rfl, Nat.zero_le _, tabB_len _ _, DifI.start, (.of rfl)⟩
 rintro i ρ O ⟨ss, rfl, hi, hss, hDi, hH⟩
 obtain ⟨ρ0, rfl⟩ := hH.elim
 clear hH
 refine T.s (T.s (T.rg (TO.qm rfl (TO.q (q_leq rfl rfl) (TO.nl (T.condP rfl (fun hc => ?_) (fun hc => ?_)))))))
 ·have hlt110 : i ≤ 16 := by omega
  refine T.skip (T.s (T.block (T.s (T.rg (TO.qm rfl (TO.q (q_remN (a := i) (b := 2) rfl rfl (by omega)) (TO.q (q_subN (a := 1) (b := (i % 2)) rfl rfl (by omega) (by omega)) (TO.qa rfl (TO.nl (T.block ?_))))))))))
  refine T.loop (fun (j : Nat) ρ O => ∃ (ss2 : List Bool), O = ([rowI qs[st].b qs[st].c 4 1 (bools xs), rowI (aD z10) (p.next.length * q.next.length) 4 1 (bools ss2), rowI xb xc 23 1 (vals rs), rowI none 0 3 1 [], oI z3 25 [(vI p.vars), (vI 0), (.slice xb (p.next.length * q.next.length) xc), nS], oI z2 25 (pC q k2), oI z1 25 (pC p k)] ++ (itms 3 rs)) ∧ j ≤ 18 ∧ i % 2 ≠ j % 2 ∧ ss2.length = p.next.length * q.next.length ∧ DifI p q i j ∧ Heads [(0, (pV p k)), (1, (pV q k2)), (2, (.pointer (aD z1))), (3, (.pointer (aD z2))), (5, vI (p.next.length : Int)), (6, vI (q.next.length : Int)), (7, (.pointer (aD z3))), (12, (.slice (aD z10) (p.next.length * q.next.length) (p.next.length * q.next.length))), (14, vI ((st : Nat) : Int)), (15, (.slice qs[st].b qs[st].xs.length qs[st].c)), (16, vI ((i : Nat) : Int)), (17, vI ((j : Nat) : Int))] ρ) (fun j => 18 - j) (1 - i % 2) ?_ ?_
  ·exact ⟨ss, rfl, by omega, by omega, hss, hDi.first, (.of rfl)⟩
  rintro j ρ O ⟨ss2, rfl, hj, hne, hss2, hDj, hH⟩
  obtain ⟨ρ0, rfl⟩ := hH.elim
  clear hH
  refine T.s (T.s (T.rg (TO.qm rfl (TO.q (q_leq rfl rfl) (TO.nl (T.condP rfl (fun hc => ?_) (fun hc => ?_)))))))
  ·have hlt117 : j ≤ 16 := by omega
   refine T.skip (T.s (T.block (T.s (T.s (T.rg (TO.qa rfl (TO.nl (T.block ?_))))))))
   refine T.loop (fun (v : Nat) ρ O => ∃ (ss3 : List Bool), O = ([rowI qs[st].b qs[st].c 4 1 (bools xs), rowI (aD z10) (p.next.length * q.next.length) 4 1 (bools ss3), rowI xb xc 23 1 (vals rs), rowI none 0 3 1 [], oI z3 25 [(vI p.vars), (vI 0), (.slice xb (p.next.length * q.next.length) xc), nS], oI z2 25 (pC q k2), oI z1 25 (pC p k)] ++ (itms 3 rs)) ∧ v ≤ p.next.length * q.next.length ∧ SetI p q i j xs ss3 v ∧ Heads [(0, (pV p k)), (1, (pV q k2)), (2, (.pointer (aD z1))), (3, (.pointer (aD z2))), (5, vI (p.next.length : Int)), (6, vI (q.next.length : Int)), (7, (.pointer (aD z3))), (12, (.slice (aD z10) (p.next.length * q.next.length) (p.next.length * q.next.length))), (14, vI ((st : Nat) : Int)), (15, (.slice qs[st].b qs[st].xs.length qs[st].c)), (16, vI ((i : Nat) : Int)), (17, vI ((j : Nat) : Int)), (18, vI ((v : Nat) : Int))] ρ) (fun v => p.next.length * q.next.length - v) 0 ?_ ?_
   ·exact ⟨ss2, rfl, Nat.zero_le _, SetI.start hss2, (.of rfl)⟩
   rintro v ρ O ⟨ss3, rfl, hv9, hSi, hH⟩
   obtain ⟨ρ0, rfl⟩ := hH.elim
   clear hH
   refine T.s (T.s (T.rg (TO.qm rfl (TO.qm rfl (TO.qm rfl (TO.q (q_mulN (a := p.next.length) (b := q.next.length) rfl rfl (by omega)) (TO.q (q_lss rfl rfl) (TO.nl (T.condP rfl (fun hc => ?_) (fun hc => ?_))))))))))
   ·have hlt124 : v < p.next.length * q.next.length := by omega
    have hvN : v < p.next.length * q.next.length := by omega
    obtain ⟨hvd, hvm⟩ := pr_split hvN
    have hvx : v < xs.length := by omega
    have hvs : v < ss3.length := by have := hSi.len; omega
    refine T.skip (T.s (T.block ?_))
    refine T.draws _ [(0, 0), (1, 0), (2, 0), (3, 0), (4, 0), (5, 0), (6, 0), (7, 0), (8, 0), (9, 0), (10, 0), (11, 0), (12, 0), (13, 0), (14, 0), (15, 0), (16, 0), (17, 0), (18, 0), (19, 0), (20, 0), (21, 0), (22, 0), (23, 0), (24, 0), (25, 0), (26, 0), (27, 0), (28, 0), (29, 2)] mixed (drawF_ok (by kernel_rfl)) (Sub.of (List.Sublist.refl _)) (fun _ _ _ h => h) ?_
    refine DO.q rfl (q_move rfl) (DO.q rfl (q_move rfl) (DO.q rfl (q_move rfl) (DO.q rfl (q_move rfl) (DO.q rfl (q_ix (i := v) uT81 inf4 rfl rfl (rowO (mG 0 rfl)) (by omega) (by rw [List.length_map]; exact hvx)) ?_))))
    by_cases h132 : xs.getD v false = true
    ·refine DO.q rfl (QT.toB (q_ld uT4 rfl rfl (rowO (mG 0 rfl)) (bools_atD hvx)) (h132)) ?_
     refine DO.q rfl (q_move rfl) ?_
     refine DO.guarded rfl rfl rfl (q_fa uT25 rfl inf23 rfl rfl) ?_
     refine DO.guarded rfl rfl rfl (q_lb 6 uT23 rfl rfl rfl rfl) ?_
     refine DO.guarded rfl rfl rfl (q_move rfl) ?_
     refine DO.guarded rfl rfl rfl (q_move rfl) ?_
     refine DO.guarded rfl rfl rfl (q_quoN (a := v) (b := q.next.length) rfl rfl (by omega) (by omega)) ?_
     refine DO.guarded rfl rfl rfl (q_ix (i := (v / q.next.length)) uT23 inf3 rfl rfl (Sl.o h.prio) (by rw [hpl]; exact hvd) (by rw [List.length_map, hpl]; exact hvd)) ?_
     refine DO.guarded rfl rfl rfl (q_ld uT3 rfl rfl (Sl.o h.prio) (by rw [ints, List.getElem?_map, hp.prAt hvd]; rfl)) ?_
     refine DO.guarded rfl rfl rfl (q_move rfl) ?_
     by_cases h142 : ((prN p (v / q.next.length) : Nat) : Int) ≤ ((i : Nat) : Int)
     ·refine DO.guarded rfl rfl rfl (QT.toB (q_leq rfl rfl) (decide_eq_true h142)) ?_
      refine DO.q rfl (q_pick1 rfl rfl) (DO.q rfl (q_move rfl) ?_)
      refine DO.guarded rfl rfl rfl (q_fa uT25 rfl inf23 rfl rfl) ?_
      refine DO.guarded rfl rfl rfl (q_lb 5 uT23 rfl rfl rfl rfl) ?_
      refine DO.guarded rfl rfl rfl (q_move rfl) ?_
      refine DO.guarded rfl rfl rfl (q_move rfl) ?_
      refine DO.guarded rfl rfl rfl (q_remN (a := v) (b := q.next.length) rfl rfl (by omega)) ?_
      refine DO.guarded rfl rfl rfl (q_ix (i := (v % q.next.length)) uT23 inf3 rfl rfl (Sl.o h2.prio) (by rw [hql]; exact hvm) (by rw [List.length_map, hql]; exact hvm)) ?_
      refine DO.guarded rfl rfl rfl (q_ld uT3 rfl rfl (Sl.o h2.prio) (by rw [ints, List.getElem?_map, hq.prAt hvm]; rfl)) ?_
      refine DO.guarded rfl rfl rfl (q_move rfl) ?_
      refine DO.guarded rfl rfl rfl (q_leq rfl rfl) ?_
      refine DO.q rfl (q_pick1 rfl rfl) (DO.q rfl (q_ix (i := v) uT81 inf4 rfl rfl (rowO (mG 1 rfl)) (by omega) (by rw [List.length_map]; exact hvs)) ?_)
      refine DO.last rfl rfl (l_st (j := v) (v := .bool (decide (((prN q (v % q.next.length) : Nat) : Int) ≤ ((j : Nat) : Int)))) (vs := [(.bool (decide (((prN q (v % q.next.length) : Nat) : Int) ≤ ((j : Nat) : Int))))]) (cs := bools ss3) 1 inf4 rfl rfl rfl rfl rfl (by simp) rfl (by rw [List.length_map]; exact hvs) ?_)
      refine DO.sub (O' := ([rowI qs[st].b qs[st].c 4 1 (bools xs), rowI (aD z10) (p.next.length * q.next.length) 4 1 (bools (ss3.set v (decide (((prN q (v % q.next.length) : Nat) : Int) ≤ ((j : Nat) : Int))))), rowI xb xc 23 1 (vals rs), rowI none 0 3 1 [], oI z3 25 [(vI p.vars), (vI 0), (.slice xb (p.next.length * q.next.length) xc), nS], oI z2 25 (pC q k2), oI z1 25 (pC p k)] ++ (itms 3 rs))) (by rw [show putL (bools ss3) v [(.bool (decide (((prN q (v % q.next.length) : Nat) : Int) ≤ ((j : Nat) : Int))))] = bools (ss3.set v (decide (((prN q (v % q.next.length) : Nat) : Int) ≤ ((j : Nat) : Int)))) from (by simp [putL])]; exact Sub.of (List.Sublist.refl _)) ?_
      refine DO.done ?_
      refine T.rg (TO.qm rfl (TO.q (q_addN (a := v) (b := 1) rfl rfl (by omega)) (TO.qa rfl (TO.nl ?_))))
      exact ⟨v + 1, by omega, ss3.set v (decide (((prN q (v % q.next.length) : Nat) : Int) ≤ ((j : Nat) : Int))), rfl, by omega, hSi.step ⟨fun h9 => ⟨h132, (by unfold Lx.f1; omega), (by have h8 := of_decide_eq_true h9; unfold Lx.f2; omega)⟩, fun h9 => decide_eq_true (by have h8 := h9.2.2; unfold Lx.f2 at h8; omega)⟩, (.of rfl)⟩
     refine DO.guarded rfl rfl rfl (QT.toB (q_leq rfl rfl) (decide_eq_false h142)) ?_
     refine DO.q rfl (q_pick1 rfl rfl) (DO.q rfl (q_move rfl) (DO.passed rfl rfl rfl (DO.passed rfl rfl rfl (DO.passed rfl rfl rfl (DO.passed rfl rfl rfl (DO.passed rfl rfl rfl (DO.passed rfl rfl rfl (DO.passed rfl rfl rfl ?_))))))))
     refine DO.passed rfl rfl rfl (DO.passed rfl rfl rfl (DO.q rfl (q_pick0 rfl rfl) (DO.q rfl (q_ix (i := v) uT81 inf4 rfl rfl (rowO (mG 1 rfl)) (by omega) (by rw [List.length_map]; exact hvs)) ?_)))
     refine DO.last rfl rfl (l_st (j := v) (v := .bool false) (vs := [(.bool false)]) (cs := bools ss3) 1 inf4 rfl rfl rfl rfl rfl (by simp) rfl (by rw [List.length_map]; exact hvs) ?_)
     refine DO.sub (O' := ([rowI qs[st].b qs[st].c 4 1 (bools xs), rowI (aD z10) (p.next.length * q.next.length) 4 1 (bools (ss3.set v false)), rowI xb xc 23 1 (vals rs), rowI none 0 3 1 [], oI z3 25 [(vI p.vars), (vI 0), (.slice xb (p.next.length * q.next.length) xc), nS], oI z2 25 (pC q k2), oI z1 25 (pC p k)] ++ (itms 3 rs))) (by rw [show putL (bools ss3) v [(.bool false)] = bools (ss3.set v false) from (by simp [putL])]; exact Sub.of (List.Sublist.refl _)) ?_
     refine DO.done ?_
     refine T.rg (TO.qm rfl (TO.q (q_addN (a := v) (b := 1) rfl rfl (by omega)) (TO.qa rfl (TO.nl ?_))))
     exact ⟨v + 1, by omega, ss3.set v false, rfl, by omega, hSi.step ⟨fun h9 => (by cases h9), fun h9 => (by first | exact absurd h9.1 h132 | exact absurd h9.2.1 (by unfold Lx.f1; omega))⟩, (.of rfl)⟩
    refine DO.q rfl (QT.toB (q_ld uT4 rfl rfl (rowO (mG 0 rfl)) (bools_atD hvx)) (Bool.eq_false_iff.2 h132)) (DO.q rfl (q_move rfl) (DO.passed rfl rfl rfl (DO.passed rfl rfl rfl (DO.passed rfl rfl rfl (DO.passed rfl rfl rfl (DO.passed rfl rfl rfl (DO.passed rfl rfl rfl (DO.passed rfl rfl rfl ?_))))))))
    refine DO.passed rfl rfl rfl (DO.passed rfl rfl rfl (DO.q rfl (q_pick0 rfl rfl) (DO.q rfl (q_move rfl) (DO.passed rfl rfl rfl (DO.passed rfl rfl rfl (DO.passed rfl rfl rfl (DO.passed rfl rfl rfl (DO.passed rfl rfl rfl ?_))))))))
    refine DO.passed rfl rfl rfl (DO.passed rfl rfl rfl (DO.passed rfl rfl rfl (DO.passed rfl rfl rfl (DO.q rfl (q_pick0 rfl rfl) (DO.q rfl (q_ix (i := v) uT81 inf4 rfl rfl (rowO (mG 1 rfl)) (by omega) (by rw [List.length_map]; exact hvs)) ?_)))))
    refine DO.last rfl rfl (l_st (j := v) (v := .bool false) (vs := [(.bool false)]) (cs := bools ss3) 1 inf4 rfl rfl rfl rfl rfl (by simp) rfl (by rw [List.length_map]; exact hvs) ?_)
    refine DO.sub (O' := ([rowI qs[st].b qs[st].c 4 1 (bools xs), rowI (aD z10) (p.next.length * q.next.length) 4 1 (bools (ss3.set v false)), rowI xb xc 23 1 (vals rs), rowI none 0 3 1 [], oI z3 25 [(vI p.vars), (vI 0), (.slice xb (p.next.length * q.next.length) xc), nS], oI z2 25 (pC q k2), oI z1 25 (pC p k)] ++ (itms 3 rs))) (by rw [show putL (bools ss3) v [(.bool false)] = bools (ss3.set v false) from (by simp [putL])]; exact Sub.of (List.Sublist.refl _)) ?_
    refine DO.done ?_
    refine T.rg (TO.qm rfl (TO.q (q_addN (a := v) (b := 1) rfl rfl (by omega)) (TO.qa rfl (TO.nl ?_))))
    exact ⟨v + 1, by omega, ss3.set v false, rfl, by omega, hSi.step ⟨fun h9 => (by cases h9), fun h9 => (by first | exact absurd h9.1 h132 | exact absurd h9.2.1 (by unfold Lx.f1; omega))⟩, (.of rfl)⟩
   have hge124 : ¬ v < p.next.length * q.next.length := by omega
   refine T.exit ?_
   refine T.s (T.s (T.rg (TO.q (q_fa uT25 rfl inf23 rfl rfl) (TO.q (q_lb 6 uT23 rfl rfl rfl rfl) (TO.qm rfl ?_)))))
   by_cases h159 : ((i : Nat) : Int) ∈ p.prio
   ·have hk159 := fun (w1 : World) (hI : Inv w ([rowI qs[st].b qs[st].c 4 1 (bools xs), rowI (aD z10) (p.next.length * q.next.length) 4 1 (bools ss3), rowI xb xc 23 1 (vals rs), rowI none 0 3 1 [], oI z3 25 [(vI p.vars), (vI 0), (.slice xb (p.next.length * q.next.length) xc), nS], oI z2 25 (pC q k2), oI z1 25 (pC p k)] ++ (itms 3 rs)) w1) => (haveI := tbz hI; hasR w1 k.fb k.fc p.prio ((i : Nat) : Int) (hI.sl h.prio) (by omega))
    refine TO.l rfl (l_call ent72 (CallT.op hk159) rfl ?_)
    clear hk159
    rintro vr O' ⟨N, rfl, rfl, rfl⟩
    rw [decide_eq_true h159]
    refine TO.q (q_not rfl) (TO.qm rfl (TO.gq rfl rfl (q_fa uT25 rfl inf23 rfl rfl) (TO.gq rfl rfl (q_lb 5 uT23 rfl rfl rfl rfl) (TO.gq rfl rfl (q_move rfl) ?_))))
    by_cases h165 : ((j : Nat) : Int) ∈ q.prio
    ·have hk165 := fun (w1 : World) (hI : Inv w ([rowI qs[st].b qs[st].c 4 1 (bools xs), rowI (aD z10) (p.next.length * q.next.length) 4 1 (bools ss3), rowI xb xc 23 1 (vals rs), rowI none 0 3 1 [], oI z3 25 [(vI p.vars), (vI 0), (.slice xb (p.next.length * q.next.length) xc), nS], oI z2 25 (pC q k2), oI z1 25 (pC p k)] ++ (itms 3 rs)) w1) => (haveI := tbz hI; hasR w1 k2.fb k2.fc q.prio ((j : Nat) : Int) (hI.sl h2.prio) (by omega))
     refine TO.gd rfl rfl rfl (l_call ent72 (CallT.op hk165) rfl ?_)
     clear hk165
     rintro vr O' ⟨N, rfl, rfl, rfl⟩
     rw [decide_eq_true h165]
     refine TO.gq rfl rfl (q_not rfl) (TO.q (q_pick0 rfl rfl) (TO.nl (T.cond0 rfl (T.skip (T.s (T.rg (TO.q (q_la 4 uT25 rfl inf25 rfl rfl rfl) (TO.qm rfl ?_))))))))
     have hk170 := fun (w1 : World) (hI : Inv w ([rowI qs[st].b qs[st].c 4 1 (bools xs), rowI (aD z10) (p.next.length * q.next.length) 4 1 (bools ss3), rowI xb xc 23 1 (vals rs), rowI none 0 3 1 [], oI z3 25 [(vI p.vars), (vI 0), (.slice xb (p.next.length * q.next.length) xc), nS], oI z2 25 (pC q k2), oI z1 25 (pC p k)] ++ (itms 3 rs)) w1) => (haveI := tbz hI; reachP w1 p q hp hq hv hN xb xc rs (hI.atRows (mG 2 rfl) (mG 3 rfl) (fun q9 h9 => List.mem_append_right _ (List.mem_map_of_mem h9)) hfull) (aD z10) (p.next.length * q.next.length) (ss3) (hI.slOf (cs := bools (ss3)) (mG 1 rfl)) hSi.len)
     refine TO.l rfl (l_call ent71 (CallT.op hk170) rfl ?_)
     clear hk170
     rintro vr O' ⟨N, rfl, rb, rc, ms, rfl, rfl, hSm, hgm⟩
     refine TO.sub (O' := ([rowI rb rc 81 1 (bvals ms), rowI qs[st].b qs[st].c 4 1 (bools xs), rowI (aD z10) (p.next.length * q.next.length) 4 1 (bools ss3), rowI xb xc 23 1 (vals rs), rowI none 0 3 1 [], oI z3 25 [(vI p.vars), (vI 0), (.slice xb (p.next.length * q.next.length) xc), nS], oI z2 25 (pC q k2), oI z1 25 (pC p k)] ++ ((bitms 4 ms) ++ (itms 3 rs)))) (Sub.ca []) ?_
     refine TO.qa rfl (TO.nl ?_)
     refine T.reset ([rowI rb rc 81 1 (bvals ms), rowI qs[st].b qs[st].c 4 1 (bools xs), rowI (aD z10) (p.next.length * q.next.length) 4 1 (bools ss3), rowI xb xc 23 1 (vals rs), rowI none 0 3 1 [], oI z3 25 [(vI p.vars), (vI 0), (.slice xb (p.next.length * q.next.length) xc), nS], oI z2 25 (pC q k2), oI z1 25 (pC p k)] ++ ((bitms 4 ms) ++ (itms 3 rs))) [(0, (pV p k)), (1, (pV q k2)), (2, (.pointer (aD z1))), (3, (.pointer (aD z2))), (5, vI (p.next.length : Int)), (6, vI (q.next.length : Int)), (7, (.pointer (aD z3))), (12, (.slice (aD z10) (p.next.length * q.next.length) (p.next.length * q.next.length))), (14, vI ((st : Nat) : Int)), (15, (.slice qs[st].b qs[st].xs.length qs[st].c)), (16, vI ((i : Nat) : Int)), (17, vI ((j : Nat) : Int)), (18, vI ((v : Nat) : Int)), (19, (.slice rb (p.next.length * q.next.length) rc))] rfl (.of rfl) (fun ρ0 => ?_)
     refine T.s (T.rg (TO.qa rfl (TO.nl (T.block ?_))))
     have hSin := hSi.ins hp hq hv (by omega) hFr0
     have hiff := has_iff hp hq hv hSin hgm
     have hsl3 := hSi.len
     have hml := hSm.len
     refine T.loop (fun (a : Nat) ρ O => O = ([rowI rb rc 81 1 (bvals ms), rowI qs[st].b qs[st].c 4 1 (bools xs), rowI (aD z10) (p.next.length * q.next.length) 4 1 (bools ss3), rowI xb xc 23 1 (vals rs), rowI none 0 3 1 [], oI z3 25 [(vI p.vars), (vI 0), (.slice xb (p.next.length * q.next.length) xc), nS], oI z2 25 (pC q k2), oI z1 25 (pC p k)] ++ ((bitms 4 ms) ++ (itms 3 rs))) ∧ a ≤ p.next.length * q.next.length ∧ VuI p q i j ss3 ms a 0 ∧ Heads [(0, (pV p k)), (1, (pV q k2)), (2, (.pointer (aD z1))), (3, (.pointer (aD z2))), (5, vI (p.next.length : Int)), (6, vI (q.next.length : Int)), (7, (.pointer (aD z3))), (12, (.slice (aD z10) (p.next.length * q.next.length) (p.next.length * q.next.length))), (14, vI ((st : Nat) : Int)), (15, (.slice qs[st].b qs[st].xs.length qs[st].c)), (16, vI ((i : Nat) : Int)), (17, vI ((j : Nat) : Int)), (18, vI ((v : Nat) : Int)), (19, (.slice rb (p.next.length * q.next.length) rc)), (20, vI ((a : Nat) : Int))] ρ) (fun a => p.next.length * q.next.length - a) 0 ?_ ?_
     ·exact ⟨rfl, Nat.zero_le _, VuI.start, (.of rfl)⟩
     rintro a ρ O ⟨rfl, ha9, hVa, hH⟩
     obtain ⟨ρ0, rfl⟩ := hH.elim
     clear hH
     refine T.s (T.s (T.rg (TO.qm rfl (TO.qm rfl (TO.qm rfl (TO.q (q_mulN (a := p.next.length) (b := q.next.length) rfl rfl (by omega)) (TO.q (q_lss rfl rfl) (TO.nl (T.condP rfl (fun hc => ?_) (fun hc => ?_))))))))))
     ·have hlt175 : a < p.next.length * q.next.length := by omega
      have haN : a < p.next.length * q.next.length := by omega
      obtain ⟨had, ham⟩ := pr_split haN
      have has : a < ss3.length := by omega
      have hma : a < ms.length := by omega
      have hmal := hSm.row _ (List.getElem_mem hma)
      refine T.skip (T.s (T.block (T.s (T.rg (TO.qa rfl (TO.nl (T.block ?_)))))))
      refine T.loop (fun (u : Nat) ρ O => O = ([rowI rb rc 81 1 (bvals ms), rowI qs[st].b qs[st].c 4 1 (bools xs), rowI (aD z10) (p.next.length * q.next.length) 4 1 (bools ss3), rowI xb xc 23 1 (vals rs), rowI none 0 3 1 [], oI z3 25 [(vI p.vars), (vI 0), (.slice xb (p.next.length * q.next.length) xc), nS], oI z2 25 (pC q k2), oI z1 25 (pC p k)] ++ ((bitms 4 ms) ++ (itms 3 rs))) ∧ u ≤ p.next.length * q.next.length ∧ VuI p q i j ss3 ms a u ∧ Heads [(0, (pV p k)), (1, (pV q k2)), (2, (.pointer (aD z1))), (3, (.pointer (aD z2))), (5, vI (p.next.length : Int)), (6, vI (q.next.length : Int)), (7, (.pointer (aD z3))), (12, (.slice (aD z10) (p.next.length * q.next.length) (p.next.length * q.next.length))), (14, vI ((st : Nat) : Int)), (15, (.slice qs[st].b qs[st].xs.length qs[st].c)), (16, vI ((i : Nat) : Int)), (17, vI ((j : Nat) : Int)), (18, vI ((v : Nat) : Int)), (19, (.slice rb (p.next.length * q.next.length) rc)), (20, vI ((a : Nat) : Int)), (21, vI ((u : Nat) : Int))] ρ) (fun u => p.next.length * q.next.length - u) 0 ?_ ?_
      ·exact ⟨rfl, Nat.zero_le _, hVa, (.of rfl)⟩
      rintro u ρ O ⟨rfl, hu9, hVu, hH⟩
      obtain ⟨ρ0, rfl⟩ := hH.elim
      clear hH
      refine T.s (T.s ?_)
      refine T.draws _ [(0, 0), (1, 0), (2, 0), (3, 0), (4, 0), (5, 0), (6, 0), (7, 0), (8, 0), (9, 0), (10, 0), (11, 0), (12, 0), (13, 0), (14, 0), (15, 0), (16, 0), (17, 0), (18, 0), (19, 0), (20, 0), (21, 0)] mixed (drawF_ok (by kernel_rfl)) (Sub.of (List.Sublist.refl _)) (fun _ _ _ h => h) ?_
      refine DO.q rfl (q_move rfl) (DO.q rfl (q_move rfl) (DO.q rfl (q_move rfl) (DO.q rfl (q_mulN (a := p.next.length) (b := q.next.length) rfl rfl (by omega)) ?_)))
      by_cases h182 : ((u : Nat) : Int) < ((p.next.length * q.next.length : Nat) : Int)
      ·refine DO.q rfl (QT.toB (q_lss rfl rfl) (decide_eq_true h182)) ?_
       refine DO.q rfl (q_move rfl) ?_
       refine DO.guarded rfl rfl rfl (q_move rfl) ?_
       refine DO.guarded rfl rfl rfl (q_move rfl) ?_
       refine DO.guarded rfl rfl rfl (q_ix (i := a) uT81 inf4 rfl rfl (rowO (mG 2 rfl)) (by omega) (by rw [List.length_map]; exact has)) ?_
       by_cases h187 : ss3.getD a false = true
       ·refine DO.guarded rfl rfl rfl (QT.toB (q_ld uT4 rfl rfl (rowO (mG 2 rfl)) (bools_atD has)) (h187)) ?_
        refine DO.q rfl (q_pick1 rfl rfl) (DO.q rfl (q_move rfl) ?_)
        refine DO.guarded rfl rfl rfl (q_fa uT25 rfl inf23 rfl rfl) ?_
        refine DO.guarded rfl rfl rfl (q_lb 7 uT23 rfl rfl rfl rfl) ?_
        refine DO.guarded rfl rfl rfl (q_move rfl) ?_
        refine DO.guarded rfl rfl rfl (q_move rfl) ?_
        refine DO.guarded rfl rfl rfl (q_quoN (a := a) (b := q.next.length) rfl rfl (by omega) (by omega)) ?_
        refine DO.guarded rfl rfl rfl (q_ix (i := (a / q.next.length)) uT23 inf3 rfl rfl (Sl.o h.prio) (by rw [hpl]; exact had) (by rw [List.length_map, hpl]; exact had)) ?_
        refine DO.guarded rfl rfl rfl (q_ld uT3 rfl rfl (Sl.o h.prio) (by rw [ints, List.getElem?_map, hp.prAt had]; rfl)) ?_
        refine DO.guarded rfl rfl rfl (q_move rfl) ?_
        refine DO.guarded rfl rfl rfl (q_eql rfl rfl) ?_
        refine DO.q rfl (q_pick1 rfl rfl) ?_
        refine DO.done ?_
        refine T.condP rfl (fun hc => ?_) (fun hc => ?_)
        ·have hlt199 : prN p (a / q.next.length) = i := by omega
         have huN : u < p.next.length * q.next.length := by omega
         have hf1 : Lx.f1 p q a = i := by unfold Lx.f1; omega
         obtain ⟨hud, hum⟩ := pr_split huN
         have hus : u < ss3.length := by omega
         have hmu : u < ms.length := by omega
         have hmul := hSm.row _ (List.getElem_mem hmu)
         have hmau : u < ms[a].xs.length := by omega
         have hmua : a < ms[u].xs.length := by omega
         refine T.skip (T.s (T.block (T.s ?_)))
         refine T.draws _ [(0, 0), (1, 0), (2, 0), (3, 0), (4, 0), (5, 0), (6, 0), (7, 0), (8, 0), (9, 0), (10, 0), (11, 0), (12, 0), (13, 0), (14, 0), (15, 0), (16, 0), (17, 0), (18, 0), (19, 0), (20, 0), (21, 0), (22, 0), (23, 0), (24, 0), (25, 0), (26, 0), (27, 0), (28, 0), (29, 0), (30, 0), (31, 0), (32, 0)] mixed (drawF_ok (by kernel_rfl)) (Sub.of (List.Sublist.refl _)) (fun _ _ _ h => h) ?_
         refine DO.q rfl (q_move rfl) (DO.q rfl (q_move rfl) (DO.q rfl (q_ix (i := u) uT81 inf4 rfl rfl (rowO (mG 2 rfl)) (by omega) (by rw [List.length_map]; exact hus)) ?_))
         by_cases h205 : ss3.getD u false = true
         ·refine DO.q rfl (QT.toB (q_ld uT4 rfl rfl (rowO (mG 2 rfl)) (bools_atD hus)) (h205)) ?_
          refine DO.q rfl (q_move rfl) ?_
          refine DO.guarded rfl rfl rfl (q_fa uT25 rfl inf23 rfl rfl) ?_
          refine DO.guarded rfl rfl rfl (q_lb 6 uT23 rfl rfl rfl rfl) ?_
          refine DO.guarded rfl rfl rfl (q_move rfl) ?_
          refine DO.guarded rfl rfl rfl (q_move rfl) ?_
          refine DO.guarded rfl rfl rfl (q_remN (a := u) (b := q.next.length) rfl rfl (by omega)) ?_
          refine DO.guarded rfl rfl rfl (q_ix (i := (u % q.next.length)) uT23 inf3 rfl rfl (Sl.o h2.prio) (by rw [hql]; exact hum) (by rw [List.length_map, hql]; exact hum)) ?_
          refine DO.guarded rfl rfl rfl (q_ld uT3 rfl rfl (Sl.o h2.prio) (by rw [ints, List.getElem?_map, hq.prAt hum]; rfl)) ?_
          refine DO.guarded rfl rfl rfl (q_move rfl) ?_
          by_cases h215 : ((prN q (u % q.next.length) : Nat) : Int) = ((j : Nat) : Int)
          ·refine DO.guarded rfl rfl rfl (QT.toB (q_eql rfl rfl) (decide_eq_true h215)) ?_
           refine DO.q rfl (q_pick1 rfl rfl) (DO.q rfl (q_move rfl) ?_)
           refine DO.guarded rfl rfl rfl (q_move rfl) ?_
           refine DO.guarded rfl rfl rfl (q_move rfl) ?_
           refine DO.guarded rfl rfl rfl (q_ix (i := a) uT87 inf81 rfl rfl (rowO (mG 0 rfl)) (by omega) (by rw [List.length_map]; exact hma)) ?_
           refine DO.guarded rfl rfl rfl (q_ld uT81 rfl rfl (rowO (mG 0 rfl)) (bvalsK_at hma)) ?_
           refine DO.guarded rfl rfl rfl (q_move rfl) ?_
           refine DO.guarded rfl rfl rfl (q_ix (i := u) uT81 inf4 rfl rfl (fun w9 hI9 => hI9.slOf (List.mem_append_right _ (List.mem_append_left _ (List.mem_map.2 ⟨ms[a], List.getElem_mem hma, rfl⟩)))) hmau (by rw [List.length_map]; exact hmau)) ?_
           by_cases h224 : gB ms a u = true
           ·refine DO.guarded rfl rfl rfl (QT.toB (q_ld uT4 rfl rfl (fun w9 hI9 => hI9.slOf (List.mem_append_right _ (List.mem_append_left _ (List.mem_map.2 ⟨ms[a], List.getElem_mem hma, rfl⟩)))) (bools_gB hma hmau)) (h224)) ?_
            refine DO.q rfl (q_pick1 rfl rfl) (DO.q rfl (q_move rfl) ?_)
            refine DO.guarded rfl rfl rfl (q_move rfl) ?_
            refine DO.guarded rfl rfl rfl (q_move rfl) ?_
            refine DO.guarded rfl rfl rfl (q_ix (i := u) uT87 inf81 rfl rfl (rowO (mG 0 rfl)) (by omega) (by rw [List.length_map]; exact hmu)) ?_
            refine DO.guarded rfl rfl rfl (q_ld uT81 rfl rfl (rowO (mG 0 rfl)) (bvalsK_at hmu)) ?_
            refine DO.guarded rfl rfl rfl (q_move rfl) ?_
            refine DO.guarded rfl rfl rfl (q_ix (i := a) uT81 inf4 rfl rfl (fun w9 hI9 => hI9.slOf (List.mem_append_right _ (List.mem_append_left _ (List.mem_map.2 ⟨ms[u], List.getElem_mem hmu, rfl⟩)))) hmua (by rw [List.length_map]; exact hmua)) ?_
            refine DO.guarded rfl rfl rfl (q_ld uT4 rfl rfl (fun w9 hI9 => hI9.slOf (List.mem_append_right _ (List.mem_append_left _ (List.mem_map.2 ⟨ms[u], List.getElem_mem hmu, rfl⟩)))) (bools_gB hmu hmua)) ?_
            refine DO.q rfl (q_pick1 rfl rfl) ?_
            refine DO.done ?_
            refine T.condP (p := gB ms u a = true) (congrArg Value.bool (by cases gB ms u a <;> rfl)) (fun hc => ?_) (fun hc => ?_)
            ·have hf2 : Lx.f2 q u = j := by unfold Lx.f2; omega
             refine T.s (T.rg (TO.qa rfl (TO.nl (T.ret (Res.drop ?_)))))
             refine Res.one (.bool true) Tryd.results34 rfl ?_
             exact ⟨[], Sub.of (List.nil_sublist _), true, rfl, ⟨fun _ => ⟨i, j, hne, by omega, by omega, h159, h165, hiff.2 ⟨a, u, haN, huN, h187, hf1, h205, hf2, h224, hc⟩⟩, fun _ => rfl⟩, rfl⟩
            have hc234 := hc
            refine T.skip (T.rg (TO.qm rfl (TO.q (q_addN (a := u) (b := 1) rfl rfl (by omega)) (TO.qa rfl (TO.nl ?_)))))
            exact ⟨u + 1, by omega, rfl, by omega, hVu.step (by first | exact fun g => h205 g.2.2.1 | exact fun g => absurd g.2.2.2.1 (by unfold Lx.f2; omega) | exact fun g => h224 g.2.2.2.2.1 | exact fun g => hc234 g.2.2.2.2.2), (.of rfl)⟩
           refine DO.guarded rfl rfl rfl (QT.toB (q_ld uT4 rfl rfl (fun w9 hI9 => hI9.slOf (List.mem_append_right _ (List.mem_append_left _ (List.mem_map.2 ⟨ms[a], List.getElem_mem hma, rfl⟩)))) (bools_gB hma hmau)) (Bool.eq_false_iff.2 h224)) ?_
           refine DO.q rfl (q_pick1 rfl rfl) (DO.q rfl (q_move rfl) (DO.passed rfl rfl rfl (DO.passed rfl rfl rfl (DO.passed rfl rfl rfl (DO.passed rfl rfl rfl (DO.passed rfl rfl rfl (DO.passed rfl rfl rfl (DO.passed rfl rfl rfl ?_))))))))
           refine DO.q rfl (q_pick0 rfl rfl) ?_
           refine DO.done ?_
           refine T.cond0 rfl (T.skip (T.rg (TO.qm rfl (TO.q (q_addN (a := u) (b := 1) rfl rfl (by omega)) (TO.qa rfl (TO.nl ?_))))))
           exact ⟨u + 1, by omega, rfl, by omega, hVu.step (by first | exact fun g => h205 g.2.2.1 | exact fun g => absurd g.2.2.2.1 (by unfold Lx.f2; omega) | exact fun g => h224 g.2.2.2.2.1 | exact fun g => hc234 g.2.2.2.2.2), (.of rfl)⟩
          refine DO.guarded rfl rfl rfl (QT.toB (q_eql rfl rfl) (decide_eq_false h215)) ?_
          refine DO.q rfl (q_pick1 rfl rfl) (DO.q rfl (q_move rfl) (DO.passed rfl rfl rfl (DO.passed rfl rfl rfl (DO.passed rfl rfl rfl (DO.passed rfl rfl rfl (DO.passed rfl rfl rfl (DO.passed rfl rfl rfl (DO.passed rfl rfl rfl ?_))))))))
          refine DO.q rfl (q_pick0 rfl rfl) (DO.q rfl (q_move rfl) (DO.passed rfl rfl rfl (DO.passed rfl rfl rfl (DO.passed rfl rfl rfl (DO.passed rfl rfl rfl (DO.passed rfl rfl rfl (DO.passed rfl rfl rfl (DO.passed rfl rfl rfl ?_))))))))
          refine DO.q rfl (q_pick0 rfl rfl) ?_
          refine DO.done ?_
          refine T.cond0 rfl (T.skip (T.rg (TO.qm rfl (TO.q (q_addN (a := u) (b := 1) rfl rfl (by omega)) (TO.qa rfl (TO.nl ?_))))))
          exact ⟨u + 1, by omega, rfl, by omega, hVu.step (by first | exact fun g => h205 g.2.2.1 | exact fun g => absurd g.2.2.2.1 (by unfold Lx.f2; omega) | exact fun g => h224 g.2.2.2.2.1 | exact fun g => hc234 g.2.2.2.2.2), (.of rfl)⟩
         refine DO.q rfl (QT.toB (q_ld uT4 rfl rfl (rowO (mG 2 rfl)) (bools_atD hus)) (Bool.eq_false_iff.2 h205)) (DO.q rfl (q_move rfl) (DO.passed rfl rfl rfl (DO.passed rfl rfl rfl (DO.passed rfl rfl rfl (DO.passed rfl rfl rfl (DO.passed rfl rfl rfl (DO.passed rfl rfl rfl (DO.passed rfl rfl rfl ?_))))))))
         refine DO.passed rfl rfl rfl (DO.passed rfl rfl rfl (DO.q rfl (q_pick0 rfl rfl) (DO.q rfl (q_move rfl) (DO.passed rfl rfl rfl (DO.passed rfl rfl rfl (DO.passed rfl rfl rfl (DO.passed rfl rfl rfl (DO.passed rfl rfl rfl ?_))))))))
         refine DO.passed rfl rfl rfl (DO.passed rfl rfl rfl (DO.q rfl (q_pick0 rfl rfl) (DO.q rfl (q_move rfl) (DO.passed rfl rfl rfl (DO.passed rfl rfl rfl (DO.passed rfl rfl rfl (DO.passed rfl rfl rfl (DO.passed rfl rfl rfl ?_))))))))
         refine DO.passed rfl rfl rfl (DO.passed rfl rfl rfl (DO.q rfl (q_pick0 rfl rfl) ?_))
         refine DO.done ?_
         refine T.cond0 rfl (T.skip (T.rg (TO.qm rfl (TO.q (q_addN (a := u) (b := 1) rfl rfl (by omega)) (TO.qa rfl (TO.nl ?_))))))
         exact ⟨u + 1, by omega, rfl, by omega, hVu.step (by first | exact fun g => h205 g.2.2.1 | exact fun g => absurd g.2.2.2.1 (by unfold Lx.f2; omega) | exact fun g => h224 g.2.2.2.2.1 | exact fun g => hc234 g.2.2.2.2.2), (.of rfl)⟩
        have hge199 : ¬ prN p (a / q.next.length) = i := by omega
        have hcn : ¬ Lx.f1 p q a = i := by unfold Lx.f1; omega
        refine T.exit ?_
        refine T.rg (TO.qm rfl (TO.q (q_addN (a := a) (b := 1) rfl rfl (by omega)) (TO.qa rfl (TO.nl ?_))))
        exact ⟨a + 1, by omega, rfl, by omega, hVu.next (by first | exact .inr (fun g => h187 g.1) | exact .inr (fun g => hcn g.2) | exact .inl (by omega)), (.of rfl)⟩
       refine DO.guarded rfl rfl rfl (QT.toB (q_ld uT4 rfl rfl (rowO (mG 2 rfl)) (bools_atD has)) (Bool.eq_false_iff.2 h187)) ?_
       refine DO.q rfl (q_pick1 rfl rfl) (DO.q rfl (q_move rfl) (DO.passed rfl rfl rfl (DO.passed rfl rfl rfl (DO.passed rfl rfl rfl (DO.passed rfl rfl rfl (DO.passed rfl rfl rfl (DO.passed rfl rfl rfl (DO.passed rfl rfl rfl ?_))))))))
       refine DO.passed rfl rfl rfl (DO.passed rfl rfl rfl (DO.q rfl (q_pick0 rfl rfl) ?_))
       refine DO.done ?_
       refine T.cond0 rfl ?_
       refine T.exit ?_
       refine T.rg (TO.qm rfl (TO.q (q_addN (a := a) (b := 1) rfl rfl (by omega)) (TO.qa rfl (TO.nl ?_))))
       exact ⟨a + 1, by omega, rfl, by omega, hVu.next (by first | exact .inr (fun g => h187 g.1) | exact .inr (fun g => hcn g.2) | exact .inl (by omega)), (.of rfl)⟩
      refine DO.q rfl (QT.toB (q_lss rfl rfl) (decide_eq_false h182)) (DO.q rfl (q_move rfl) (DO.passed rfl rfl rfl (DO.passed rfl rfl rfl (DO.passed rfl rfl rfl (DO.passed rfl rfl rfl (DO.q rfl (q_pick0 rfl rfl) (DO.q rfl (q_move rfl) (DO.passed rfl rfl rfl (DO.passed rfl rfl rfl ?_)))))))))
      refine DO.passed rfl rfl rfl (DO.passed rfl rfl rfl (DO.passed rfl rfl rfl (DO.passed rfl rfl rfl (DO.passed rfl rfl rfl (DO.passed rfl rfl rfl (DO.passed rfl rfl rfl (DO.q rfl (q_pick0 rfl rfl) ?_)))))))
      refine DO.done ?_
      refine T.cond0 rfl ?_
      refine T.exit ?_
      refine T.rg (TO.qm rfl (TO.q (q_addN (a := a) (b := 1) rfl rfl (by omega)) (TO.qa rfl (TO.nl ?_))))
      exact ⟨a + 1, by omega, rfl, by omega, hVu.next (by first | exact .inr (fun g => h187 g.1) | exact .inr (fun g => hcn g.2) | exact .inl (by omega)), (.of rfl)⟩
     have hge175 : ¬ a < p.next.length * q.next.length := by omega
     have hnj : (i : Int) ∈ p.prio → (j : Int) ∈ q.prio → ¬ HasIJ p q i j := fun _ _ g => vu_fin hVa (by omega) (hiff.1 g)
     refine T.exit ?_
     refine T.rg (TO.qm rfl (TO.q (q_addN (a := j) (b := 2) rfl rfl (by omega)) (TO.qa rfl ?_)))
     refine TO.sub (O' := [rowI qs[st].b qs[st].c 4 1 (bools xs), rowI (aD z10) (p.next.length * q.next.length) 4 1 (bools ss3), rowI xb xc 23 1 (vals rs), rowI none 0 3 1 [], oI z3 25 [(vI p.vars), (vI 0), (.slice xb (p.next.length * q.next.length) xc), nS], oI z2 25 (pC q k2), oI z1 25 (pC p k)] ++ (itms 3 rs)) (Sub.cnt ([rowI rb rc 81 1 (bvals ms)] ++ (bitms 4 ms)) (by intro a; simp only [itms, bitms, oI, List.set_cons_zero, List.set_cons_succ, putL, List.cons_append, List.nil_append, List.append_nil, List.append_assoc, List.map_append, List.map_cons, List.map_nil, cnt_append, cnt_cons, cnt_nil, vI, nS, aD] <;> omega)) ?_
     refine TO.nl ?_
     exact ⟨j + 2, by omega, ss3, rfl, by omega, by omega, hSi.len, hDj.step hne (by first | exact hnj | exact fun h8 _ => absurd h8 h159 | exact fun _ h8 => absurd h8 h165), (.of rfl)⟩
    have hk165 := fun (w1 : World) (hI : Inv w ([rowI qs[st].b qs[st].c 4 1 (bools xs), rowI (aD z10) (p.next.length * q.next.length) 4 1 (bools ss3), rowI xb xc 23 1 (vals rs), rowI none 0 3 1 [], oI z3 25 [(vI p.vars), (vI 0), (.slice xb (p.next.length * q.next.length) xc), nS], oI z2 25 (pC q k2), oI z1 25 (pC p k)] ++ (itms 3 rs)) w1) => (haveI := tbz hI; hasR w1 k2.fb k2.fc q.prio ((j : Nat) : Int) (hI.sl h2.prio) (by omega))
    refine TO.gd rfl rfl rfl (l_call ent72 (CallT.op hk165) rfl ?_)
    clear hk165
    rintro vr O' ⟨N, rfl, rfl, rfl⟩
    rw [decide_eq_false h165]
    refine TO.gq rfl rfl (q_not rfl) (TO.q (q_pick0 rfl rfl) (TO.nl ?_))
    refine T.cond1 rfl ?_
    refine T.exit ?_
    refine T.rg (TO.qm rfl (TO.q (q_addN (a := j) (b := 2) rfl rfl (by omega)) (TO.qa rfl ?_)))
    
    refine TO.nl ?_
    exact ⟨j + 2, by omega, ss3, rfl, by omega, by omega, hSi.len, hDj.step hne (by first | exact hnj | exact fun h8 _ => absurd h8 h159 | exact fun _ h8 => absurd h8 h165), (.of rfl)⟩
   have hk159 := fun (w1 : World) (hI : Inv w ([rowI qs[st].b qs[st].c 4 1 (bools xs), rowI (aD z10) (p.next.length * q.next.length) 4 1 (bools ss3), rowI xb xc 23 1 (vals rs), rowI none 0 3 1 [], oI z3 25 [(vI p.vars), (vI 0), (.slice xb (p.next.length * q.next.length) xc), nS], oI z2 25 (pC q k2), oI z1 25 (pC p k)] ++ (itms 3 rs)) w1) => (haveI := tbz hI; hasR w1 k.fb k.fc p.prio ((i : Nat) : Int) (hI.sl h.prio) (by omega))
   refine TO.l rfl (l_call ent72 (CallT.op hk159) rfl ?_)
   clear hk159
   rintro vr O' ⟨N, rfl, rfl, rfl⟩
   rw [decide_eq_false h159]
   refine TO.q (q_not rfl) (TO.qm rfl (TO.pd rfl rfl (TO.pd rfl rfl (TO.pd rfl rfl (TO.pd rfl rfl (TO.pd rfl rfl (TO.q (q_pick1 rfl rfl) (TO.nl ?_))))))))
   refine T.cond1 rfl ?_
   refine T.exit ?_
   refine T.rg (TO.qm rfl (TO.q (q_addN (a := j) (b := 2) rfl rfl (by omega)) (TO.qa rfl ?_)))
   
   refine TO.nl ?_
   exact ⟨j + 2, by omega, ss3, rfl, by omega, by omega, hSi.len, hDj.step hne (by first | exact hnj | exact fun h8 _ => absurd h8 h159 | exact fun _ h8 => absurd h8 h165), (.of rfl)⟩
  have hge117 : ¬ j ≤ 16 := by omega
  refine T.exit ?_
  refine T.rg (TO.qm rfl (TO.q (q_addN (a := i) (b := 1) rfl rfl (by omega)) (TO.qa rfl (TO.nl ?_))))
  exact ⟨i + 1, by omega, ss2, rfl, by omega, hss2, hDj.next (by omega), (.of rfl)⟩
 have hge110 : ¬ i ≤ 16 := by omega
 refine T.exit ?_
 refine T.s (T.rg (TO.qa rfl (TO.nl (T.ret (Res.drop ?_)))))
 refine Res.one (.bool false) Tryd.results34 rfl ?_
 exact ⟨[], Sub.of (List.nil_sublist _), false, rfl, ⟨fun h9 => (by cases h9), fun g => absurd g (hDi.done (by omega))⟩, rfl⟩
end Go.Proofs.YtnikhiohindggaaDoor

